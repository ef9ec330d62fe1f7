/- One text of Next Look ScanF DirD Lscan AddE DirA DirB. (Printed by merge.py.) -/
import Derived.Test.YtgoodpphinakaaaDoorDirS
import Derived.Test.YtgoodpphinakaaaDoorCur3
import Derived.Test.YtgoodpphinakaaaDoorFalike
import Derived.Test.YtgoodpphinakaaaDoorName
namespace Go.Proofs.YtgoodpphinakaaaDoor
open Go.RowKit

def pickF (l : List EntL) (p : EntL → Bool) : EntL × Bool := if dirB l = true then (match l.find? p with | some x => (x, true) | none => (zEnt, false)) else (zEnt, false)
theorem pickF_no (l : List EntL) (p : EntL → Bool) (h : dirB l = false) : pickF l p = (zEnt, false) := by unfold pickF; rw [if_neg (by rw [h]; decide)]
theorem find_none (l : List EntL) (p : EntL → Bool) (h : l.any p = false) : l.find? p = none := by
  rw [List.find?_eq_none]
  intro x hx
  rw [List.any_eq_false] at h
  exact h x hx
theorem pickF_none (l : List EntL) (p : EntL → Bool) (h : l.any p = false) : pickF l p = (zEnt, false) := by
  unfold pickF
  rw [find_none l p h]
  split <;> rfl
theorem pickF_hit (l : List EntL) (p : EntL → Bool) (hd : dirB l = true) (m : Nat) (hm : m < l.length) (h : (l.take m).any p = false) (e : p l[m] = true) : pickF l p = (l[m], true) := by
  unfold pickF
  rw [if_pos hd]
  have hL : ∀ L : List EntL, L = l.take m ++ l[m] :: l.drop (m + 1) → L.find? p = some l[m] := by
    intro L e1
    rw [e1, List.find?_append, find_none _ _ h, Option.none_or, List.find?_cons_of_pos e]
  rw [hL l (by rw [← List.drop_eq_getElem_cons hm, List.take_append_drop])]
theorem lessH_turn (h k x i : Int) : lessH h k x i = (!lessH x i h k && (x != h || i != k)) := by
  unfold lessH
  by_cases h1 : h < x
  · rw [decide_eq_true h1, decide_eq_false (show ¬ x < h by omega), decide_eq_false (show ¬ x = h by omega)]
    have : (x != h) = true := by simp; omega
    rw [this]; rfl
  · by_cases h2 : x < h
    · rw [decide_eq_false h1, decide_eq_true h2, decide_eq_false (show ¬ h = x by omega)]; rfl
    · have : x = h := by omega
      subst this
      by_cases h3 : k < i
      · have : (i != k) = true := by simp; omega
        simp [h3, this, show ¬ i < k by omega]
      · by_cases h4 : i < k
        · simp [h3, h4]
        · have : i = k := by omega
          subst this
          simp
def zW (w : World) (e : TypeId) : World := w.alloc (.cells #[.int .i64 0, .int .i64 0, .string ByteArray.empty, .int .i64 0] e)
theorem z_frozen (w : World) (e : TypeId) (j : Nat) : (w.alloc (.cells #[.int .i64 0, .int .i64 0, .string ByteArray.empty, .int .i64 0] e)).frozen? ⟨w.heap.size, j, none⟩ = false := by go_simp
theorem frozK {B : Nat} {w w' : World} {b j : Nat} (h : w.frozen? ⟨b, j, none⟩ = false) (hb : Below B w w') (hlt : b < B) : w'.frozen? ⟨b, j, none⟩ = false :=
  (hb.frozen (p := ⟨b, j, none⟩) hlt).trans h
theorem zero_kept {w w' : World} {e : TypeId} (hb : Below (w.alloc (.cells #[.int .i64 0, .int .i64 0, .string ByteArray.empty, .int .i64 0] e)).heap.size (w.alloc (.cells #[.int .i64 0, .int .i64 0, .string ByteArray.empty, .int .i64 0] e)) w') :
    (w'.cell? ⟨w.heap.size, 0, none⟩ = some (.int .i64 0) ∧ w'.cell? ⟨w.heap.size, 1, none⟩ = some (.int .i64 0) ∧ w'.cell? ⟨w.heap.size, 2, none⟩ = some (.string ByteArray.empty) ∧ w'.cell? ⟨w.heap.size, 3, none⟩ = some (.int .i64 0)) ∧ (w'.frozen? ⟨w.heap.size, 0, none⟩ = false ∧ w'.frozen? ⟨w.heap.size, 1, none⟩ = false ∧ w'.frozen? ⟨w.heap.size, 2, none⟩ = false ∧ w'.frozen? ⟨w.heap.size, 3, none⟩ = false) := by
  obtain ⟨c0, c1, c2, c3⟩ := box4 w e (.int .i64 0) (.int .i64 0) (.string ByteArray.empty) (.int .i64 0)
  exact ⟨⟨cellK c0 hb, cellK c1 hb, cellK c2 hb, cellK c3 hb⟩, frozK (z_frozen w e 0) hb (by simp), frozK (z_frozen w e 1) hb (by simp), frozK (z_frozen w e 2) hb (by simp), frozK (z_frozen w e 3) hb (by simp)⟩
theorem set4 {w w' : World} (h : Below w.heap.size w w') (u0 u1 u2 u3 : Value) : Below w.heap.size w ((((w'.setCell ⟨w.heap.size, 0, none⟩ u0).setCell ⟨w.heap.size, 1, none⟩ u1).setCell ⟨w.heap.size, 2, none⟩ u2).setCell ⟨w.heap.size, 3, none⟩ u3) :=
  (((h.setCell (Nat.le_refl _) _).setCell (Nat.le_refl _) _).setCell (Nat.le_refl _) _).setCell (Nat.le_refl _) _
def nextF (l : List EntL) (h k : Int) : EntL × Bool := pickF l (fun x => lessH h k x.hash x.index)
set_option maxRecDepth 1000000 in
set_option maxHeartbeats 6000000 in
theorem implNext_any (a : Option Addr) (n cap : Nat) (l : List EntL) (h k : Int) (w : World) (hr : Rd w a n cap 4 (ens l)) (hs : ∀ x ∈ l, x.name.size ≤ 1073741824) (hT : KTab w) :
    Calls Tryd.prog 38 #[.slice a n cap, .int .i64 h, .int .i64 k] w fun e w' => e = .returned (.tuple #[enV (nextF l h k).1, .bool (nextF l h k).2]) ∧ Below w.heap.size w w' := by
  have hl : l.length = n := by have := hr.len; simp at this; omega
  subst hl
  have hm : l.length ≤ maxLen := Nat.le_trans hr.le hr.max
  unfold maxLen at hm
  have H := Lib.hid hr
  have HT := Lib.hid hT
  have HSZ := Lib.hid hs
  clear hr hT hs
  go_enter Tryd.func38, Tryd.ntmps38
  go_wp2_with fail
  refine (implDirOk_any a _ cap l _ (H.out.alloc _) HSZ.out (HT.out.below (boxA w _) (Nat.le_refl _))).mono ?_
  rintro e w1 ⟨rfl, hb⟩
  have HB0 := Lib.hid hb
  have HB1 := Lib.hid (below_step1 (boxA w _) hb)
  clear hb
  cases hd : dirB l with
  | false =>
    have HE := Lib.hid (pickF_no l (fun x => lessH h k x.hash x.index) hd)
    obtain ⟨⟨c0, c1, c2, c3⟩, f0, f1, f2, f3⟩ := zero_kept HB0.out
    have hz : w.heap.size < w1.heap.size := World.block_lt_of_cell? w1 _ c0
    clear hd
    go_wp2
    refine bodyPost_ret (v := .tuple #[.agg #[.int .i64 0, .int .i64 0, .string ByteArray.empty, .int .i64 0], .bool false]) (by simp [results, Tryd.results38, go_sem, c0, c1, c2, c3] <;> rfl) rfl ?_
    exact ⟨by unfold nextF; rw [HE.out]; rfl, set4 HB1.out _ _ _ _⟩
  | true =>
    have HD := Lib.hid hd
    clear hd
    go_wp2
    go_loopg [16] l.length (fun gg i wr => ∃ m : Nat, m + gg = l.length ∧ i = .int .i64 (m : Int) ∧ Hid ((l.take m).any (fun x => lessH h k x.hash x.index) = false) ∧ Hid (Below w1.heap.size w1 wr))
    case atStart => exact ⟨0, by omega, rfl, Lib.hid rfl, Lib.hid (Below.refl _ _)⟩
    case round =>
      obtain ⟨m, hm2, rfl, HM, HB2⟩ := hrel
      have HBW := Lib.hid (below_step1 HB1.out HB2.out)
      have HBZ := Lib.hid (below_step1 HB0.out HB2.out)
      by_cases hlt : m < l.length
      · obtain ⟨b, off, rfl, hbs, d0, d1, d2, d3⟩ := ens_cells (H.out.below HBW.out (Nat.le_refl _)) m hlt
        have HH : Hid (lessH h k l[m].hash l[m].index = true → nextF l h k = (l[m], true)) := Lib.hid (fun e => pickF_hit l _ HD.out m hlt HM.out e)
        have HN : Hid (lessH h k l[m].hash l[m].index = false → (l.take (m + 1)).any (fun x => lessH h k x.hash x.index) = false) := Lib.hid (fun e => any_next l m hlt _ HM.out e)
        have hi : (m : Int) < (l.length : Int) := by omega
        generalize l[m] = x at *
        obtain ⟨xh, xi, xn, xd⟩ := x
        simp only at d0 d1 d2 d3
        clear hlt
        obtain ⟨b0, b1, b2, b3⟩ := box4 wr 46 (.int .i64 xh) (.int .i64 xi) (.string xn) (.int .i64 xd)
        have HBX := Lib.hid (boxA wr (.cells #[.int .i64 xh, .int .i64 xi, .string xn, .int .i64 xd] 46))
        have HBEH : Hid (∀ W, Calls Tryd.prog 70 #[.agg #[.int .i64 xh, .int .i64 xi, .string xn, .int .i64 xd], .int .i64 h, .int .i64 k] W fun e w' => e = .returned (.bool (lessH h k xh xi)) ∧ Below W.heap.size W w') := Lib.hid (fun W => isBehind_any ⟨xh, xi, xn, xd⟩ h k W)
        have HX := Lib.hid (And.intro b0 (And.intro b1 (And.intro b2 b3)))
        clear b0 b1 b2 b3
        try simp only at HH HN
        go_wp2_with fail
        refine (HBEH.out _).mono ?_
        rintro e w3 ⟨rfl, hb⟩
        obtain ⟨b0, b1, b2, b3⟩ := HX.out
        replace b0 := cellK b0 hb
        replace b1 := cellK b1 hb
        replace b2 := cellK b2 hb
        replace b3 := cellK b3 hb
        have HB3 := Lib.hid (below_step1 HB2.out (below_step1 HBX.out hb))
        have hz3 : wr.heap.size < w3.heap.size := World.block_lt_of_cell? w3 _ b0
        clear hb
        cases hq : lessH h k xh xi with
        | true =>
          have HE := Lib.hid (HH.out hq)
          have HB4 := Lib.hid (below_step1 HB1.out HB3.out)
          obtain ⟨⟨c0, c1, c2, c3⟩, f0, f1, f2, f3⟩ := zero_kept (below_step1 HB0.out HB3.out)
          have hz : w.heap.size < w3.heap.size := World.block_lt_of_cell? w3 _ c0
          have hzn : wr.heap.size ≠ w.heap.size := by have := World.block_lt_of_cell? wr _ (zero_kept HBZ.out).1.1; simp at this; omega
          clear hq d0 d1 d2 d3
          go_wp2
          refine bodyPost_ret (v := .tuple #[.agg #[.int .i64 xh, .int .i64 xi, .string xn, .int .i64 xd], .bool true]) (by simp [results, Tryd.results38, go_sem, c0, c1, c2, c3] <;> rfl) rfl ?_
          exact ⟨by rw [HE.out]; rfl, set4 HB4.out _ _ _ _⟩
        | false =>
          have HE := Lib.hid (HN.out hq)
          clear hq d0 d1 d2 d3
          go_wp2
          go_roundg (gk - 1)
          case measure => omega
          case rel => exact ⟨m + 1, by omega, by go_num, HE, HB3⟩
      · have hlm : m = l.length := by omega
        subst hlm
        rw [List.take_length] at HM
        have HE := Lib.hid (pickF_none l _ HM.out)
        obtain ⟨⟨c0, c1, c2, c3⟩, f0, f1, f2, f3⟩ := zero_kept HBZ.out
        have hz : w.heap.size < wr.heap.size := World.block_lt_of_cell? wr _ c0
        go_wp2
        refine bodyPost_ret (v := .tuple #[.agg #[.int .i64 0, .int .i64 0, .string ByteArray.empty, .int .i64 0], .bool false]) (by simp [results, Tryd.results38, go_sem, c0, c1, c2, c3] <;> rfl) rfl ?_
        exact ⟨by unfold nextF; rw [HE.out]; rfl, set4 HBW.out _ _ _ _⟩
set_option maxRecDepth 1000000 in
set_option maxHeartbeats 6000000 in
theorem specNext_any (a : Option Addr) (n cap : Nat) (l : List EntL) (h k : Int) (w : World) (hr : Rd w a n cap 4 (ens l)) (hs : ∀ x ∈ l, x.name.size ≤ 1073741824) :
    Calls Tryd.prog 37 #[.slice a n cap, .int .i64 h, .int .i64 k] w fun e w' => e = .returned (.tuple #[enV (nextF l h k).1, .bool (nextF l h k).2]) ∧ Below w.heap.size w w' := by
  have hl : l.length = n := by have := hr.len; simp at this; omega
  subst hl
  have hm : l.length ≤ maxLen := Nat.le_trans hr.le hr.max
  unfold maxLen at hm
  have H := Lib.hid hr
  have HSZ := Lib.hid hs
  clear hr hs
  go_enter Tryd.func37, Tryd.ntmps37
  go_wp2_with fail
  refine (specDirOk_any a _ cap l _ (H.out.alloc _) HSZ.out).mono ?_
  rintro e w1 ⟨rfl, hb⟩
  have HB0 := Lib.hid hb
  have HB1 := Lib.hid (below_step1 (boxA w _) hb)
  clear hb
  cases hd : dirB l with
  | false =>
    have HE := Lib.hid (pickF_no l (fun x => lessH h k x.hash x.index) hd)
    obtain ⟨⟨c0, c1, c2, c3⟩, f0, f1, f2, f3⟩ := zero_kept HB0.out
    have hz : w.heap.size < w1.heap.size := World.block_lt_of_cell? w1 _ c0
    clear hd
    go_wp2
    refine bodyPost_ret (v := .tuple #[.agg #[.int .i64 0, .int .i64 0, .string ByteArray.empty, .int .i64 0], .bool false]) (by simp [results, Tryd.results37, go_sem, c0, c1, c2, c3] <;> rfl) rfl ?_
    exact ⟨by unfold nextF; rw [HE.out]; rfl, set4 HB1.out _ _ _ _⟩
  | true =>
    have HD := Lib.hid hd
    clear hd
    go_wp2
    go_loopg [8] l.length (fun gg i wr => ∃ m : Nat, m + gg = l.length ∧ i = .int .i64 (m : Int) ∧ Hid ((l.take m).any (fun x => lessH h k x.hash x.index) = false) ∧ Hid (Below w1.heap.size w1 wr))
    case atStart => exact ⟨0, by omega, rfl, Lib.hid rfl, Lib.hid (Below.refl _ _)⟩
    case round =>
      obtain ⟨m, hm2, rfl, HM, HB2⟩ := hrel
      have HBW := Lib.hid (below_step1 HB1.out HB2.out)
      have HBZ := Lib.hid (below_step1 HB0.out HB2.out)
      by_cases hlt : m < l.length
      · obtain ⟨b, off, rfl, hbs, d0, d1, d2, d3⟩ := ens_cells (H.out.below HBW.out (Nat.le_refl _)) m hlt
        have HH : Hid (lessH h k l[m].hash l[m].index = true → nextF l h k = (l[m], true)) := Lib.hid (fun e => pickF_hit l _ HD.out m hlt HM.out e)
        have HN : Hid (lessH h k l[m].hash l[m].index = false → (l.take (m + 1)).any (fun x => lessH h k x.hash x.index) = false) := Lib.hid (fun e => any_next l m hlt _ HM.out e)
        have hi : (m : Int) < (l.length : Int) := by omega
        generalize l[m] = x at *
        obtain ⟨xh, xi, xn, xd⟩ := x
        simp only at d0 d1 d2 d3
        clear hlt
        have HLS : Hid (∀ W, Calls Tryd.prog 66 #[.agg #[.int .i64 xh, .int .i64 xi, .string xn, .int .i64 xd], .int .i64 h, .int .i64 k] W fun e w' => e = .returned (.bool (lessH xh xi h k)) ∧ Below W.heap.size W w') := Lib.hid (fun W => l5Less_any ⟨xh, xi, xn, xd⟩ h k W)
        have HTU := Lib.hid (lessH_turn h k xh xi)
        try simp only at HH HN
        go_wp2_with fail
        refine (HLS.out _).mono ?_
        rintro e w3 ⟨rfl, hb⟩
        have hi0 : (0 : Int) ≤ (m : Int) := by omega
        replace d0 := cellK d0 hb
        replace d1 := cellK d1 hb
        replace d2 := cellK d2 hb
        replace d3 := cellK d3 hb
        have HB3 := Lib.hid (below_step1 HB2.out hb)
        have HB4 := Lib.hid (below_step1 HB1.out HB3.out)
        have hbs3 : b < w3.heap.size := World.block_lt_of_cell? w3 _ d0
        clear hb hbs
        obtain ⟨⟨c0, c1, c2, c3⟩, f0, f1, f2, f3⟩ := zero_kept (below_step1 HB0.out HB3.out)
        have hz : w.heap.size < w3.heap.size := World.block_lt_of_cell? w3 _ c0
        cases hq : lessH xh xi h k with
        | true =>
          have HE := Lib.hid (HN.out (by rw [HTU.out, hq]; rfl))
          clear hq
          go_wp2
          go_roundg (gk - 1)
          case measure => omega
          case rel => exact ⟨m + 1, by omega, by go_num, HE, HB3⟩
        | false =>
          have HQ := Lib.hid hq
          clear hq
          by_cases hxh : xh = h
          · by_cases hxi : xi = k
            · have HE := Lib.hid (HN.out (by rw [HTU.out, HQ.out, hxh, hxi]; simp))
              subst hxh hxi
              go_wp2
              go_roundg (gk - 1)
              case measure => omega
              case rel => exact ⟨m + 1, by omega, by go_num, HE, HB3⟩
            · have HE := Lib.hid (HH.out (by rw [HTU.out, HQ.out, hxh]; simp [hxi]))
              subst hxh
              have hne : (xi != k) = true := by simp [hxi]
              have hne2 : (xi == k) = false := by simp [hxi]
              clear hxi
              go_wp2
              refine bodyPost_ret (v := .tuple #[.agg #[.int .i64 xh, .int .i64 xi, .string xn, .int .i64 xd], .bool true]) (by simp [results, Tryd.results37, go_sem, c0, c1, c2, c3] <;> rfl) rfl ?_
              exact ⟨by rw [HE.out]; rfl, set4 HB4.out _ _ _ _⟩
          · have HE := Lib.hid (HH.out (by rw [HTU.out, HQ.out]; simp [hxh]))
            have hne : (xh != h) = true := by simp [hxh]
            have hne2 : (xh == h) = false := by simp [hxh]
            clear hxh
            go_wp2
            refine bodyPost_ret (v := .tuple #[.agg #[.int .i64 xh, .int .i64 xi, .string xn, .int .i64 xd], .bool true]) (by simp [results, Tryd.results37, go_sem, c0, c1, c2, c3] <;> rfl) rfl ?_
            exact ⟨by rw [HE.out]; rfl, set4 HB4.out _ _ _ _⟩
      · have hlm : m = l.length := by omega
        subst hlm
        rw [List.take_length] at HM
        have HE := Lib.hid (pickF_none l _ HM.out)
        obtain ⟨⟨c0, c1, c2, c3⟩, f0, f1, f2, f3⟩ := zero_kept HBZ.out
        have hz : w.heap.size < wr.heap.size := World.block_lt_of_cell? wr _ c0
        go_wp2
        refine bodyPost_ret (v := .tuple #[.agg #[.int .i64 0, .int .i64 0, .string ByteArray.empty, .int .i64 0], .bool false]) (by simp [results, Tryd.results37, go_sem, c0, c1, c2, c3] <;> rfl) rfl ?_
        exact ⟨by unfold nextF; rw [HE.out]; rfl, set4 HBW.out _ _ _ _⟩
set_option maxRecDepth 1000000 in
set_option maxHeartbeats 6000000 in
theorem lawNext_walk (a : Option Addr) (n c : Nat) (l : List EntL) (h : Int) (_wh : (Lit.int .i64 h).wf = true) (k : Int) (_wk : (Lit.int .i64 k).wf = true) (w : World) (hs : ∀ s ∈ l, OkInt s.hash ∧ OkInt s.index ∧ s.name.size ≤ maxLen ∧ OkInt s.id) (hr : Rd w a n c 4 (ens l)) (hT : KTab w) :
    Calls Tryd.prog 10 #[.slice a n c, .int .i64 h, .int .i64 k] w fun e w' => e = .returned (.bool true) ∧ Below w.heap.size w w' := by
  have hl : l.length = n := by have := hr.len; simp at this; omega
  subst hl
  obtain ⟨R, hR⟩ : ∃ R, R = nextF l h k := ⟨_, rfl⟩
  obtain ⟨⟨xh, xi, xn, xd⟩, ok⟩ := R
  have HI : Hid (∀ p q W, Rd W p l.length q 4 (ens l) → (∀ x ∈ l, x.name.size ≤ 1073741824) → KTab W → Calls Tryd.prog 38 #[.slice p l.length q, .int .i64 h, .int .i64 k] W fun e w' => e = .returned (.tuple #[.agg #[.int .i64 xh, .int .i64 xi, .string xn, .int .i64 xd], .bool ok]) ∧ Below W.heap.size W w') := Lib.hid (fun p q W hh hn hk => by have := implNext_any p l.length q l h k W hh hn hk; rw [← hR] at this; exact this)
  have HS : Hid (∀ p q W, Rd W p l.length q 4 (ens l) → (∀ x ∈ l, x.name.size ≤ 1073741824) → Calls Tryd.prog 37 #[.slice p l.length q, .int .i64 h, .int .i64 k] W fun e w' => e = .returned (.tuple #[.agg #[.int .i64 xh, .int .i64 xi, .string xn, .int .i64 xd], .bool ok]) ∧ Below W.heap.size W w') := Lib.hid (fun p q W hh hn => by have := specNext_any p l.length q l h k W hh hn; rw [← hR] at this; exact this)
  have HEQ : Hid (∀ W, Calls Tryd.prog 39 #[.agg #[.int .i64 xh, .int .i64 xi, .string xn, .int .i64 xd], .agg #[.int .i64 xh, .int .i64 xi, .string xn, .int .i64 xd]] W fun e w' => e = .returned (.bool true) ∧ Below W.heap.size W w') := Lib.hid (fun W => eqEnt_yes ⟨xh, xi, xn, xd⟩ W)
  clear hR _wh _wk
  have H1 := Lib.hid hr
  have HT := Lib.hid hT
  have HSZ := Lib.hid (fun s hh => (hs s hh).2.2.1)
  clear hr hs hT
  go_enter Tryd.func10, Tryd.ntmps10
  go_wp2_with fail
  refine (szEnts_any _ _ _ l 1048576 _ H1.out HSZ.out (by omega) (by omega)).mono ?_
  rintro e w1 ⟨x, rfl, hx, hxl, hok, hb⟩
  replace H1 := Lib.hid (H1.out.below hb (Nat.le_refl _))
  have HC := Lib.hid hb
  clear hb
  by_cases hx0 : x < 0
  · clear hok
    go_wp2
    go_ret
    exact ⟨rfl, HC.out⟩
  · obtain ⟨hn, hnm⟩ := hok (by omega)
    have hn : l.length ≤ 1048576 := by omega
    have HNM : Hid (∀ x ∈ l, x.name.size ≤ 1073741824) := Lib.hid (fun x hx => by have := hnm x hx; omega)
    clear hok hnm
    go_wp2_with fail
    refine (toEnts_any _ _ _ l _ H1.out hn).mono ?_
    rintro e w2 ⟨g1, q1, rfl, hO⟩
    have HV := Lib.hid hO.rd
    replace H1 := Lib.hid (H1.out.below hO.below (Nat.le_refl _))
    replace HC := Lib.hid (below_step1 HC.out hO.below)
    clear hO
    go_wp2_with fail
    refine (HS.out _ _ _ HV.out HNM.out).mono ?_
    rintro e w3 ⟨rfl, hb⟩
    replace H1 := Lib.hid (H1.out.below hb (Nat.le_refl _))
    replace HC := Lib.hid (below_step1 HC.out hb)
    clear hb HV
    go_wp2_with fail
    obtain ⟨c0, c1, c2, c3⟩ := box4 w3 46 (.int .i64 xh) (.int .i64 xi) (.string xn) (.int .i64 xd)
    replace H1 := Lib.hid (H1.out.alloc (.cells #[.int .i64 xh, .int .i64 xi, .string xn, .int .i64 xd] 46))
    replace HC := Lib.hid (below_step1 HC.out (boxA w3 (.cells #[.int .i64 xh, .int .i64 xi, .string xn, .int .i64 xd] 46)))
    refine (toEnts_any _ _ _ l _ H1.out hn).mono ?_
    rintro e w4 ⟨g2, q2, rfl, hO⟩
    have HV := Lib.hid hO.rd
    replace H1 := Lib.hid (H1.out.below hO.below (Nat.le_refl _))
    replace HC := Lib.hid (below_step1 HC.out hO.below)
    replace c0 := cellK c0 hO.below
    replace c1 := cellK c1 hO.below
    replace c2 := cellK c2 hO.below
    replace c3 := cellK c3 hO.below
    clear hO
    go_wp2_with fail
    refine (HI.out _ _ _ HV.out HNM.out (HT.out.below HC.out (Nat.le_refl _))).mono ?_
    rintro e w5 ⟨rfl, hb⟩
    replace H1 := Lib.hid (H1.out.below hb (Nat.le_refl _))
    replace HV := Lib.hid (HV.out.below hb (Nat.le_refl _))
    replace HC := Lib.hid (below_step1 HC.out hb)
    replace c0 := cellK c0 hb
    replace c1 := cellK c1 hb
    replace c2 := cellK c2 hb
    replace c3 := cellK c3 hb
    have hz5 : w3.heap.size < w5.heap.size := World.block_lt_of_cell? w5 _ c0
    clear hb
    go_wp2_with fail
    obtain ⟨k0, k1, k2, k3⟩ := box4 w5 46 (.int .i64 xh) (.int .i64 xi) (.string xn) (.int .i64 xd)
    have HBX := Lib.hid (boxA w5 (.cells #[.int .i64 xh, .int .i64 xi, .string xn, .int .i64 xd] 46))
    replace H1 := Lib.hid (H1.out.below HBX.out (Nat.le_refl _))
    replace HV := Lib.hid (HV.out.below HBX.out (Nat.le_refl _))
    replace HC := Lib.hid (below_step1 HC.out HBX.out)
    refine (HEQ.out _).mono ?_
    rintro e w6 ⟨rfl, hb⟩
    replace H1 := Lib.hid (H1.out.below hb (Nat.le_refl _))
    replace HV := Lib.hid (HV.out.below hb (Nat.le_refl _))
    replace HC := Lib.hid (below_step1 HC.out hb)
    clear hb c0 c1 c2 c3 k0 k1 k2 k3
    have hne : (ok != ok) = false := by simp
    have hne2 : (ok == ok) = true := by simp
    go_wp2_with fail
    refine (toEnts_any _ _ _ l _ H1.out hn).mono ?_
    rintro e w7 ⟨g3, q3, rfl, hO⟩
    have HZ := Lib.hid hO.rd
    replace HV := Lib.hid (HV.out.below hO.below (Nat.le_refl _))
    replace HC := Lib.hid (below_step1 HC.out hO.below)
    clear hO
    go_wp2_with fail
    refine (eqEnts_yes _ _ _ _ _ _ l _ HV.out HZ.out (by omega)).mono ?_
    rintro e w8 ⟨rfl, hb⟩
    replace HC := Lib.hid (below_step1 HC.out hb)
    clear hb
    go_wp2
    go_ret
    exact ⟨rfl, HC.out⟩
theorem dir_names (l : List EntL) (h : dirB l = true) (x : EntL) (hx : x ∈ l) : nameB x.name = true := by
  obtain ⟨i, hi, e⟩ := List.mem_iff_getElem.1 hx
  unfold dirB at h
  simp only [Bool.and_eq_true] at h
  have h1 := entOk_row (dirUp_at l _ h.2 i hi)
  rw [getD_ent l i hi, e] at h1
  exact row_name h1
def hitB (key : ByteArray) (x : EntL) : Bool := (keyR x.name).toList == key.toList
theorem hit_alike (s : ByteArray) (hs : nameB s = true) (x : EntL) (hx : nameB x.name = true) : hitB (keyS s) x = alikeB x.name s := by
  unfold hitB alikeB keyR
  rw [hs, hx, if_pos rfl]
  rfl
theorem hits_alike (s : ByteArray) (hs : nameB s = true) (m : List EntL) (hx : ∀ x ∈ m, nameB x.name = true) : m.any (hitB (keyS s)) = m.any (fun x => alikeB x.name s) := by
  induction m with
  | nil => rfl
  | cons d m ih => rw [List.any_cons, List.any_cons, ih (fun x h => hx x (List.mem_cons_of_mem _ h)), hit_alike s hs d (hx d (List.mem_cons_self ..))]
def lookF (l : List EntL) (s : ByteArray) : EntL × Bool := pickF l (fun x => alikeB x.name s)
/-- The place of the first that a test takes, or -1. -/
def AtP (l : List EntL) (p : EntL → Bool) (r : Int) : Prop := (r = -1 ∧ l.any p = false) ∨ ∃ (m : Nat) (hm : m < l.length), r = (m : Int) ∧ (l.take m).any p = false ∧ p l[m] = true
theorem look_bad (l : List EntL) (s : ByteArray) (h : nameB s = false) : lookF l s = (zEnt, false) := by
  refine pickF_none l _ ?_
  rw [List.any_eq_false]
  intro x hx
  unfold alikeB
  rw [h]
  simp
theorem look_none (l : List EntL) (s : ByteArray) (hs : nameB s = true) (h : l.any (hitB (keyS s)) = false) : lookF l s = (zEnt, false) := by
  cases hd : dirB l with
  | false => exact pickF_no l _ hd
  | true => exact pickF_none l _ (by rw [← hits_alike s hs l (fun x hx => dir_names l hd x hx)]; exact h)
theorem look_hit (l : List EntL) (s : ByteArray) (hs : nameB s = true) (hd : dirB l = true) (m : Nat) (hm : m < l.length) (h : (l.take m).any (hitB (keyS s)) = false) (e : hitB (keyS s) l[m] = true) : lookF l s = (l[m], true) := by
  refine pickF_hit l _ hd m hm ?_ ?_
  · rw [← hits_alike s hs _ (fun x hx => dir_names l hd x (List.mem_of_mem_take hx))]; exact h
  · rw [← hit_alike s hs _ (dir_names l hd _ (List.getElem_mem hm))]; exact e
set_option maxRecDepth 1000000 in
set_option maxHeartbeats 6000000 in
theorem entAt1_any (x : EntL) (g : Nat) (key : ByteArray) (w : World) (hs : x.name.size ≤ 1073741824) (hT : KTab w) (hg : w.cell? ⟨g, 0, none⟩ = some (.string key)) :
    Calls Tryd.prog 95 #[enV x, .pointer (some ⟨g, 0, none⟩)] w fun e w' => e = .returned (.bool (hitB key x)) ∧ Below w.heap.size w w' := by
  have HH : Hid (hitB key x = ((keyR x.name).toList == key.toList)) := Lib.hid rfl
  obtain ⟨xh, xi, xn, xd⟩ := x
  unfold enV
  simp only at hs ⊢
  have HT := Lib.hid hT
  have HB := Lib.hid (boxA w (.cells #[.int .i64 xh, .int .i64 xi, .string xn, .int .i64 xd] 46))
  have HG := Lib.hid hg
  try simp only at HH
  clear hT hg
  go_enter Tryd.func95, Tryd.ntmps95
  go_wp2_with fail
  refine (implKeyOf_any xn _ hs (HT.out.below HB.out (Nat.le_refl _))).mono ?_
  rintro e w1 ⟨rfl, hb⟩
  have g1 := cellK (cellK HG.out HB.out) hb
  have HB1 := Lib.hid (below_step1 HB.out hb)
  clear hb
  generalize keyR xn = kx at *
  generalize nameB xn = bx at *
  go_wp2
  go_ret
  exact ⟨ret_bool HH.out.symm, HB1.out⟩
set_option maxRecDepth 1000000 in
set_option maxHeartbeats 6000000 in
theorem idxF_any (a : Option Addr) (n cap : Nat) (l : List EntL) (g : Nat) (key : ByteArray) (w : World) (hr : Rd w a n cap 4 (ens l)) (hs : ∀ x ∈ l, x.name.size ≤ 1073741824) (hT : KTab w) (hg : w.cell? ⟨g, 0, none⟩ = some (.string key)) :
    Calls Tryd.prog 94 #[.slice a n cap, .func (.func 95) #[] #[.pointer (some ⟨g, 0, none⟩)]] w fun e w' => ∃ r, e = .returned (.int .i64 r) ∧ AtP l (hitB key) r ∧ Below w.heap.size w w' := by
  have hl : l.length = n := by have := hr.len; simp at this; omega
  subst hl
  have hm : l.length ≤ maxLen := Nat.le_trans hr.le hr.max
  unfold maxLen at hm
  have H := Lib.hid hr
  have HSZ := Lib.hid hs
  clear hr hs
  have HT := Lib.hid hT
  have HG := Lib.hid hg
  clear hT hg
  go_enter Tryd.func94, Tryd.ntmps94
  go_wp2
  go_loopg [8] l.length (fun gg i wr => ∃ m : Nat, m + gg = l.length ∧ i = .int .i64 (m : Int) ∧ Hid ((l.take m).any (hitB key) = false) ∧ Hid (Below w.heap.size w wr))
  case atStart => exact ⟨0, by omega, rfl, Lib.hid rfl, Lib.hid (Below.refl _ _)⟩
  case round =>
    obtain ⟨m, hm2, rfl, HM, HB2⟩ := hrel
    by_cases hlt : m < l.length
    · obtain ⟨b, off, rfl, hbs, d0, d1, d2, d3⟩ := ens_cells (H.out.below HB2.out (Nat.le_refl _)) m hlt
      have HH : Hid (hitB key l[m] = true → AtP l (hitB key) (m : Int)) := Lib.hid (fun e => .inr ⟨m, hlt, rfl, HM.out, e⟩)
      have HN : Hid (hitB key l[m] = false → (l.take (m + 1)).any (hitB key) = false) := Lib.hid (fun e => any_next l m hlt _ HM.out e)
      have HSX := Lib.hid (HSZ.out l[m] (List.getElem_mem hlt))
      have hi : (m : Int) < (l.length : Int) := by omega
      have hi0 : (0 : Int) ≤ (m : Int) := by omega
      have HCL : Hid (∀ W, Below w.heap.size w W → Calls Tryd.prog 95 #[.agg #[.int .i64 l[m].hash, .int .i64 l[m].index, .string l[m].name, .int .i64 l[m].id], .pointer (some ⟨g, 0, none⟩)] W fun e w' => e = .returned (.bool (hitB key l[m])) ∧ Below W.heap.size W w') := Lib.hid (fun W hW => entAt1_any l[m] g key W HSX.out (HT.out.below hW (Nat.le_refl _)) (cellK HG.out hW))
      generalize l[m] = x at *
      obtain ⟨xh, xi, xn, xd⟩ := x
      try simp only at d0 d1 d2 d3 HCL
      clear hlt
      generalize hitB key ⟨xh, xi, xn, xd⟩ = q at *
      cases q with
      | true =>
        have HE := Lib.hid (HH.out rfl)
        go_wp2_with (go_at_call 95; refine (HCL.out _ HB2.out).mono ?_; rintro e w3 ⟨rfl, hb⟩; have HB3 := Lib.hid (below_step1 HB2.out hb); clear hb)
        go_ret
        exact ⟨_, rfl, HE.out, HB3.out⟩
      | false =>
        have HE := Lib.hid (HN.out rfl)
        go_wp2_with (go_at_call 95; refine (HCL.out _ HB2.out).mono ?_; rintro e w3 ⟨rfl, hb⟩; have HB3 := Lib.hid (below_step1 HB2.out hb); clear hb)
        go_roundg (gk - 1)
        case measure => omega
        case rel => exact ⟨m + 1, by omega, by go_num, HE, HB3⟩
    · have hlm : m = l.length := by omega
      subst hlm
      rw [List.take_length] at HM
      go_wp2
      go_ret
      exact ⟨-1, rfl, .inl ⟨rfl, HM.out⟩, HB2.out⟩
/-- What entAt says of a place. -/
def EntAt (l : List EntL) (s : ByteArray) (r : Int) : Prop := (r = -1 ∧ lookF l s = (zEnt, false)) ∨ ∃ (m : Nat) (hm : m < l.length), r = (m : Int) ∧ (dirB l = true → lookF l s = (l[m], true))
set_option maxRecDepth 1000000 in
set_option maxHeartbeats 6000000 in
theorem entAt_any (a : Option Addr) (n cap : Nat) (l : List EntL) (s : ByteArray) (w : World) (hr : Rd w a n cap 4 (ens l)) (hs : ∀ x ∈ l, x.name.size ≤ 1073741824) (hss : s.size ≤ 1073741824) (hT : KTab w) :
    Calls Tryd.prog 72 #[.slice a n cap, .string s] w fun e w' => ∃ r, e = .returned (.int .i64 r) ∧ EntAt l s r ∧ Below w.heap.size w w' := by
  have hl : l.length = n := by have := hr.len; simp at this; omega
  subst hl
  have hm : l.length ≤ maxLen := Nat.le_trans hr.le hr.max
  unfold maxLen at hm
  have H := Lib.hid hr
  have HSZ := Lib.hid hs
  clear hr hs
  have HT := Lib.hid hT
  clear hT
  go_enter Tryd.func72, Tryd.ntmps72
  go_wp2_with fail
  refine (implKeyOf_any s _ hss HT.out).mono ?_
  rintro e w1 ⟨rfl, hb⟩
  have HB1 := Lib.hid hb
  clear hb
  have HKR : Hid (nameB s = true → keyR s = keyS s) := Lib.hid (fun h => by unfold keyR; rw [if_pos h])
  have HBD : Hid (nameB s = false → lookF l s = (zEnt, false)) := Lib.hid (look_bad l s)
  have HEA : Hid (nameB s = true → ∀ r, AtP l (hitB (keyR s)) r → EntAt l s r) := Lib.hid (fun h r hr => by
    have e : keyR s = keyS s := by unfold keyR; rw [if_pos h]
    rw [e] at hr
    rcases hr with ⟨rfl, h0⟩ | ⟨m, hm, rfl, h0, h1⟩
    · exact .inl ⟨rfl, look_none l s h h0⟩
    · exact .inr ⟨m, hm, rfl, fun hd => look_hit l s h hd m hm h0 h1⟩)
  generalize nameB s = bs at *
  generalize keyR s = key at *
  cases bs with
  | false =>
    have HE := Lib.hid (HBD.out rfl)
    go_wp2
    go_ret
    exact ⟨-1, rfl, .inl ⟨rfl, HE.out⟩, HB1.out.alloc (Nat.le_trans HB1.out.size (Nat.le_refl _)) _⟩
  | true =>
    have HEA2 := Lib.hid (HEA.out rfl)
    have HBK := Lib.hid (boxA w1 (.cells #[.string key] 9))
    have HGK : Hid ((w1.alloc (.cells #[.string key] 9)).cell? ⟨w1.heap.size, 0, none⟩ = some (.string key)) := Lib.hid (by go_simp)
    go_wp2_with fail
    refine (idxF_any a _ cap l w1.heap.size key _ ((H.out.below HB1.out (Nat.le_refl _)).below HBK.out (Nat.le_refl _)) HSZ.out ((HT.out.below HB1.out (Nat.le_refl _)).below HBK.out (Nat.le_refl _)) HGK.out).mono ?_
    rintro e w2 ⟨r, rfl, hr, hb⟩
    have HE := Lib.hid (HEA2.out r hr)
    have HB2 := Lib.hid (below_step1 (below_step1 HB1.out HBK.out) hb)
    clear hr hb
    go_wp2
    go_ret
    exact ⟨r, rfl, HE.out, HB2.out⟩
set_option maxRecDepth 1000000 in
set_option maxHeartbeats 6000000 in
theorem l5At_any (a : Option Addr) (n cap : Nat) (l : List EntL) (s : ByteArray) (w : World) (hr : Rd w a n cap 4 (ens l)) (hs : ∀ x ∈ l, x.name.size ≤ 1073741824) (hss : s.size ≤ 1073741824) :
    Calls Tryd.prog 71 #[.slice a n cap, .string s] w fun e w' => ∃ r, e = .returned (.int .i64 r) ∧ AtP l (fun x => alikeB x.name s) r ∧ Below w.heap.size w w' := by
  have hl : l.length = n := by have := hr.len; simp at this; omega
  subst hl
  have hm : l.length ≤ maxLen := Nat.le_trans hr.le hr.max
  unfold maxLen at hm
  have H := Lib.hid hr
  have HSZ := Lib.hid hs
  clear hr hs
  go_enter Tryd.func71, Tryd.ntmps71
  go_wp2
  go_loopg [5] l.length (fun gg i wr => ∃ m : Nat, m + gg = l.length ∧ i = .int .i64 (m : Int) ∧ Hid ((l.take m).any (fun x => alikeB x.name s) = false) ∧ Hid (Below w.heap.size w wr))
  case atStart => exact ⟨0, by omega, rfl, Lib.hid rfl, Lib.hid (Below.refl _ _)⟩
  case round =>
    obtain ⟨m, hm2, rfl, HM, HB2⟩ := hrel
    by_cases hlt : m < l.length
    · obtain ⟨b, off, rfl, hbs, d0, d1, d2, d3⟩ := ens_cells (H.out.below HB2.out (Nat.le_refl _)) m hlt
      have HH : Hid (alikeB l[m].name s = true → AtP l (fun x => alikeB x.name s) (m : Int)) := Lib.hid (fun e => .inr ⟨m, hlt, rfl, HM.out, e⟩)
      have HN : Hid (alikeB l[m].name s = false → (l.take (m + 1)).any (fun x => alikeB x.name s) = false) := Lib.hid (fun e => any_next l m hlt _ HM.out e)
      have HSX := Lib.hid (HSZ.out l[m] (List.getElem_mem hlt))
      have hi : (m : Int) < (l.length : Int) := by omega
      have hi0 : (0 : Int) ≤ (m : Int) := by omega
      generalize l[m].name = t at *
      clear hlt d0 d1 d3
      have HAL : Hid (∀ W, Calls Tryd.prog 21 #[.string t, .string s] W fun e w' => e = .returned (.bool (alikeB t s)) ∧ Below W.heap.size W w') := Lib.hid (fun W => specAlike_any t s W HSX.out hss)
      generalize alikeB t s = q at *
      go_wp2_with fail
      refine (HAL.out _).mono ?_
      rintro e w3 ⟨rfl, hb⟩
      have HB3 := Lib.hid (below_step1 HB2.out hb)
      clear hb d2
      cases q with
      | true =>
        have HE := Lib.hid (HH.out rfl)
        go_wp2
        go_ret
        exact ⟨_, rfl, HE.out, HB3.out⟩
      | false =>
        have HE := Lib.hid (HN.out rfl)
        go_wp2
        go_roundg (gk - 1)
        case measure => omega
        case rel => exact ⟨m + 1, by omega, by go_num, HE, HB3⟩
    · have hlm : m = l.length := by omega
      subst hlm
      rw [List.take_length] at HM
      go_wp2
      go_ret
      exact ⟨-1, rfl, .inl ⟨rfl, HM.out⟩, HB2.out⟩
set_option maxRecDepth 1000000 in
set_option maxHeartbeats 6000000 in
theorem implLook_any (a : Option Addr) (n cap : Nat) (l : List EntL) (s : ByteArray) (w : World) (hr : Rd w a n cap 4 (ens l)) (hs : ∀ x ∈ l, x.name.size ≤ 1073741824) (hss : s.size ≤ 1073741824) (hT : KTab w) :
    Calls Tryd.prog 41 #[.slice a n cap, .string s] w fun e w' => e = .returned (.tuple #[enV (lookF l s).1, .bool (lookF l s).2]) ∧ Below w.heap.size w w' := by
  have hl : l.length = n := by have := hr.len; simp at this; omega
  subst hl
  have hm : l.length ≤ maxLen := Nat.le_trans hr.le hr.max
  unfold maxLen at hm
  have H := Lib.hid hr
  have HSZ := Lib.hid hs
  clear hr hs
  have HT := Lib.hid hT
  clear hT
  go_enter Tryd.func41, Tryd.ntmps41
  go_wp2_with fail
  refine (entAt_any a _ cap l s _ (H.out.alloc _) HSZ.out hss (HT.out.below (boxA w _) (Nat.le_refl _))).mono ?_
  rintro e w1 ⟨r, rfl, hE, hb⟩
  have HB0 := Lib.hid hb
  have HB1 := Lib.hid (below_step1 (boxA w _) hb)
  clear hb
  rcases hE with ⟨rfl, hE⟩ | ⟨m, hlt, rfl, hE⟩
  · have HE := Lib.hid hE
    clear hE
    obtain ⟨⟨c0, c1, c2, c3⟩, f0, f1, f2, f3⟩ := zero_kept HB0.out
    have hz : w.heap.size < w1.heap.size := World.block_lt_of_cell? w1 _ c0
    go_wp2
    refine bodyPost_ret (v := .tuple #[.agg #[.int .i64 0, .int .i64 0, .string ByteArray.empty, .int .i64 0], .bool false]) (by simp [results, Tryd.results41, go_sem, c0, c1, c2, c3] <;> rfl) rfl ?_
    exact ⟨by rw [HE.out]; rfl, set4 HB1.out _ _ _ _⟩
  · have HE0 := Lib.hid hE
    clear hE
    have hi1 : ¬ ((m : Int) < 0) := by omega
    go_wp2_with fail
    refine (implDirOk_any a _ cap l _ (H.out.below HB1.out (Nat.le_refl _)) HSZ.out (HT.out.below HB1.out (Nat.le_refl _))).mono ?_
    rintro e w2 ⟨rfl, hb⟩
    have HB02 := Lib.hid (below_step1 HB0.out hb)
    have HB2 := Lib.hid (below_step1 HB1.out hb)
    clear hb
    cases hd : dirB l with
    | false =>
      have HE : Hid (lookF l s = (zEnt, false)) := Lib.hid (pickF_no l _ hd)
      clear hd
      obtain ⟨⟨c0, c1, c2, c3⟩, f0, f1, f2, f3⟩ := zero_kept HB02.out
      have hz : w.heap.size < w2.heap.size := World.block_lt_of_cell? w2 _ c0
      go_wp2
      refine bodyPost_ret (v := .tuple #[.agg #[.int .i64 0, .int .i64 0, .string ByteArray.empty, .int .i64 0], .bool false]) (by simp [results, Tryd.results41, go_sem, c0, c1, c2, c3] <;> rfl) rfl ?_
      exact ⟨by rw [HE.out]; rfl, set4 HB2.out _ _ _ _⟩
    | true =>
      have HE := Lib.hid (HE0.out hd)
      clear hd HE0
      obtain ⟨b, off, rfl, hbs, d0, d1, d2, d3⟩ := ens_cells (H.out.below HB2.out (Nat.le_refl _)) m hlt
      have hi : (m : Int) < (l.length : Int) := by omega
      have hi0 : (0 : Int) ≤ (m : Int) := by omega
      have hi1 : ¬ ((m : Int) < 0) := by omega
      generalize l[m] = x at *
      obtain ⟨xh, xi, xn, xd⟩ := x
      try simp only at d0 d1 d2 d3
      clear hlt
      obtain ⟨⟨c0, c1, c2, c3⟩, f0, f1, f2, f3⟩ := zero_kept HB02.out
      have hz : w.heap.size < w2.heap.size := World.block_lt_of_cell? w2 _ c0
      go_wp2
      refine bodyPost_ret (v := .tuple #[.agg #[.int .i64 xh, .int .i64 xi, .string xn, .int .i64 xd], .bool true]) (by simp [results, Tryd.results41, go_sem, c0, c1, c2, c3] <;> rfl) rfl ?_
      exact ⟨by rw [HE.out]; rfl, set4 HB2.out _ _ _ _⟩
set_option maxRecDepth 1000000 in
set_option maxHeartbeats 6000000 in
theorem specLook_any (a : Option Addr) (n cap : Nat) (l : List EntL) (s : ByteArray) (w : World) (hr : Rd w a n cap 4 (ens l)) (hs : ∀ x ∈ l, x.name.size ≤ 1073741824) (hss : s.size ≤ 1073741824) :
    Calls Tryd.prog 40 #[.slice a n cap, .string s] w fun e w' => e = .returned (.tuple #[enV (lookF l s).1, .bool (lookF l s).2]) ∧ Below w.heap.size w w' := by
  have hl : l.length = n := by have := hr.len; simp at this; omega
  subst hl
  have hm : l.length ≤ maxLen := Nat.le_trans hr.le hr.max
  unfold maxLen at hm
  have H := Lib.hid hr
  have HSZ := Lib.hid hs
  clear hr hs
  go_enter Tryd.func40, Tryd.ntmps40
  go_wp2_with fail
  refine (specDirOk_any a _ cap l _ (H.out.alloc _) HSZ.out).mono ?_
  rintro e w1 ⟨rfl, hb⟩
  have HB0 := Lib.hid hb
  have HB1 := Lib.hid (below_step1 (boxA w _) hb)
  clear hb
  cases hd : dirB l with
  | false =>
    have HE : Hid (lookF l s = (zEnt, false)) := Lib.hid (pickF_no l _ hd)
    clear hd
    obtain ⟨⟨c0, c1, c2, c3⟩, f0, f1, f2, f3⟩ := zero_kept HB0.out
    have hz : w.heap.size < w1.heap.size := World.block_lt_of_cell? w1 _ c0
    go_wp2
    refine bodyPost_ret (v := .tuple #[.agg #[.int .i64 0, .int .i64 0, .string ByteArray.empty, .int .i64 0], .bool false]) (by simp [results, Tryd.results40, go_sem, c0, c1, c2, c3] <;> rfl) rfl ?_
    exact ⟨by rw [HE.out]; rfl, set4 HB1.out _ _ _ _⟩
  | true =>
    have HD := Lib.hid hd
    clear hd
    go_wp2_with fail
    refine (l5At_any a _ cap l s _ (H.out.below HB1.out (Nat.le_refl _)) HSZ.out hss).mono ?_
    rintro e w2 ⟨r, rfl, hE, hb⟩
    have HB02 := Lib.hid (below_step1 HB0.out hb)
    have HB2 := Lib.hid (below_step1 HB1.out hb)
    clear hb
    rcases hE with ⟨rfl, hE⟩ | ⟨m, hlt, rfl, h0, h1⟩
    · have HE : Hid (lookF l s = (zEnt, false)) := Lib.hid (pickF_none l _ hE)
      clear hE
      obtain ⟨⟨c0, c1, c2, c3⟩, f0, f1, f2, f3⟩ := zero_kept HB02.out
      have hz : w.heap.size < w2.heap.size := World.block_lt_of_cell? w2 _ c0
      go_wp2
      refine bodyPost_ret (v := .tuple #[.agg #[.int .i64 0, .int .i64 0, .string ByteArray.empty, .int .i64 0], .bool false]) (by simp [results, Tryd.results40, go_sem, c0, c1, c2, c3] <;> rfl) rfl ?_
      exact ⟨by rw [HE.out]; rfl, set4 HB2.out _ _ _ _⟩
    · have HE : Hid (lookF l s = (l[m], true)) := Lib.hid (pickF_hit l _ HD.out m hlt h0 h1)
      clear h0 h1
      obtain ⟨b, off, rfl, hbs, d0, d1, d2, d3⟩ := ens_cells (H.out.below HB2.out (Nat.le_refl _)) m hlt
      have hi : (m : Int) < (l.length : Int) := by omega
      have hi0 : (0 : Int) ≤ (m : Int) := by omega
      have hi1 : ¬ ((m : Int) < 0) := by omega
      generalize l[m] = x at *
      obtain ⟨xh, xi, xn, xd⟩ := x
      try simp only at d0 d1 d2 d3
      clear hlt
      obtain ⟨⟨c0, c1, c2, c3⟩, f0, f1, f2, f3⟩ := zero_kept HB02.out
      have hz : w.heap.size < w2.heap.size := World.block_lt_of_cell? w2 _ c0
      go_wp2
      refine bodyPost_ret (v := .tuple #[.agg #[.int .i64 xh, .int .i64 xi, .string xn, .int .i64 xd], .bool true]) (by simp [results, Tryd.results40, go_sem, c0, c1, c2, c3] <;> rfl) rfl ?_
      exact ⟨by rw [HE.out]; rfl, set4 HB2.out _ _ _ _⟩
set_option maxRecDepth 1000000 in
set_option maxHeartbeats 6000000 in
theorem lawLook_walk (a : Option Addr) (n c : Nat) (l : List EntL) (s : ByteArray) (hz : s.size ≤ maxLen) (w : World) (hs : ∀ s ∈ l, OkInt s.hash ∧ OkInt s.index ∧ s.name.size ≤ maxLen ∧ OkInt s.id) (hr : Rd w a n c 4 (ens l)) (hT : KTab w) :
    Calls Tryd.prog 11 #[.slice a n c, .string s] w fun e w' => e = .returned (.bool true) ∧ Below w.heap.size w w' := by
  have hl : l.length = n := by have := hr.len; simp at this; omega
  subst hl
  unfold maxLen at hz
  by_cases hzs : (1048576 : Int) < (s.size : Int)
  · go_enter Tryd.func11, Tryd.ntmps11
    go_wp2
    go_ret
    exact ⟨rfl, Below.refl _ _⟩
  have HSS : Hid (s.size ≤ 1073741824) := Lib.hid (by omega)
  obtain ⟨R, hR⟩ : ∃ R, R = lookF l s := ⟨_, rfl⟩
  obtain ⟨⟨xh, xi, xn, xd⟩, ok⟩ := R
  have HI : Hid (∀ p q W, Rd W p l.length q 4 (ens l) → (∀ x ∈ l, x.name.size ≤ 1073741824) → KTab W → Calls Tryd.prog 41 #[.slice p l.length q, .string s] W fun e w' => e = .returned (.tuple #[.agg #[.int .i64 xh, .int .i64 xi, .string xn, .int .i64 xd], .bool ok]) ∧ Below W.heap.size W w') := Lib.hid (fun p q W hh hn hk => by have := implLook_any p l.length q l s W hh hn HSS.out hk; rw [← hR] at this; exact this)
  have HS : Hid (∀ p q W, Rd W p l.length q 4 (ens l) → (∀ x ∈ l, x.name.size ≤ 1073741824) → Calls Tryd.prog 40 #[.slice p l.length q, .string s] W fun e w' => e = .returned (.tuple #[.agg #[.int .i64 xh, .int .i64 xi, .string xn, .int .i64 xd], .bool ok]) ∧ Below W.heap.size W w') := Lib.hid (fun p q W hh hn => by have := specLook_any p l.length q l s W hh hn HSS.out; rw [← hR] at this; exact this)
  have HEQ : Hid (∀ W, Calls Tryd.prog 39 #[.agg #[.int .i64 xh, .int .i64 xi, .string xn, .int .i64 xd], .agg #[.int .i64 xh, .int .i64 xi, .string xn, .int .i64 xd]] W fun e w' => e = .returned (.bool true) ∧ Below W.heap.size W w') := Lib.hid (fun W => eqEnt_yes ⟨xh, xi, xn, xd⟩ W)
  clear hR
  have H1 := Lib.hid hr
  have HT := Lib.hid hT
  have HSZ := Lib.hid (fun s hh => (hs s hh).2.2.1)
  clear hr hs hT
  go_enter Tryd.func11, Tryd.ntmps11
  go_wp2_with fail
  refine (szEnts_any _ _ _ l 1048576 _ H1.out HSZ.out (by omega) (by omega)).mono ?_
  rintro e w1 ⟨x, rfl, hx, hxl, hok, hb⟩
  replace H1 := Lib.hid (H1.out.below hb (Nat.le_refl _))
  have HC := Lib.hid hb
  clear hb
  by_cases hx0 : x < 0
  · clear hok
    go_wp2
    go_ret
    exact ⟨rfl, HC.out⟩
  · obtain ⟨hn, hnm⟩ := hok (by omega)
    have hn : l.length ≤ 1048576 := by omega
    have HNM : Hid (∀ x ∈ l, x.name.size ≤ 1073741824) := Lib.hid (fun x hx => by have := hnm x hx; omega)
    clear hok hnm
    go_wp2_with fail
    refine (toEnts_any _ _ _ l _ H1.out hn).mono ?_
    rintro e w2 ⟨g1, q1, rfl, hO⟩
    have HV := Lib.hid hO.rd
    replace H1 := Lib.hid (H1.out.below hO.below (Nat.le_refl _))
    replace HC := Lib.hid (below_step1 HC.out hO.below)
    clear hO
    go_wp2_with fail
    refine (HS.out _ _ _ HV.out HNM.out).mono ?_
    rintro e w3 ⟨rfl, hb⟩
    replace H1 := Lib.hid (H1.out.below hb (Nat.le_refl _))
    replace HC := Lib.hid (below_step1 HC.out hb)
    clear hb HV
    go_wp2_with fail
    obtain ⟨c0, c1, c2, c3⟩ := box4 w3 46 (.int .i64 xh) (.int .i64 xi) (.string xn) (.int .i64 xd)
    replace H1 := Lib.hid (H1.out.alloc (.cells #[.int .i64 xh, .int .i64 xi, .string xn, .int .i64 xd] 46))
    replace HC := Lib.hid (below_step1 HC.out (boxA w3 (.cells #[.int .i64 xh, .int .i64 xi, .string xn, .int .i64 xd] 46)))
    refine (toEnts_any _ _ _ l _ H1.out hn).mono ?_
    rintro e w4 ⟨g2, q2, rfl, hO⟩
    have HV := Lib.hid hO.rd
    replace H1 := Lib.hid (H1.out.below hO.below (Nat.le_refl _))
    replace HC := Lib.hid (below_step1 HC.out hO.below)
    replace c0 := cellK c0 hO.below
    replace c1 := cellK c1 hO.below
    replace c2 := cellK c2 hO.below
    replace c3 := cellK c3 hO.below
    clear hO
    go_wp2_with fail
    refine (HI.out _ _ _ HV.out HNM.out (HT.out.below HC.out (Nat.le_refl _))).mono ?_
    rintro e w5 ⟨rfl, hb⟩
    replace H1 := Lib.hid (H1.out.below hb (Nat.le_refl _))
    replace HV := Lib.hid (HV.out.below hb (Nat.le_refl _))
    replace HC := Lib.hid (below_step1 HC.out hb)
    replace c0 := cellK c0 hb
    replace c1 := cellK c1 hb
    replace c2 := cellK c2 hb
    replace c3 := cellK c3 hb
    have hz5 : w3.heap.size < w5.heap.size := World.block_lt_of_cell? w5 _ c0
    clear hb
    go_wp2_with fail
    obtain ⟨k0, k1, k2, k3⟩ := box4 w5 46 (.int .i64 xh) (.int .i64 xi) (.string xn) (.int .i64 xd)
    have HBX := Lib.hid (boxA w5 (.cells #[.int .i64 xh, .int .i64 xi, .string xn, .int .i64 xd] 46))
    replace H1 := Lib.hid (H1.out.below HBX.out (Nat.le_refl _))
    replace HV := Lib.hid (HV.out.below HBX.out (Nat.le_refl _))
    replace HC := Lib.hid (below_step1 HC.out HBX.out)
    refine (HEQ.out _).mono ?_
    rintro e w6 ⟨rfl, hb⟩
    replace H1 := Lib.hid (H1.out.below hb (Nat.le_refl _))
    replace HV := Lib.hid (HV.out.below hb (Nat.le_refl _))
    replace HC := Lib.hid (below_step1 HC.out hb)
    clear hb c0 c1 c2 c3 k0 k1 k2 k3
    have hne : (ok != ok) = false := by simp
    have hne2 : (ok == ok) = true := by simp
    go_wp2_with fail
    refine (toEnts_any _ _ _ l _ H1.out hn).mono ?_
    rintro e w7 ⟨g3, q3, rfl, hO⟩
    have HZ := Lib.hid hO.rd
    replace HV := Lib.hid (HV.out.below hO.below (Nat.le_refl _))
    replace HC := Lib.hid (below_step1 HC.out hO.below)
    clear hO
    go_wp2_with fail
    refine (eqEnts_yes _ _ _ _ _ _ l _ HV.out HZ.out (by omega)).mono ?_
    rintro e w8 ⟨rfl, hb⟩
    replace HC := Lib.hid (below_step1 HC.out hb)
    clear hb
    go_wp2
    go_ret
    exact ⟨rfl, HC.out⟩
theorem lessH_iff (a b c d : Int) : lessH a b c d = true ↔ a < c ∨ (a = c ∧ b < d) := by
  unfold lessH
  simp
theorem dir_ent (l : List EntL) (hd : dirB l = true) (i : Nat) (h : i < l.length) : entOk l i = true := by
  unfold dirB at hd
  simp only [Bool.and_eq_true] at hd
  exact dirUp_at l _ hd.2 i h
theorem dir_len (l : List EntL) (hd : dirB l = true) : l.length ≤ 12 := by
  unfold dirB at hd
  simp only [Bool.and_eq_true, decide_eq_true_eq] at hd
  exact hd.1
theorem dir_asc (l : List EntL) (hd : dirB l = true) (i : Nat) (h : i + 1 < l.length) : lessH l[i].hash l[i].index l[i + 1].hash l[i + 1].index = true := by
  have h1 := dir_ent l hd (i + 1) h
  rw [entOk_eq l (i + 1) h] at h1
  simp only [Bool.and_eq_true] at h1
  have h2 := h1.1.2
  rw [afterB_succ l i (by omega)] at h2
  exact h2
theorem dir_lt (l : List EntL) (hd : dirB l = true) (i : Nat) : ∀ (d : Nat) (h : i + d + 1 < l.length), lessH (l[i]'(by omega)).hash (l[i]'(by omega)).index l[i + d + 1].hash l[i + d + 1].index = true := by
  intro d
  induction d with
  | zero => intro h; exact dir_asc l hd i h
  | succ d ih =>
    intro h
    have h1 := ih (by omega)
    have h2 := dir_asc l hd (i + d + 1) (by omega)
    rw [lessH_iff] at h1 h2 ⊢
    have e : l[i + (d + 1) + 1] = l[i + d + 1 + 1] := by congr 1
    rw [e]
    omega
theorem dir_hash (l : List EntL) (hd : dirB l = true) (i : Nat) (h : i < l.length) : 0 ≤ l[i].hash := by
  have h1 := entOk_row (dir_ent l hd i h)
  rw [getD_ent l i h] at h1
  unfold EntL.row at h1
  simp only [Bool.and_eq_true, decide_eq_true_eq] at h1
  have h2 := h1.1.1.2
  unfold hashF at h2
  rw [if_pos h1.1.1.1] at h2
  omega
theorem scan_first (l : List EntL) (hd : dirB l = true) (h : 0 < l.length) (k : Int) : nextF l (-1) k = (l[0], true) := by
  refine pickF_hit l _ hd 0 h rfl ?_
  have := dir_hash l hd 0 h
  rw [lessH_iff]
  omega
theorem scan_pre (l : List EntL) (hd : dirB l = true) (m : Nat) (h : m < l.length) : (l.take (m + 1)).any (fun x => lessH l[m].hash l[m].index x.hash x.index) = false := by
  rw [List.any_eq_false]
  intro x hx
  obtain ⟨j, hj, e⟩ := List.mem_iff_getElem.1 hx
  rw [List.length_take] at hj
  rw [List.getElem_take] at e
  subst e
  rw [Bool.not_eq_true, ← Bool.not_eq_true, lessH_iff]
  rcases Nat.lt_or_ge j m with h1 | h1
  · obtain ⟨d, rfl⟩ : ∃ d, m = j + d + 1 := ⟨m - j - 1, by omega⟩
    have := dir_lt l hd j d h
    rw [lessH_iff] at this
    omega
  · have : j = m := by omega
    subst this
    omega
theorem scan_next (l : List EntL) (hd : dirB l = true) (m : Nat) (h : m + 1 < l.length) : nextF l (l[m]'(by omega)).hash (l[m]'(by omega)).index = (l[m + 1], true) :=
  pickF_hit l _ hd (m + 1) h (scan_pre l hd m (by omega)) (dir_asc l hd m h)
theorem scan_end (l : List EntL) (hd : dirB l = true) (m : Nat) (h : m < l.length) (he : m + 1 = l.length) : nextF l l[m].hash l[m].index = (zEnt, false) := by
  refine pickF_none l _ ?_
  have := scan_pre l hd m h
  rw [he, List.take_length] at this
  exact this
theorem scan_none (l : List EntL) (h : l.length = 0) (a k : Int) : nextF l a k = (zEnt, false) := by
  refine pickF_none l _ ?_
  rw [List.eq_nil_of_length_eq_zero h]
  rfl
/-- What the next one is, behind m of them. -/
def tgt (l : List EntL) (m : Nat) : EntL × Bool := if h : m < l.length then (l[m], true) else (zEnt, false)
theorem tgt_in (l : List EntL) (m : Nat) (h : m < l.length) : tgt l m = (l[m], true) := by unfold tgt; rw [dif_pos h]
theorem tgt_out (l : List EntL) (m : Nat) (h : ¬ m < l.length) : tgt l m = (zEnt, false) := by unfold tgt; rw [dif_neg h]
theorem scan_tgt0 (l : List EntL) (hd : dirB l = true) (k : Int) : nextF l (-1) k = tgt l 0 := by
  by_cases h : 0 < l.length
  · rw [tgt_in l 0 h]; exact scan_first l hd h k
  · rw [tgt_out l 0 h]; exact scan_none l (by omega) _ _
theorem scan_tgt (l : List EntL) (hd : dirB l = true) (m : Nat) (hm : m < l.length) : nextF l l[m].hash l[m].index = tgt l (m + 1) := by
  by_cases h : m + 1 < l.length
  · rw [tgt_in l (m + 1) h]; exact scan_next l hd m h
  · rw [tgt_out l (m + 1) h]; exact scan_end l hd m hm (by omega)
theorem Rd.part {w : World} {b off n c : Nat} {l : List EntL} (h : Rd w (some ⟨b, off, none⟩) n c 4 (ens l)) (i j : Nat) (hij : i ≤ j) (hj : j ≤ n) : Rd w (some ⟨b, off + i * 4, none⟩) (j - i) (c - i) 4 (ens ((l.take j).drop i)) := by
  have hl : l.length = n := by have := h.len; simp at this; omega
  have hle := h.le
  have hmx := h.max
  refine ⟨by simp; omega, by omega, by omega, fun e => (by cases e), fun h0 => ?_⟩
  obtain ⟨b', off', e, hlt, hc⟩ := h.at' (by omega)
  cases e
  refine ⟨b, off + i * 4, rfl, hlt, fun q hq => ?_⟩
  have hq2 : q < (j - i) * 4 := by have := hq; simp at this; omega
  have e1 : q = q / 4 * 4 + q % 4 := by omega
  have hk : q / 4 < ((l.take j).drop i).length := by simp; omega
  have hm : q % 4 < 4 := by omega
  have e2 := hc (i * 4 + q) (by simp; omega)
  rw [Nat.add_assoc, e2]
  congr 1
  have g1 := ens_get l (i + q / 4) (by omega) (q % 4) hm
  have g2 := ens_get ((l.take j).drop i) (q / 4) hk (q % 4) hm
  have e3 : (ens l)[i * 4 + q]'(by simp; omega) = (ens l)[(i + q / 4) * 4 + q % 4]'(by simp; omega) := by congr 1; omega
  have e4 : (ens ((l.take j).drop i))[q]'hq = (ens ((l.take j).drop i))[q / 4 * 4 + q % 4]'(by simp; omega) := by congr 1
  rw [e3, e4, g1, g2]
  congr 2
  simp
/-- A list of entries is owned (new, above B), whatever its place. -/
def EntsOut (n : Nat) (cs : List Value) (w : World) (e : Ending) (w' : World) : Prop := ∃ g c, e = .returned (.slice g n c) ∧ Own 46 4 w.heap.size w (.slice g n c) n cs w'
set_option maxRecDepth 1000000 in
set_option maxHeartbeats 6000000 in
theorem l5Copy_any (a : Option Addr) (c : Nat) (l : List EntL) (w : World) (h : Rd w a l.length c 4 (ens l)) (hn : l.length ≤ 1048576) :
    Calls Tryd.prog 82 #[.slice a l.length c] w (EntsOut l.length (ens l) w) := by
  have HO := Lib.hid ((Own.nil 46 4 w))
  have HLit := Lib.hid (Own.lit (e := 46) (size := 4) (n := 0) (Below.refl w.heap.size w) (Nat.le_refl _) #[] rfl (by decide))
  have H := Lib.hid (h.alloc (.cells #[] 46))
  clear h
  go_enter Tryd.func82, Tryd.ntmps82
  go_wp2_with (at_builtin; go_loud (refine wp_app rfl _ _ 41 rfl 46 (.agg #[.int .i64 0, .int .i64 0, .string ByteArray.empty, .int .i64 0]) 4 40 Tryd.underlying41 info_ent rfl (by decide) _ _ _ _ _ (by rfl) (by exact HLit.out) _ _ _ _ (by rfl) (by exact H.out) (ens_one _) (by omega) (by unfold maxLen; omega) ?_); intro a2 c2 w2 hO2)
  go_ret
  refine ⟨a2, c2, rfl, ?_⟩
  rw [Nat.zero_add] at hO2
  simpa using hO2
set_option maxRecDepth 1000000 in
set_option maxHeartbeats 6000000 in
theorem l1Size_any (a : Option Addr) (n cap : Nat) (most : Int) (w : World) (h0 : 1 ≤ most) (h1 : most ≤ 1048576) (hn : n ≤ 1048576) :
    Calls Tryd.prog 75 #[.slice a n cap, .int .i64 most] w fun e w' => ∃ x : Int, e = .returned (.int .i64 x) ∧ 1 ≤ x ∧ x ≤ most ∧ w = w' := by
  have hq : ((n : Int)).tdiv 20 = ((n / 20 : Nat) : Int) := by rw [Int.tdiv_eq_ediv_of_nonneg (by omega)]; omega
  have hw1 : IntKind.i64.wrap ((n / 20 : Nat) : Int) = ((n / 20 : Nat) : Int) := IntWalk.i64_in _ ⟨by omega, by omega⟩
  have hw2 : IntKind.i64.wrap (2 + ((n / 20 : Nat) : Int)) = 2 + ((n / 20 : Nat) : Int) := IntWalk.i64_in _ ⟨by omega, by omega⟩
  generalize n / 20 = k at *
  by_cases hc : most < 2 + (k : Int)
  · go_enter Tryd.func75, Tryd.ntmps75
    go_wp2
    go_ret
    exact ⟨most, rfl, h0, Int.le_refl _, rfl⟩
  · go_enter Tryd.func75, Tryd.ntmps75
    go_wp2
    go_ret
    exact ⟨2 + (k : Int), rfl, by omega, by omega, rfl⟩
set_option maxRecDepth 1000000 in
set_option maxHeartbeats 6000000 in
theorem sameDir_yes (a b : Option Addr) (c d : Nat) (l : List EntL) (w : World) (ha : Rd w a l.length c 4 (ens l)) (hb : Rd w b l.length d 4 (ens l)) (hn : l.length ≤ 1048576) :
    Calls Tryd.prog 43 #[.slice a l.length c, .slice b l.length d] w fun e w' => e = .returned (.bool true) ∧ Below w.heap.size w w' := by
  have HA := Lib.hid ha
  have HB := Lib.hid hb
  clear ha hb
  go_enter Tryd.func43, Tryd.ntmps43
  go_wp2
  go_loopg [5] l.length (fun gg i wr => ∃ k : Nat, k + gg = l.length ∧ i = .int .i64 (k : Int) ∧ Hid (Below w.heap.size w wr))
  case atStart => exact ⟨0, by omega, rfl, Lib.hid (Below.refl _ _)⟩
  case round =>
    obtain ⟨k, hk, rfl, HBW⟩ := hrel
    by_cases hlt : k < l.length
    · obtain ⟨ba, oa, rfl, hba, ha0, ha1, ha2, ha3⟩ := ens_cells (HA.out.below HBW.out (Nat.le_refl _)) k hlt
      obtain ⟨bb, ob, rfl, hbb, hb0, hb1, hb2, hb3⟩ := ens_cells (HB.out.below HBW.out (Nat.le_refl _)) k hlt
      have hi : (k : Int) < (l.length : Int) := by omega
      have hi0 : (0 : Int) ≤ (k : Int) := by omega
      have HF := Lib.hid (And.intro ha0 (And.intro ha1 (And.intro ha2 (And.intro ha3 (And.intro hb0 (And.intro hb1 (And.intro hb2 hb3)))))))
      generalize l[k] = x at *
      obtain ⟨xh, xi, xn, xd⟩ := x
      try simp only at HF
      clear ha0 ha1 ha2 ha3 hb0 hb1 hb2 hb3 hlt
      go_wp2
      refine wp_region_held_drew (S := (fun W => W.cell? ⟨ba, oa + k * 4, none⟩ = some (.int .i64 xh) ∧ W.cell? ⟨ba, oa + k * 4 + 1, none⟩ = some (.int .i64 xi) ∧ W.cell? ⟨ba, oa + k * 4 + 2, none⟩ = some (.string xn) ∧ W.cell? ⟨ba, oa + k * 4 + 3, none⟩ = some (.int .i64 xd) ∧ W.cell? ⟨bb, ob + k * 4, none⟩ = some (.int .i64 xh) ∧ W.cell? ⟨bb, ob + k * 4 + 1, none⟩ = some (.int .i64 xi) ∧ W.cell? ⟨bb, ob + k * 4 + 2, none⟩ = some (.string xn) ∧ W.cell? ⟨bb, ob + k * 4 + 3, none⟩ = some (.int .i64 xd))) (by kernel_rfl) ?_ (fun hHeld => ?_)
      · try dsimp only
        exact HF.out
      change wpAnyH _ _ _ _ _ 9 #[false, false, false, false, false, false, false, false, false] _ _
      refine wpH_take (i := 0) (v := ?_) rfl (by kernel_rfl) (by kernel_rfl) (by kernel_rfl) (fun _ _ _ h => h) (by rfl) ?_ (by assumption) ?_; rotate_left; (focus (intro w hSw; (try dsimp only at hSw); go_simp; try with_reducible rfl)); try simp only [Act.put, List.setIfInBounds_toArray, List.set_cons_zero, List.set_cons_succ]
      refine wpH_take (i := 1) (v := ?_) rfl (by kernel_rfl) (by kernel_rfl) (by kernel_rfl) (fun _ _ _ h => h) (by rfl) ?_ (by assumption) ?_; rotate_left; (focus (intro w hSw; (try dsimp only at hSw); go_simp; try with_reducible rfl)); try simp only [Act.put, List.setIfInBounds_toArray, List.set_cons_zero, List.set_cons_succ]
      refine wpH_take (i := 2) (v := ?_) rfl (by kernel_rfl) (by kernel_rfl) (by kernel_rfl) (fun _ _ _ h => h) (by rfl) ?_ (by assumption) ?_; rotate_left; (focus (intro w hSw; (try dsimp only at hSw); go_simp; try with_reducible rfl)); try simp only [Act.put, List.setIfInBounds_toArray, List.set_cons_zero, List.set_cons_succ]
      refine wpH_take (i := 3) (v := ?_) rfl (by kernel_rfl) (by kernel_rfl) (by kernel_rfl) (fun _ _ _ h => h) (by rfl) ?_ (by assumption) ?_; rotate_left; (focus (intro w hSw; (try dsimp only at hSw); go_simp; try with_reducible rfl)); try simp only [Act.put, List.setIfInBounds_toArray, List.set_cons_zero, List.set_cons_succ]
      refine wpH_take (i := 4) (v := ?_) rfl (by kernel_rfl) (by kernel_rfl) (by kernel_rfl) (fun _ _ _ h => h) (by rfl) ?_ (by assumption) ?_; rotate_left; (focus (intro w hSw; (try dsimp only at hSw); go_simp; try with_reducible rfl)); try simp only [Act.put, List.setIfInBounds_toArray, List.set_cons_zero, List.set_cons_succ]
      refine wpH_take (i := 5) (v := ?_) rfl (by kernel_rfl) (by kernel_rfl) (by kernel_rfl) (fun _ _ _ h => h) (by rfl) ?_ (by assumption) ?_; rotate_left; (focus (intro w hSw; (try dsimp only at hSw); go_simp; try with_reducible rfl)); try simp only [Act.put, List.setIfInBounds_toArray, List.set_cons_zero, List.set_cons_succ]
      refine wpH_take (i := 6) (v := ?_) rfl (by kernel_rfl) (by kernel_rfl) (by kernel_rfl) (fun _ _ _ h => h) (by rfl) ?_ (by assumption) ?_; rotate_left; (focus (intro w hSw; (try dsimp only at hSw); go_simp; try with_reducible rfl)); try simp only [Act.put, List.setIfInBounds_toArray, List.set_cons_zero, List.set_cons_succ]
      refine wpH_take (i := 7) (v := ?_) rfl (by kernel_rfl) (by kernel_rfl) (by kernel_rfl) (fun _ _ _ h => h) (by rfl) ?_ (by assumption) ?_; rotate_left; (focus (intro w hSw; (try dsimp only at hSw); go_simp; try with_reducible rfl)); try simp only [Act.put, List.setIfInBounds_toArray, List.set_cons_zero, List.set_cons_succ]
      refine wpH_take (i := 8) (v := ?_) rfl (by kernel_rfl) (by kernel_rfl) (by kernel_rfl) (fun _ _ _ h => h) (by rfl) ?_ (by assumption) ?_; rotate_left; (focus (intro w hSw; (try dsimp only at hSw); go_simp; try with_reducible rfl)); try simp only [Act.put, List.setIfInBounds_toArray, List.set_cons_zero, List.set_cons_succ]
      refine wpAnyH_done (by kernel_rfl) ?_ _
      try dsimp only at hHeld
      clear hHeld
      have HB2 := Lib.hid HBW.out.drew
      go_wp2
      go_roundg (gk - 1)
      case measure => omega
      case rel => exact ⟨k + 1, by omega, by go_num, HB2⟩
    · have hkl : k = l.length := by omega
      subst hkl
      go_wp2
      go_ret
      exact ⟨rfl, HBW.out⟩
/-- A list that an operation of the draw leaves: its own, its entries as P says. -/
def EntsNext (B : Nat) (P : EntL → Prop) (len : Nat) (w : World) (e : Ending) (w' : World) : Prop :=
  ∃ (l : List EntL) (g : Option Addr) (c : Nat) (ok : Bool), e = .returned (.tuple #[.slice g l.length c, .bool ok]) ∧ l.length ≤ len ∧ (∀ x ∈ l, P x) ∧ w'.ownsRow B 46 4 (.slice g l.length c) l.length (ens l) ∧ Below w.heap.size w w'
set_option maxRecDepth 1000000 in
set_option maxHeartbeats 6000000 in
theorem l5Drop_any (B : Nat) (a : Option Addr) (c : Nat) (l : List EntL) (s : ByteArray) (P : EntL → Prop) (w : World) (h : w.ownsRow B 46 4 (.slice a l.length c) l.length (ens l)) (hB : B ≤ w.heap.size) (hP : ∀ x ∈ l, P x) (hs : ∀ x ∈ l, x.name.size ≤ 1073741824) (hss : s.size ≤ 1073741824) (hn : l.length ≤ 100000) :
    Calls Tryd.prog 106 #[.slice a l.length c, .string s] w (EntsNext B P l.length w) := by
  have hO : Own 46 4 B w (.slice a l.length c) l.length (ens l) w := ⟨h, Below.refl _ _, hB⟩
  have HO := Lib.hid hO
  have H := Lib.hid hO.rd
  have HP := Lib.hid hP
  have HSZ := Lib.hid hs
  clear h hP hs hO
  go_enter Tryd.func106, Tryd.ntmps106
  go_wp2_with fail
  refine (l5At_any a _ c l s _ H.out HSZ.out hss).mono ?_
  rintro e w1 ⟨r, rfl, hE, hb⟩
  have HB1 := Lib.hid hb
  have HO1 := Lib.hid (HO.out.kept hb)
  clear hb
  rcases hE with ⟨rfl, -⟩ | ⟨m, hlt, rfl, -, -⟩
  · go_wp2
    go_ret2
    exact ⟨l, a, c, false, rfl, Nat.le_refl _, HP.out, HO1.out.row, HB1.out⟩
  · obtain ⟨b, off, rfl, hbs, -, -, -, -⟩ := ens_cells H.out m hlt
    have hi : (m : Int) < (l.length : Int) := by omega
    have hi0 : (0 : Int) ≤ (m : Int) := by omega
    have hi1 : ¬ ((m : Int) < 0) := by omega
    have HLit := Lib.hid (Own.lit (e := 46) (size := 4) (n := 0) (Below.refl w1.heap.size w1) (Nat.le_refl _) #[] rfl (by decide))
    have HR : Hid (Rd (w1.alloc (.cells #[] 46)) (some ⟨b, off, none⟩) m c 4 (ens (l.take m))) := Lib.hid (by have := ((H.out.below HB1.out (Nat.le_refl _)).alloc (.cells #[] 46)).part 0 m (by omega) (by omega); simpa using this)
    have hmc : m ≤ c := by have := H.out.le; omega
    have hlc : l.length ≤ c := H.out.le
    have hmx : c ≤ maxLen := H.out.max
    have hm1 : m + 1 ≤ l.length := by omega
    have hmw : IntKind.i64.wrap ((m : Int) + 1) = (m : Int) + 1 := IntWalk.i64_in _ ⟨by omega, by unfold maxLen at hmx; omega⟩
    have hi2 : (m : Int) + 1 ≤ (l.length : Int) := by omega
    have hi3 : (0 : Int) ≤ (m : Int) + 1 := by omega
    have HRP : Hid (∀ W, Below w1.heap.size w1 W → Rd W (if c = m + 1 then some ⟨b, off, none⟩ else some ⟨b, off + (m + 1) * 4, none⟩) (l.length - (m + 1)) (c - (m + 1)) 4 (ens ((l.take l.length).drop (m + 1)))) := Lib.hid (fun W hW => by
      have h := ((H.out.below HB1.out (Nat.le_refl _)).below hW (Nat.le_refl _)).part (m + 1) l.length (by omega) (by omega)
      split
      · next hc =>
        have h0 : l.length - (m + 1) = 0 := by omega
        exact ⟨h.len, h.le, h.max, fun e => (by cases e), fun h1 => (by omega)⟩
      · exact h)
    unfold maxLen at hmx
    go_wp2_with (first | ((at_builtin; go_loud (refine wp_app rfl _ _ 41 rfl 46 (.agg #[.int .i64 0, .int .i64 0, .string ByteArray.empty, .int .i64 0]) 4 40 Tryd.underlying41 info_ent rfl (by decide) _ _ _ _ _ (by rfl) (by exact HLit.out) _ _ _ _ (by rfl) (by exact HR.out) (ens_one _) (by omega) (by unfold maxLen; omega) ?_); intro a2 c2 w2 hO2); rw [Nat.zero_add, List.nil_append] at hO2; have HO2 := Lib.hid hO2; have HR3 := Lib.hid (HRP.out w2 hO2.below); clear hO2) | (at_builtin; go_loud (refine wp_app rfl _ _ 41 rfl 46 (.agg #[.int .i64 0, .int .i64 0, .string ByteArray.empty, .int .i64 0]) 4 40 Tryd.underlying41 info_ent rfl (by decide) _ _ _ _ _ (by rfl) (by exact HO2.out) _ _ _ _ (by rfl) (by exact HR3.out) (ens_one _) (by omega) (by unfold maxLen; omega) ?_); intro a3 c3 w3 hO3))
    all_goals
      have hlen : (l.take m ++ (l.take l.length).drop (m + 1)).length = m + (l.length - (m + 1)) := by simp; omega
      have HL := Lib.hid hlen
      go_ret2
      refine ⟨l.take m ++ (l.take l.length).drop (m + 1), a3, c3, true, by rw [HL.out]; rfl, by rw [HL.out]; omega, ?_, ?_, ?_⟩
      · intro x hx
        rcases List.mem_append.1 hx with h | h
        · exact HP.out x (List.mem_of_mem_take h)
        · exact HP.out x (List.mem_of_mem_take (List.mem_of_mem_drop h))
      · rw [HL.out, ens_append]
        exact row_mono hO3.row (Nat.le_trans hB HB1.out.size)
      · exact below_step1 HB1.out hO3.below
section
variable {P : Program}
theorem wp_app1c {w0 : World} {ops : Array Oper} {rest : List Oper} {o : Oper} {a : Act} {Q : Exit → Act → World → Prop} (hgd : o.guard = none) (s x : Operand) (t : TypeId)
    (ho : o.op = .call { callee := .builtin .append, args := #[s, x], argTypes := #[t, t] })
    (e : TypeId) (z : Value) (size bytes : Nat) (ht : P.underlying t = some (.slice e)) (hi : (P.info? e).map (fun i => (i.zero, i.size, i.bytes)) = some (some z, size, bytes)) (hzs : z.cells.size = size) (hsz : 0 < size)
    (B : Nat) (W0 : World) (v : Value) (n : Nat) (xs : List Value) (hs : a.eval s = v) (hown : Own e size B W0 v n xs w0)
    (m : Nat) (news : Array Value) (b : Nat) (hx : a.eval x = .slice (some ⟨b, 0, none⟩) m m) (hb : b = w0.heap.size) (hl : news.size = m * size) (h1 : ∀ u ∈ news.toList, u.oneCell' = true)
    (hlim : (n + m) * bytes ≤ 140737488355328) (hmax : n + m ≤ maxLen)
    (h : ∀ a' cap' w', Own e size B W0 (.slice a' (n + m) cap') (n + m) (xs ++ news.toList) w' → w0.grownBy w' v.ownBlock → ((Value.slice a' (n + m) cap').ownBlock = v.ownBlock ∨ ∃ k, (Value.slice a' (n + m) cap').ownBlock = some k ∧ w0.heap.size ≤ k) →
      wpList P ops Q rest (a.put o.dst (.slice a' (n + m) cap')) w') : wpList P ops Q (o :: rest) a (w0.alloc (.cells news e)) := by
  subst hb
  exact wp_app1g hgd s x t ho e z size bytes ht hi hzs hsz B W0 v n xs hs hown m news hx hl h1 hlim hmax h
end
def DrewNext (w : World) (e : Ending) (w' : World) : Prop :=
  ∃ (l : List EntL) (g : Option Addr) (c : Nat) (h k : Int), e = .returned (.tuple #[.slice g l.length c, .int .i64 h, .int .i64 k]) ∧ l.length ≤ 1000 ∧ (∀ x ∈ l, x.name.size ≤ 1073741824) ∧ Rd w' g l.length c 4 (ens l) ∧ Below w.heap.size w w'
theorem lawFnScan_core (hdraw : ∀ (a : Option Addr) (n cap : Nat) (bs : List Int) (w : World), Rd w a n cap 1 (bs.map (Value.int .u8)) → (∀ z ∈ bs, 0 ≤ z ∧ z ≤ 255) → n ≤ 1048576 → Calls Tryd.prog 42 #[.slice a n cap] w (DrewNext w))
    (a : Option Addr) (len cap : Nat) (zs0 : List Int) (w : World) (hrow : IsRow .u8 w a len cap zs0) (hT : KTab w) : Calls Tryd.prog 12 #[.slice a len cap] w fun e w' => e = .returned (.bool true) ∧ Below w.heap.size w w' := by
  have hm : len ≤ maxLen := by have h := hrow.rd.1; exact Nat.le_trans h.le h.max
  have HT := Lib.hid hT
  have HDR := Lib.hid hdraw
  clear hT hdraw
  by_cases hs : 1048576 < len
  · clear hrow
    go_enter Tryd.func12, Tryd.ntmps12
    go_wp2_with fail
    refine (big_any_any _ _ _ _ hs hm).mono ?_
    rintro e w' ⟨rfl, rfl⟩
    go_wp2
    go_ret
    exact ⟨rfl, Below.refl _ _⟩
  · obtain ⟨hR, hz⟩ := hrow.rd
    have HR := Lib.hid hR
    have HZ2 : Hid (∀ z ∈ zs0.take len, 0 ≤ z ∧ z ≤ 255) := Lib.hid (fun z hz' => by have := hz z hz'; simpa [Lit.wf, IntKind.min, IntKind.max, IntKind.signed, IntKind.bits] using this)
    have hn : len ≤ 1048576 := by omega
    clear hrow hR hz hs hm
    generalize zs0.take len = zs at *
    go_enter Tryd.func12, Tryd.ntmps12
    go_wp2_with fail
    refine (big_no_any _ _ _ _ hn).mono ?_
    rintro e w' ⟨rfl, rfl⟩
    go_wp2_with fail
    refine (HDR.out _ _ _ _ _ HR.out HZ2.out hn).mono ?_
    rintro e w1 ⟨l, g, c, h, k, rfl, hl, hns, hr, hb⟩
    have HB := Lib.hid hb
    have HL := Lib.hid hr
    have HNS := Lib.hid hns
    clear hb hr hns HR HZ2 HDR
    obtain ⟨R, hR⟩ : ∃ R, R = nextF l h k := ⟨_, rfl⟩
    obtain ⟨⟨xh, xi, xn, xd⟩, ok⟩ := R
    have HI : Hid (∀ W, Rd W g l.length c 4 (ens l) → KTab W → Calls Tryd.prog 38 #[.slice g l.length c, .int .i64 h, .int .i64 k] W fun e w' => e = .returned (.tuple #[.agg #[.int .i64 xh, .int .i64 xi, .string xn, .int .i64 xd], .bool ok]) ∧ Below W.heap.size W w') := Lib.hid (fun W hh hk => by have := implNext_any g l.length c l h k W hh HNS.out hk; rw [← hR] at this; exact this)
    have HS : Hid (∀ W, Rd W g l.length c 4 (ens l) → Calls Tryd.prog 37 #[.slice g l.length c, .int .i64 h, .int .i64 k] W fun e w' => e = .returned (.tuple #[.agg #[.int .i64 xh, .int .i64 xi, .string xn, .int .i64 xd], .bool ok]) ∧ Below W.heap.size W w') := Lib.hid (fun W hh => by have := specNext_any g l.length c l h k W hh HNS.out; rw [← hR] at this; exact this)
    have HNO : Hid (dirB l = false → ok = false) := Lib.hid (fun e => by have h2 := pickF_no l (fun x => lessH h k x.hash x.index) e; have h3 : (⟨⟨xh, xi, xn, xd⟩, ok⟩ : EntL × Bool) = (zEnt, false) := hR.trans h2; exact congrArg Prod.snd h3)
    clear hR
    go_wp2_with fail
    refine (HI.out _ HL.out (HT.out.step HB.out)).mono ?_
    rintro e w2 ⟨rfl, hb⟩
    replace HB := Lib.hid (below_step1 HB.out hb)
    replace HL := Lib.hid (HL.out.below hb (Nat.le_refl _))
    clear hb
    go_wp2_with fail
    obtain ⟨c0, c1, c2, c3⟩ := box4 w2 46 (.int .i64 xh) (.int .i64 xi) (.string xn) (.int .i64 xd)
    have HX := Lib.hid (boxA w2 (.cells #[.int .i64 xh, .int .i64 xi, .string xn, .int .i64 xd] 46))
    replace HB := Lib.hid (below_step1 HB.out HX.out)
    replace HL := Lib.hid (HL.out.below HX.out (Nat.le_refl _))
    refine (HS.out _ HL.out).mono ?_
    rintro e w3 ⟨rfl, hb⟩
    replace c0 := cellK c0 hb
    replace c1 := cellK c1 hb
    replace c2 := cellK c2 hb
    replace c3 := cellK c3 hb
    have hz3 : w2.heap.size < w3.heap.size := World.block_lt_of_cell? w3 _ c0
    replace HB := Lib.hid (below_step1 HB.out hb)
    replace HL := Lib.hid (HL.out.below hb (Nat.le_refl _))
    clear hb
    have hne : (ok != ok) = false := by simp
    go_wp2_with fail
    have HX3 := Lib.hid (boxA w3 (.cells #[.int .i64 xh, .int .i64 xi, .string xn, .int .i64 xd] 46))
    replace HB := Lib.hid (below_step1 HB.out HX3.out)
    replace HL := Lib.hid (HL.out.below HX3.out (Nat.le_refl _))
    clear HX c0 c1 c2 c3
    refine (specDirOk_any g _ c l _ HL.out HNS.out).mono ?_
    rintro e w4 ⟨rfl, hb⟩
    replace HB := Lib.hid (below_step1 HB.out hb)
    replace HL := Lib.hid (HL.out.below hb (Nat.le_refl _))
    clear hb HI HS
    cases hd : dirB l with
    | false =>
      have ho := HNO.out hd
      subst ho
      go_wp2
      go_ret
      exact ⟨rfl, HB.out⟩
    | true =>
      have HD := Lib.hid hd
      have h12 := dir_len l hd
      clear hd HNO
      have HLit := Lib.hid (Own.lit (e := 46) (size := 4) (n := 0) (Below.refl w4.heap.size w4) (Nat.le_refl _) #[] rfl (by decide))
      go_wp2
      go_loopg [4, 5, 10, 11] (l.length + 1) (fun gg h2 k2 o i wr => ∃ (m : Nat) (H K : Int) (a' : Option Addr) (c' : Nat), m + gg = l.length + 1 ∧ m ≤ l.length ∧ i = .int .i64 (m : Int) ∧ h2 = .int .i64 H ∧ k2 = .int .i64 K ∧ o = .slice a' m c' ∧ Hid (nextF l H K = tgt l m) ∧ Hid (Own 46 4 w4.heap.size w4 (.slice a' m c') m (ens (l.take m)) wr))
      case atStart => exact ⟨0, -1, k, _, _, by omega, by omega, rfl, rfl, rfl, rfl, Lib.hid (scan_tgt0 l HD.out k), Lib.hid (by exact HLit.out)⟩
      case round =>
        obtain ⟨m, H, K, a', c', hm1, hm2, rfl, rfl, rfl, rfl, HN, HO⟩ := hrel
        have hi : (m : Int) ≤ 12 := by omega
        have HBW := Lib.hid (below_step1 HB.out HO.out.below)
        have HLW := Lib.hid (HL.out.below HO.out.below (Nat.le_refl _))
        have HNX : Hid (Calls Tryd.prog 38 #[.slice g l.length c, .int .i64 H, .int .i64 K] wr fun e w' => e = .returned (.tuple #[enV (tgt l m).1, .bool (tgt l m).2]) ∧ Below wr.heap.size wr w') := Lib.hid (by have := implNext_any g l.length c l H K wr HLW.out HNS.out (HT.out.step HBW.out); rw [HN.out] at this; exact this)
        by_cases hlt : m < l.length
        · have HNT := Lib.hid (scan_tgt l HD.out m hlt)
          have HTK : Hid (ens (l.take (m + 1)) = ens (l.take m) ++ ens [l[m]]) := Lib.hid (by rw [List.take_succ_eq_append_getElem hlt, ens_append])
          have HNX2 : Hid (Calls Tryd.prog 38 #[.slice g l.length c, .int .i64 H, .int .i64 K] wr fun e w' => e = .returned (.tuple #[enV l[m], .bool true]) ∧ Below wr.heap.size wr w') := Lib.hid (by have := HNX.out; rw [tgt_in l m hlt] at this; exact this)
          clear HNX
          generalize l[m] = x at *
          obtain ⟨yh, yi, yn, yd⟩ := x
          unfold enV at HNX2
          try simp only at HNX2 HNT
          go_wp2_with fail
          refine HNX2.out.mono ?_
          rintro e w5 ⟨rfl, hb⟩
          have HB5 := Lib.hid (HO.out.kept hb)
          clear hb HO
          have hm3 : m ≤ 12 := by omega
          have HO6 := Lib.hid (HB5.out.alloc (.cells #[.int .i64 yh, .int .i64 yi, .string yn, .int .i64 yd] 46))
          obtain ⟨b0, b1, b2, b3⟩ := box4 w5 46 (.int .i64 yh) (.int .i64 yi) (.string yn) (.int .i64 yd)
          have HNX3 : Hid (∀ W, (w5.alloc (.cells #[.int .i64 yh, .int .i64 yi, .string yn, .int .i64 yd] 46)).grownBy W (Value.slice a' m c').ownBlock → W.cell? ⟨w5.heap.size, 0, none⟩ = some (.int .i64 yh) ∧ W.cell? ⟨w5.heap.size, 1, none⟩ = some (.int .i64 yi) ∧ w5.heap.size < W.heap.size) := Lib.hid (fun W hg => by
            have hbl := hg.block w5.heap.size (by simp) (fun e => by have := (HB5.out.blk _ e.symm).2; omega)
            have hsz := hg.size
            exact ⟨(World.cell?_of_block (a := ⟨w5.heap.size, 0, none⟩) hbl).trans b0, (World.cell?_of_block (a := ⟨w5.heap.size, 1, none⟩) hbl).trans b1, by simp at hsz; omega⟩)
          go_wp2_with (at_builtin; go_loud (refine wp_app1c rfl _ _ 41 rfl 46 (.agg #[.int .i64 0, .int .i64 0, .string ByteArray.empty, .int .i64 0]) 4 40 Tryd.underlying41 info_ent rfl (by decide) _ _ _ _ _ (by rfl) (by exact HO6.out) _ _ _ (by rfl) (by simp) (by rfl) (by intro u hu; simp at hu; rcases hu with rfl | rfl | rfl | rfl <;> rfl) (by omega) (by unfold maxLen; omega) ?_); intro a9 c9 w9 hO9 hG9 hN9; obtain ⟨y0, y1, y2⟩ := HNX3.out _ hG9; have HO9 := Lib.hid hO9; clear hG9 hN9 hO9)
          go_roundg (gk - 1)
          case measure => omega
          case rel => exact ⟨m + 1, yh, yi, _, _, by omega, by omega, by go_num, rfl, rfl, rfl, HNT, Lib.hid (by rw [HTK.out]; exact HO9.out)⟩
        · have HNX2 : Hid (Calls Tryd.prog 38 #[.slice g l.length c, .int .i64 H, .int .i64 K] wr fun e w' => e = .returned (.tuple #[enV zEnt, .bool false]) ∧ Below wr.heap.size wr w') := Lib.hid (by have := HNX.out; rw [tgt_out l m hlt] at this; exact this)
          have hml : m = l.length := by omega
          unfold enV zEnt at HNX2
          try simp only at HNX2
          subst hml
          rw [List.take_length] at HO
          clear HNX
          go_wp2_with fail
          refine HNX2.out.mono ?_
          rintro e w5 ⟨rfl, hb⟩
          have HO5 := Lib.hid (HO.out.kept hb)
          have HB5 := Lib.hid (below_step1 HBW.out hb)
          have HL5 := Lib.hid (HLW.out.below hb (Nat.le_refl _))
          clear hb HO
          go_wp2_with fail
          refine (sameDir_yes a' g c' c l _ (HO5.out.rd.alloc _) (HL5.out.alloc _) (by omega)).mono ?_
          rintro e w6 ⟨rfl, hb⟩
          have HB6 := Lib.hid (below_step1 (below_step1 HB5.out (boxA _ _)) hb)
          clear hb
          go_wp2
          go_ret
          exact ⟨rfl, HB6.out⟩
def smallN (x : EntL) : Prop := x.name.size ≤ 1073741824
theorem small_snoc {l : List EntL} {x : EntL} (h : ∀ y ∈ l, smallN y) (hx : smallN x) : ∀ y ∈ l ++ [x], smallN y := by
  intro y hy
  rcases List.mem_append.1 hy with h1 | h1
  · exact h y h1
  · rw [List.mem_singleton] at h1; subst h1; exact hx
set_option maxRecDepth 1000000 in
set_option maxHeartbeats 6000000 in
theorem l5Add_any (B : Nat) (a : Option Addr) (c : Nat) (l : List EntL) (s : ByteArray) (id : Int) (w : World) (h : w.ownsRow B 46 4 (.slice a l.length c) l.length (ens l)) (hB : B ≤ w.heap.size) (hs : ∀ x ∈ l, smallN x) (hss : s.size ≤ 1073741824) (hid0 : 1 ≤ id) (hid1 : id ≤ 100000) (hn : l.length ≤ 100000) :
    Calls Tryd.prog 81 #[.slice a l.length c, .string s, .int .i64 id] w (EntsNext B smallN (l.length + 1) w) := by
  have hO : Own 46 4 B w (.slice a l.length c) l.length (ens l) w := ⟨h, Below.refl _ _, hB⟩
  have HO := Lib.hid hO
  have H := Lib.hid hO.rd
  have HSZ := Lib.hid hs
  have HQ : Hid (∀ W, Own 46 4 B w (.slice a l.length c) l.length (ens l) W → Below w.heap.size w W → EntsNext B smallN (l.length + 1) w (.returned (.tuple #[.slice a l.length c, .bool false])) W) := Lib.hid (fun W h1 h2 => ⟨l, a, c, false, rfl, by omega, hs, h1.row, h2⟩)
  have HNM : Hid (∀ W, Calls Tryd.prog 17 #[.string s] W fun e w' => e = .returned (.bool (nameB s)) ∧ Below W.heap.size W w') := Lib.hid (fun W => specNameOk_any s W hss)
  clear h hs hO
  generalize nameB s = nb at *
  go_enter Tryd.func81, Tryd.ntmps81
  go_wp2_with fail
  refine (HNM.out _).mono ?_
  rintro e w1 ⟨rfl, hb⟩
  have HB1 := Lib.hid hb
  have HO1 := Lib.hid (HO.out.kept hb)
  clear hb HO
  cases nb with
  | false =>
    go_wp2
    go_ret2
    exact HQ.out _ HO1.out HB1.out
  | true =>
    go_wp2_with fail
    refine (l5At_any a _ c l s _ (H.out.below HB1.out (Nat.le_refl _)) HSZ.out hss).mono ?_
    rintro e w2 ⟨r, rfl, hE, hb⟩
    have HB2 := Lib.hid (below_step1 HB1.out hb)
    have HO2 := Lib.hid (HO1.out.kept hb)
    clear hb HO1 HB1
    rcases hE with ⟨rfl, -⟩ | ⟨m, hlt, rfl, -, -⟩
    · by_cases h12 : (12 : Int) ≤ (l.length : Int)
      · go_wp2_with (first | (go_at_call 50; (first | refine (l1In_yes _ _ _ _ (by omega) (by omega)).mono ?_ | refine (l1In_no _ _ _ _ (by omega)).mono ?_); rintro e w' ⟨rfl, rfl⟩))
        go_ret2
        exact HQ.out _ HO2.out HB2.out
      · go_wp2_with (first | (go_at_call 50; (first | refine (l1In_yes _ _ _ _ (by omega) (by omega)).mono ?_ | refine (l1In_no _ _ _ _ (by omega)).mono ?_); rintro e w' ⟨rfl, rfl⟩) | fail)
        refine (specHashOf_any s _ hss).mono ?_
        rintro e w3 ⟨rfl, hb⟩
        have HB3 := Lib.hid (below_step1 HB2.out hb)
        clear hb HQ HNM HO2
        generalize hashF s = hv at *
        go_wp2
        go_loopg [9, 10] l.length (fun gg q i wr => ∃ (j : Nat) (z : Int), j + gg = l.length ∧ i = .int .i64 (j : Int) ∧ q = .int .i64 z ∧ 0 ≤ z ∧ z ≤ (j : Int) ∧ wr = w3)
        case atStart => exact ⟨0, 0, by omega, rfl, rfl, by omega, by omega, rfl⟩
        case round =>
          obtain ⟨j, z, hj, rfl, rfl, hz0, hz1, rfl⟩ := hrel
          obtain ⟨gg, hgg⟩ : ∃ g, g = gk := ⟨_, rfl⟩
          by_cases hlt : j < l.length
          · obtain ⟨b, off, rfl, hbs, d0, d1, d2, d3⟩ := ens_cells (H.out.below HB3.out (Nat.le_refl _)) j hlt
            have hi : (j : Int) < (l.length : Int) := by omega
            have hi0 : (0 : Int) ≤ (j : Int) := by omega
            generalize l[j] = x at *
            obtain ⟨xh, xi, xn, xd⟩ := x
            try simp only at d0 d1 d2 d3
            clear hlt
            by_cases he : xh = hv
            · subst he
              by_cases he2 : xi = z
              · subst he2
                go_wp2
                go_roundg (gk - 1)
                case measure => omega
                case rel => exact ⟨j + 1, xi + 1, by omega, by go_num, by go_num, by omega, by omega, rfl⟩
              · have hne : (xi == z) = false := by simp [he2]
                clear he2
                go_wp2
                go_roundg (gk - 1)
                case measure => omega
                case rel => exact ⟨j + 1, z, by omega, by go_num, rfl, by omega, by omega, rfl⟩
            · have hne : (xh == hv) = false := by simp [he]
              clear he
              go_wp2
              go_roundg (gk - 1)
              case measure => omega
              case rel => exact ⟨j + 1, z, by omega, by go_num, rfl, by omega, by omega, rfl⟩
          · have hjl : j = l.length := by omega
            subst hjl
            rename World => wo
            have HB3b : Hid (Below w.heap.size w wo) := Lib.hid HB3.out
            have HLit := Lib.hid (Own.lit (e := 46) (size := 4) (n := 0) (Below.refl wo.heap.size wo) (Nat.le_refl _) #[] rfl (by decide))
            clear HB3
            go_wp2
            go_loopg [11, 12, 13] l.length (fun gg o pt i wr => ∃ (j : Nat) (lo : List EntL) (a' : Option Addr) (c' : Nat) (put : Bool), j + gg = l.length ∧ i = .int .i64 (j : Int) ∧ o = .slice a' lo.length c' ∧ pt = .bool put ∧ lo.length ≤ j + (if put = true then 1 else 0) ∧ Hid (∀ x ∈ lo, smallN x) ∧ Hid (Own 46 4 wo.heap.size wo (.slice a' lo.length c') lo.length (ens lo) wr))
            case atStart => exact ⟨0, [], _, _, false, by omega, rfl, rfl, rfl, by simp, Lib.hid (by simp), Lib.hid (by exact HLit.out)⟩
            case round =>
              obtain ⟨j, lo, a', c', put, hj2, rfl, rfl, rfl, hlo, HSM, HOO⟩ := hrel
              have HBW := Lib.hid (below_step1 HB3b.out HOO.out.below)
              by_cases hlt : j < l.length
              · obtain ⟨b, off, rfl, hbs, d0, d1, d2, d3⟩ := ens_cells (H.out.below HBW.out (Nat.le_refl _)) j hlt
                have hi : (j : Int) < (l.length : Int) := by omega
                have hi0 : (0 : Int) ≤ (j : Int) := by omega
                have HSX := Lib.hid (HSZ.out l[j] (List.getElem_mem hlt))
                have HDD : Hid (∀ W, Below w.heap.size w W → W.cell? ⟨b, off + j * 4, none⟩ = some (.int .i64 l[j].hash) ∧ W.cell? ⟨b, off + j * 4 + 1, none⟩ = some (.int .i64 l[j].index) ∧ W.cell? ⟨b, off + j * 4 + 2, none⟩ = some (.string l[j].name) ∧ W.cell? ⟨b, off + j * 4 + 3, none⟩ = some (.int .i64 l[j].id) ∧ b < W.heap.size) := Lib.hid (fun W hW => by
                  obtain ⟨b', off', e', hb', p0, p1, p2, p3⟩ := ens_cells (H.out.below hW (Nat.le_refl _)) j hlt
                  cases e'
                  exact ⟨p0, p1, p2, p3, hb'⟩)
                generalize l[j] = x at *
                obtain ⟨xh, xi, xn, xd⟩ := x
                try simp only at d0 d1 d2 d3 HDD
                have hl12 : l.length < 12 := by omega
                cases put with
                | true =>
                  rw [if_pos rfl] at hlo
                  have HOO2 := Lib.hid HOO.out
                  go_wp2_with (at_builtin; go_loud (refine wp_app1c rfl _ _ 41 rfl 46 (.agg #[.int .i64 0, .int .i64 0, .string ByteArray.empty, .int .i64 0]) 4 40 Tryd.underlying41 info_ent rfl (by decide) _ _ _ _ _ (by rfl) (by exact HOO2.out) _ _ _ (by rfl) (by first | rfl | simp) (by rfl) (by intro u hu; simp at hu; rcases hu with rfl | rfl | rfl | rfl <;> rfl) (by omega) (by unfold maxLen; omega) ?_); intro a9 c9 w9 hO9 hG9 hN9; have HO9 := Lib.hid hO9; clear hG9 hN9 hO9)
                  go_roundg (gk - 1)
                  case measure => omega
                  case rel => exact ⟨j + 1, lo ++ [⟨xh, xi, xn, xd⟩], _, _, true, by omega, by go_num, by rw [List.length_append]; rfl, rfl, by rw [List.length_append, if_pos rfl]; simp; omega, Lib.hid (small_snoc HSM.out HSX.out), Lib.hid (by rw [List.length_append, ens_append]; exact HO9.out)⟩
                | false =>
                  rw [if_neg (by decide)] at hlo
                  have HLS : Hid (∀ W, Calls Tryd.prog 66 #[.agg #[.int .i64 xh, .int .i64 xi, .string xn, .int .i64 xd], .int .i64 hv, .int .i64 z] W fun e w' => e = .returned (.bool (lessH xh xi hv z)) ∧ Below W.heap.size W w') := Lib.hid (fun W => l5Less_any ⟨xh, xi, xn, xd⟩ hv z W)
                  generalize lessH xh xi hv z = bl at *
                  go_wp2_with fail
                  refine (HLS.out _).mono ?_
                  rintro e w5 ⟨rfl, hb⟩
                  have HOO2 := Lib.hid (HOO.out.kept hb)
                  replace d0 := cellK d0 hb
                  replace d1 := cellK d1 hb
                  replace d2 := cellK d2 hb
                  replace d3 := cellK d3 hb
                  have hbs5 : b < w5.heap.size := World.block_lt_of_cell? w5 _ d0
                  clear hb
                  cases bl with
                  | true =>
                    go_wp2_with (at_builtin; go_loud (refine wp_app1c rfl _ _ 41 rfl 46 (.agg #[.int .i64 0, .int .i64 0, .string ByteArray.empty, .int .i64 0]) 4 40 Tryd.underlying41 info_ent rfl (by decide) _ _ _ _ _ (by rfl) (by exact HOO2.out) _ _ _ (by rfl) (by first | rfl | simp) (by rfl) (by intro u hu; simp at hu; rcases hu with rfl | rfl | rfl | rfl <;> rfl) (by omega) (by unfold maxLen; omega) ?_); intro a9 c9 w9 hO9 hG9 hN9; have HO9 := Lib.hid hO9; clear hG9 hN9 hO9)
                    go_roundg (gk - 1)
                    case measure => omega
                    case rel => exact ⟨j + 1, lo ++ [⟨xh, xi, xn, xd⟩], _, _, false, by omega, by go_num, by rw [List.length_append]; rfl, rfl, by rw [List.length_append, if_neg (by decide)]; simp; omega, Lib.hid (small_snoc HSM.out HSX.out), Lib.hid (by rw [List.length_append, ens_append]; exact HO9.out)⟩
                  | false =>
                    have hlo3 : lo.length + 1 ≤ 12 := by omega
                    go_wp2_with (first | (at_builtin; go_loud (refine wp_app1c rfl _ _ 41 rfl 46 (.agg #[.int .i64 0, .int .i64 0, .string ByteArray.empty, .int .i64 0]) 4 40 Tryd.underlying41 info_ent rfl (by decide) _ _ _ _ _ (by rfl) (by exact HOO2.out) _ _ _ (by rfl) (by first | rfl | simp) (by rfl) (by intro u hu; simp at hu; rcases hu with rfl | rfl | rfl | rfl <;> rfl) (by omega) (by unfold maxLen; omega) ?_); intro a9 c9 w9 hO9 hG9 hN9; have HO9 := Lib.hid hO9; clear hG9 hN9 hO9; obtain ⟨e0, e1, e2, e3, e4⟩ := HDD.out w9 (below_step1 HB3b.out HO9.out.below)) | (at_builtin; go_loud (refine wp_app1c rfl _ _ 41 rfl 46 (.agg #[.int .i64 0, .int .i64 0, .string ByteArray.empty, .int .i64 0]) 4 40 Tryd.underlying41 info_ent rfl (by decide) _ _ _ _ _ (by rfl) (by exact HO9.out) _ _ _ (by rfl) (by first | rfl | simp) (by rfl) (by intro u hu; simp at hu; rcases hu with rfl | rfl | rfl | rfl <;> rfl) (by omega) (by unfold maxLen; omega) ?_); intro a8 c8 w8 hO8 hG8 hN8; have HO8 := Lib.hid hO8; clear hG8 hN8 hO8))
                    go_roundg (gk - 1)
                    case measure => omega
                    case rel => exact ⟨j + 1, (lo ++ [⟨hv, z, s, id⟩]) ++ [⟨xh, xi, xn, xd⟩], _, _, true, by omega, by go_num, by rw [List.length_append, List.length_append]; rfl, rfl, by rw [List.length_append, List.length_append, if_pos rfl]; simp; omega, Lib.hid (small_snoc (small_snoc (x := ⟨hv, z, s, id⟩) HSM.out hss) HSX.out), Lib.hid (by rw [List.length_append, List.length_append, ens_append, ens_append]; exact HO8.out)⟩
              · have hjl2 : j = l.length := by omega
                subst hjl2
                have hl12 : l.length < 12 := by omega
                cases put with
                | true =>
                  rw [if_pos rfl] at hlo
                  go_wp2
                  go_ret2
                  exact ⟨lo, a', c', true, rfl, hlo, HSM.out, row_mono HOO.out.row (Nat.le_trans hB HB3b.out.size), HBW.out⟩
                | false =>
                  rw [if_neg (by decide)] at hlo
                  have HOO2 := Lib.hid HOO.out
                  go_wp2_with (at_builtin; go_loud (refine wp_app1c rfl _ _ 41 rfl 46 (.agg #[.int .i64 0, .int .i64 0, .string ByteArray.empty, .int .i64 0]) 4 40 Tryd.underlying41 info_ent rfl (by decide) _ _ _ _ _ (by rfl) (by exact HOO2.out) _ _ _ (by rfl) (by first | rfl | simp) (by rfl) (by intro u hu; simp at hu; rcases hu with rfl | rfl | rfl | rfl <;> rfl) (by omega) (by unfold maxLen; omega) ?_); intro a9 c9 w9 hO9 hG9 hN9; have HO9 := Lib.hid hO9; clear hG9 hN9 hO9)
                  go_ret2
                  exact ⟨lo ++ [⟨hv, z, s, id⟩], a9, c9, true, by rw [List.length_append]; rfl, by rw [List.length_append]; simp; omega, small_snoc (x := ⟨hv, z, s, id⟩) HSM.out hss, by rw [List.length_append, ens_append]; exact row_mono HO9.out.row (Nat.le_trans hB HB3b.out.size), below_step1 HB3b.out HO9.out.below⟩
    · have hm0 : (0 : Int) ≤ (m : Int) := by omega
      go_wp2
      go_ret2
      exact HQ.out _ HO2.out HB2.out
theorem row_cur {w w' : World} {B g : Nat} {e : TypeId} {size : Nat} {v : Value} {n : Nat} {xs : List Value} (h : w.ownsRow B e size v n xs) (hG : w.grownBy w' (some g)) (hg : g < B) : w'.ownsRow B e size v n xs :=
  h.kept hG (by
    cases hv : Value.ownBlock v with
    | none => exact .inl rfl
    | some k => right; have := (h.lt k hv).1; simp; omega)
def DrewEnts (a : Option Addr) (n cap : Nat) (bs : List Int) (g : Nat) (w : World) (most : Nat) (e : Ending) (w' : World) : Prop :=
  ∃ (l : List EntL) (s : CS) (p : Option Addr) (c : Nat), e = .returned (.slice p l.length c) ∧ l.length ≤ most ∧ (∀ x ∈ l, smallN x) ∧ w'.ownsRow w.heap.size 46 4 (.slice p l.length c) l.length (ens l) ∧ CurAt a n cap bs g s w' ∧ w.grownBy w' (some g)
set_option maxRecDepth 1000000 in
set_option maxHeartbeats 6000000 in
theorem l5Dir_any (a : Option Addr) (n cap : Nat) (bs : List Int) (g : Nat) (s : CS) (most : Int) (w : World) (hC : CurAt a n cap bs g s w) (hm0 : 1 ≤ most) (hm : most ≤ 900) :
    Calls Tryd.prog 97 #[.pointer (some ⟨g, 0, none⟩), .int .i64 most] w (DrewEnts a n cap bs g w 900) := by
  have HC := Lib.hid (hC.alloc (.cells #[] 46))
  have hg := hC.lt
  have HW := Lib.hid (World.grownBy_alloc w (.cells #[] 46) (some g))
  clear hC
  go_enter Tryd.func97, Tryd.ntmps97
  go_wp2_with fail
  refine (l1Below_any a n cap bs g _ most _ HC.out (by omega)).mono ?_
  rintro e w2 ⟨rfl, hC1, hG1⟩
  have hr2 := belowF_range bs most s (by omega)
  have HC2 := Lib.hid hC1
  have HG2 := Lib.hid (HW.out.trans hG1)
  have HR2 : Hid (w2.ownsRow w.heap.size 46 4 (.slice (some ⟨w.heap.size, 0, none⟩) 0 0) 0 []) := Lib.hid (row_cur (World.ownsRow_lit w #[] 0 (by omega) (by decide) rfl) hG1 hg)
  clear hC1 hG1 HC
  generalize (belowF bs most s).2 = s2 at *
  generalize (belowF bs most s).1 = k2 at *
  obtain ⟨hk0, hk1⟩ := hr2
  obtain ⟨K, rfl⟩ := Int.eq_ofNat_of_zero_le hk0
  clear hk0
  go_wp2
  go_loopg [5, 6] K (fun gg o i wr => ∃ (l : List EntL) (sk : CS) (av : Option Addr) (cv : Nat), i = .int .i64 (gg : Nat) ∧ o = .slice av l.length cv ∧ l.length + gg ≤ K ∧ Hid (∀ x ∈ l, smallN x) ∧
    Hid (wr.ownsRow w.heap.size 46 4 (.slice av l.length cv) l.length (ens l)) ∧ Hid (CurAt a n cap bs g sk wr) ∧ Hid (w.grownBy wr (some g)))
  case atStart => exact ⟨[], s2, _, _, rfl, rfl, by simp, Lib.hid (by simp), HR2, HC2, HG2⟩
  case round =>
    obtain ⟨l, sk, av, cv, rfl, rfl, hlen, HP, HO, HCk, HGk⟩ := hrel
    have hwr := HGk.out.size
    cases gk with
    | zero =>
      go_wp2_with fail
      refine (l5Copy_any av cv l _ (Own.rd ⟨HO.out, Below.refl _ _, hwr⟩) (by omega)).mono ?_
      rintro e w3 ⟨p3, c3, rfl, hO3⟩
      have HO3 := Lib.hid hO3
      clear hO3
      go_wp2
      go_ret
      exact ⟨l, sk, p3, c3, rfl, by omega, HP.out, row_mono HO3.out.row hwr, HCk.out.kept HO3.out.below, HGk.out.trans (grown_of_below (some g) HO3.out.below)⟩
    | succ gq =>
      have hbl : l.length ≤ 1000 := by omega
      have hgq : (0 : Int) < ((gq + 1 : Nat) : Int) := by omega
      go_wp2_with fail
      refine (l1Once_any a n cap bs g sk 5 _ HCk.out (by omega)).mono ?_
      rintro e w3 ⟨rfl, hC1, hG1⟩
      have HC3 := Lib.hid hC1
      have HG3 := Lib.hid (HGk.out.trans hG1)
      have HO3 := Lib.hid (row_cur HO.out hG1 hg)
      clear hC1 hG1 HO HCk HGk
      simp only at HC3 ⊢
      generalize (belowF bs 5 sk).2 = s3 at *
      generalize ((belowF bs 5 sk).1 == 0) = t3 at *
      cases t3 with
      | true =>
        go_wp2_with fail
        refine (l4Name_any a n cap bs g s3 _ HC3.out).mono ?_
        rintro e w4 ⟨⟨nm, s4⟩, hnm, rfl, hC1, hG1⟩
        have HC4 := Lib.hid hC1
        have HG4 := Lib.hid (HG3.out.trans hG1)
        have HO4 := Lib.hid (row_cur HO3.out hG1 hg)
        have hw4 := HG4.out.size
        clear hC1 hG1 HO3 HC3 HG3
        simp only at HC4 hnm ⊢
        go_wp2_with fail
        refine (l5Drop_any w.heap.size av cv l nm smallN _ HO4.out hw4 HP.out (fun x hx => HP.out x hx) (by omega) (by omega)).mono ?_
        rintro e w5 ⟨l5, g5, c5, ok5, rfl, hl5, hP5, hO5, hb⟩
        have HC5 := Lib.hid (HC4.out.kept hb)
        have HG5 := Lib.hid (HG4.out.trans (grown_of_below (some g) hb))
        have HO5 := Lib.hid hO5
        have HP5 := Lib.hid hP5
        clear hb hO5 hP5
        go_wp2
        go_roundg gq
        case measure => omega
        case rel => exact ⟨l5, s4, g5, c5, by go_num, rfl, by omega, HP5, HO5, HC5, HG5⟩
      | false =>
        go_wp2_with fail
        refine (l4Name_any a n cap bs g s3 _ HC3.out).mono ?_
        rintro e w4 ⟨⟨nm, s4⟩, hnm, rfl, hC1, hG1⟩
        have HC4 := Lib.hid hC1
        have HG4 := Lib.hid (HG3.out.trans hG1)
        have HO4 := Lib.hid (row_cur HO3.out hG1 hg)
        clear hC1 hG1 HO3 HC3 HG3
        simp only at HC4 hnm ⊢
        go_wp2_with fail
        refine (l1Below_any a n cap bs g _ 9 _ HC4.out (by omega)).mono ?_
        rintro e w6 ⟨rfl, hC1, hG1⟩
        have hr := belowF_range bs 9 s4 (by omega)
        have HC6 := Lib.hid hC1
        have HG6 := Lib.hid (HG4.out.trans hG1)
        have HO6 := Lib.hid (row_cur HO4.out hG1 hg)
        have hw6 := HG6.out.size
        clear hC1 hG1 HO4 HC4 HG4
        generalize (belowF bs 9 s4).2 = s6 at *
        generalize (belowF bs 9 s4).1 = k6 at *
        obtain ⟨hk0, hk9⟩ := hr
        have hkw : IntKind.i64.wrap (1 + k6) = 1 + k6 := IntWalk.i64_in _ ⟨by omega, by omega⟩
        simp only at HC6 ⊢
        go_wp2_with fail
        refine (l5Add_any w.heap.size av cv l nm (1 + k6) _ HO6.out hw6 HP.out (by omega) (by omega) (by omega) (by omega)).mono ?_
        rintro e w5 ⟨l5, g5, c5, ok5, rfl, hl5, hP5, hO5, hb⟩
        have HC5 := Lib.hid (HC6.out.kept hb)
        have HG5 := Lib.hid (HG6.out.trans (grown_of_below (some g) hb))
        have HO5 := Lib.hid hO5
        have HP5 := Lib.hid hP5
        clear hb hO5 hP5
        go_wp2
        go_roundg gq
        case measure => omega
        case rel => exact ⟨l5, s6, g5, c5, by go_num, rfl, by omega, HP5, HO5, HC5, HG5⟩
theorem ens_set : ∀ (l : List EntL) (k : Nat) (hk : k < l.length) (j : Nat) (_ : j < 4) (v : Value) (x' : EntL) (_ : en1 x' = (en1 l[k]).set j v), (ens l).set (k * 4 + j) v = ens (l.set k x') := by
  intro l
  induction l with
  | nil => intro k hk; simp at hk
  | cons y l ih =>
    intro k hk j hj v x' hx
    cases k with
    | zero =>
      show (en1 y ++ ens l).set (0 * 4 + j) v = en1 x' ++ ens l
      rw [Nat.zero_mul, Nat.zero_add, List.set_append_left _ _ (by rw [en1_len]; exact hj)]
      rw [hx]; rfl
    | succ k =>
      show (en1 y ++ ens l).set ((k + 1) * 4 + j) v = en1 y ++ ens (l.set k x')
      rw [List.set_append_right _ _ (by rw [en1_len]; omega), en1_len, show (k + 1) * 4 + j - 4 = k * 4 + j from by omega]
      rw [ih k (by simpa using hk) j hj v x' (by simpa using hx)]
theorem ents_store {a : Option Addr} {n cap : Nat} {bs : List Int} {g : Nat} {s : CS} {w wr : World} {l : List EntL} {g' cv : Nat} (HO : wr.ownsRow w.heap.size 46 4 (.slice (some ⟨g', 0, none⟩) l.length cv) l.length (ens l)) (hC : CurAt a n cap bs g s wr) (hg : g < w.heap.size) (hG : w.grownBy wr (some g))
    (hP : ∀ x ∈ l, smallN x) (hl : l.length ≤ 901) (k : Nat) (hk : k < l.length) (j : Nat) (hj : j < 4) (v : Value) (x' : EntL) (hx : en1 x' = (en1 l[k]).set j v) (hsm : smallN x') :
    DrewEnts a n cap bs g w 901 (.returned (.slice (some ⟨g', 0, none⟩) l.length cv)) (wr.setCell ⟨g', k * 4 + j, none⟩ v) := by
  have hlt := HO.lt g' rfl
  have O := (Own.set (W0 := wr) ⟨HO, Below.refl _ _, hG.size⟩ (k * 4 + j) v)
  rw [ens_set l k hk j hj v x' hx] at O
  refine ⟨l.set k x', s, some ⟨g', 0, none⟩, cv, by rw [List.length_set], by rw [List.length_set]; exact hl, ?_, ?_, ?_, ?_⟩
  · intro x h
    rcases List.mem_or_eq_of_mem_set h with h | h
    · exact hP x h
    · rw [h]; exact hsm
  · rw [List.length_set]; exact O.row
  · exact hC.grown (setCell_grown wr g' _ _) (fun q hq => by cases hq; omega)
  · exact grown_trans hG (setCell_grown wr g' _ _) (fun q hq => by cases hq; exact .inr hlt.1)
set_option maxRecDepth 1000000 in
set_option maxHeartbeats 6000000 in
theorem l5Any_any (a : Option Addr) (n cap : Nat) (bs : List Int) (g : Nat) (s : CS) (most : Int) (w : World) (hC : CurAt a n cap bs g s w) (hm0 : 1 ≤ most) (hm : most ≤ 900) :
    Calls Tryd.prog 74 #[.pointer (some ⟨g, 0, none⟩), .int .i64 most] w (DrewEnts a n cap bs g w 901) := by
  have HC := Lib.hid hC
  have hg := hC.lt
  clear hC
  go_enter Tryd.func74, Tryd.ntmps74
  go_wp2_with fail
  refine (l5Dir_any a n cap bs g _ most _ HC.out hm0 hm).mono ?_
  rintro e w2 ⟨l, s2, av, cv, rfl, hl, hP, hO, hC2, hG2⟩
  have HP := Lib.hid hP
  have HO2 := Lib.hid hO
  have HC2 := Lib.hid hC2
  have HG2 := Lib.hid hG2
  clear hP hO hC2 hG2 HC
  by_cases hl0 : l.length = 0
  · have HL0 := Lib.hid hl0
    have hz : ((l.length : Int) == 0) = true := by simp [hl0]
    clear hl0
    go_wp2
    go_ret
    exact ⟨l, s2, av, cv, rfl, by omega, HP.out, HO2.out, HC2.out, HG2.out⟩
  · have hz : ((l.length : Int) == 0) = false := by rw [beq_eq_false_iff_ne]; omega
    have hlp : 0 < l.length := by omega
    clear hl0
    go_wp2_with fail
    refine (l1Once_any a n cap bs g s2 10 _ HC2.out (by omega)).mono ?_
    rintro e w3 ⟨rfl, hC1, hG1⟩
    have HC3 := Lib.hid hC1
    have HG3 := Lib.hid (HG2.out.trans hG1)
    have HO3 := Lib.hid (row_cur HO2.out hG1 hg)
    clear hC1 hG1 HC2 HG2 HO2
    simp only at HC3 ⊢
    generalize (belowF bs 10 s2).2 = s3 at *
    generalize ((belowF bs 10 s2).1 == 0) = t3 at *
    cases t3 with
    | false =>
      go_wp2
      go_ret
      exact ⟨l, s3, av, cv, rfl, by omega, HP.out, HO3.out, HC3.out, HG3.out⟩
    | true =>
      go_wp2_with fail
      refine (l1Below_any a n cap bs g _ l.length _ HC3.out (by omega)).mono ?_
      rintro e w4 ⟨rfl, hC1, hG1⟩
      have hr := belowF_range bs l.length s3 (by omega)
      have HC4 := Lib.hid hC1
      have HG4 := Lib.hid (HG3.out.trans hG1)
      have HO4 := Lib.hid (row_cur HO3.out hG1 hg)
      clear hC1 hG1 HC3 HG3 HO3
      generalize (belowF bs l.length s3).2 = s4 at *
      generalize (belowF bs l.length s3).1 = k4 at *
      obtain ⟨hk0, hk1⟩ := hr
      obtain ⟨k, rfl⟩ := Int.eq_ofNat_of_zero_le hk0
      have hk : k < l.length := by omega
      simp only at HC4 ⊢
      go_wp2_with fail
      refine (l1Below_any a n cap bs g _ 5 _ HC4.out (by omega)).mono ?_
      rintro e w5 ⟨rfl, hC1, hG1⟩
      have hr := belowF_range bs 5 s4 (by omega)
      have HC5 := Lib.hid hC1
      have HG5 := Lib.hid (HG4.out.trans hG1)
      have HO5 := Lib.hid (row_cur HO4.out hG1 hg)
      clear hC1 hG1 HC4 HG4 HO4
      generalize (belowF bs 5 s4).2 = s5 at *
      generalize (belowF bs 5 s4).1 = q at *
      simp only at HC5 ⊢
      have hwb := HG5.out.size
      obtain ⟨g', cv', he, hg'⟩ := (show Own 46 4 w.heap.size w5 (.slice av l.length cv) l.length (ens l) w5 from ⟨HO5.out, Below.refl _ _, hwb⟩).shape1 hlp
      cases he
      have hO5 : Own 46 4 w.heap.size w5 (.slice (some ⟨g', 0, none⟩) l.length cv) l.length (ens l) w5 := ⟨HO5.out, Below.refl _ _, hwb⟩
      have HOW := Lib.hid hO5
      obtain ⟨b', off', e', hbs, d0, d1, d2, d3⟩ := ens_cells hO5.rd k hk
      cases e'
      have f0 := hO5.free (k * 4)
      have f1 := hO5.free (k * 4 + 1)
      have f2 := hO5.free (k * 4 + 2)
      have f3 := hO5.free (k * 4 + 3)
      rw [Nat.zero_add] at d0 d1 d2 d3
      have HST := Lib.hid (fun (wq : World) (sq : CS) (h1 : wq.ownsRow w.heap.size 46 4 (.slice (some ⟨g', 0, none⟩) l.length cv) l.length (ens l)) (h2 : CurAt a n cap bs g sq wq) (h3 : w.grownBy wq (some g)) => ents_store h1 h2 hg h3 HP.out (by omega) k hk)
      have HPK := Lib.hid (HP.out l[k] (List.getElem_mem hk))
      clear hO5
      by_cases q0 : q = 0
      · subst q0
        go_wp2
        go_ret
        exact HST.out _ _ HO5.out HC5.out HG5.out 0 (by omega) _ ⟨_, l[k].index, l[k].name, l[k].id⟩ rfl HPK.out
      · by_cases q1 : q = 1
        · subst q1
          clear d0 d1 d2 d3 f0 f1 f2 f3 q0
          go_wp2_with fail
          refine (l1PickInt_any a n cap bs g s5 _ 4 4 [-1, 3, 12, 13] _ (HC5.out.alloc _) (by exact lit_rd (news := (ints [-1, 3, 12, 13]).toArray) rfl (by decide)) (fun x hx => by cases hx; have := HC5.out.lt; show w5.heap.size ≠ g; omega) (by omega) (by omega)).mono ?_
          rintro e w6 ⟨rfl, hC1, hG1⟩
          have HC6 := Lib.hid hC1
          have HG6 := Lib.hid ((HG5.out.trans (World.grownBy_alloc _ _ _)).trans hG1)
          have HO6 := Lib.hid (row_cur (HO5.out.alloc (.cells #[.int .i64 (-1), .int .i64 3, .int .i64 12, .int .i64 13] 3)) hG1 hg)
          clear hC1 hG1
          have hw6 := HG6.out.size
          have hO6 : Own 46 4 w.heap.size w6 (.slice (some ⟨g', 0, none⟩) l.length cv) l.length (ens l) w6 := ⟨HO6.out, Below.refl _ _, hw6⟩
          obtain ⟨b', off', e', hbs6, d0, d1, d2, d3⟩ := ens_cells hO6.rd k hk
          cases e'
          rw [Nat.zero_add] at d0 d1 d2 d3
          have f0 := hO6.free (k * 4)
          have f1 := hO6.free (k * 4 + 1)
          have f2 := hO6.free (k * 4 + 2)
          have f3 := hO6.free (k * 4 + 3)
          clear hO6
          simp only at HC6 ⊢
          generalize List.getD [-1, 3, 12, 13] (belowF bs 4 s5).1.toNat 0 = z at *
          go_wp2
          go_ret
          exact HST.out _ _ HO6.out HC6.out HG6.out 1 (by omega) _ ⟨l[k].hash, z, l[k].name, l[k].id⟩ rfl HPK.out
        · by_cases q2 : q = 2
          · subst q2
            clear d0 d1 d2 d3 f0 f1 f2 f3 q0 q1
            go_wp2_with fail
            refine (l4Name_any a n cap bs g s5 _ HC5.out).mono ?_
            rintro e w6 ⟨⟨nm, s6⟩, hnm, rfl, hC1, hG1⟩
            simp only at hnm
            have HC6 := Lib.hid hC1
            have HG6 := Lib.hid (HG5.out.trans hG1)
            have HO6 := Lib.hid (row_cur (HO5.out) hG1 hg)
            clear hC1 hG1
            have hw6 := HG6.out.size
            have hO6 : Own 46 4 w.heap.size w6 (.slice (some ⟨g', 0, none⟩) l.length cv) l.length (ens l) w6 := ⟨HO6.out, Below.refl _ _, hw6⟩
            obtain ⟨b', off', e', hbs6, d0, d1, d2, d3⟩ := ens_cells hO6.rd k hk
            cases e'
            rw [Nat.zero_add] at d0 d1 d2 d3
            have f0 := hO6.free (k * 4)
            have f1 := hO6.free (k * 4 + 1)
            have f2 := hO6.free (k * 4 + 2)
            have f3 := hO6.free (k * 4 + 3)
            clear hO6
            simp only at HC6 ⊢
            go_wp2
            go_ret
            exact HST.out _ _ HO6.out HC6.out HG6.out 2 (by omega) _ ⟨l[k].hash, l[k].index, nm, l[k].id⟩ rfl (by show nm.size ≤ 1073741824; omega)
          · by_cases q3 : q = 3
            · subst q3
              clear d0 d1 d2 d3 f0 f1 f2 f3 q0 q1 q2
              go_wp2_with fail
              refine (l1PickInt_any a n cap bs g s5 _ 3 3 [0, 100000, 100001] _ (HC5.out.alloc _) (by exact lit_rd (news := (ints [0, 100000, 100001]).toArray) rfl (by decide)) (fun x hx => by cases hx; have := HC5.out.lt; show w5.heap.size ≠ g; omega) (by omega) (by omega)).mono ?_
              rintro e w6 ⟨rfl, hC1, hG1⟩
              have HC6 := Lib.hid hC1
              have HG6 := Lib.hid ((HG5.out.trans (World.grownBy_alloc _ _ _)).trans hG1)
              have HO6 := Lib.hid (row_cur (HO5.out.alloc (.cells #[.int .i64 0, .int .i64 100000, .int .i64 100001] 3)) hG1 hg)
              clear hC1 hG1
              have hw6 := HG6.out.size
              have hO6 : Own 46 4 w.heap.size w6 (.slice (some ⟨g', 0, none⟩) l.length cv) l.length (ens l) w6 := ⟨HO6.out, Below.refl _ _, hw6⟩
              obtain ⟨b', off', e', hbs6, d0, d1, d2, d3⟩ := ens_cells hO6.rd k hk
              cases e'
              rw [Nat.zero_add] at d0 d1 d2 d3
              have f0 := hO6.free (k * 4)
              have f1 := hO6.free (k * 4 + 1)
              have f2 := hO6.free (k * 4 + 2)
              have f3 := hO6.free (k * 4 + 3)
              clear hO6
              simp only at HC6 ⊢
              generalize List.getD [0, 100000, 100001] (belowF bs 3 s5).1.toNat 0 = z at *
              go_wp2
              go_ret
              exact HST.out _ _ HO6.out HC6.out HG6.out 3 (by omega) _ ⟨l[k].hash, l[k].index, l[k].name, [0, 100000, 100001][(belowF bs 3 s5).1.toNat]?.getD 0⟩ rfl HPK.out
            · have e0 : (q == 0) = false := by simp [q0]
              have e1 : (q == 1) = false := by simp [q1]
              have e2 : (q == 2) = false := by simp [q2]
              have e3 : (q == 3) = false := by simp [q3]
              clear q0 q1 q2 q3 hr f0 f1 f2 f3
              have HEN : Hid (ens (l ++ [l[k]]) = ens l ++ ens [l[k]]) := Lib.hid (ens_append _ _)
              have HPN := Lib.hid (small_snoc HP.out HPK.out)
              clear HST HPK
              generalize l[k] = x at *
              obtain ⟨xh, xi, xn, xd⟩ := x
              try simp only at d0 d1 d2 d3
              go_wp2_with (at_builtin; go_loud (refine wp_app1c rfl _ _ 41 rfl 46 (.agg #[.int .i64 0, .int .i64 0, .string ByteArray.empty, .int .i64 0]) 4 40 Tryd.underlying41 info_ent rfl (by decide) _ _ _ _ _ (by rfl) (by exact HOW.out) _ _ _ (by rfl) (by first | rfl | simp) (by rfl) (by intro u hu; simp at hu; rcases hu with rfl | rfl | rfl | rfl <;> rfl) (by omega) (by unfold maxLen; omega) ?_); intro a9 c9 w9 hO9 hG9 hN9; have HO9 := Lib.hid hO9; have HG9 := Lib.hid hG9; clear hG9 hN9 hO9)
              go_ret
              exact ⟨l ++ [⟨xh, xi, xn, xd⟩], s5, a9, c9, by rw [List.length_append]; rfl, by rw [List.length_append]; simp; omega, HPN.out, by rw [HEN.out, List.length_append]; exact HO9.out.row, HC5.out.grown HG9.out (fun q hq => by cases hq; dsimp only; omega), grown_trans HG5.out HG9.out (fun q hq => by cases hq; exact .inr (by dsimp only; omega))⟩
set_option maxRecDepth 1000000 in
set_option maxHeartbeats 6000000 in
theorem drawNext_any (a : Option Addr) (n cap : Nat) (bs : List Int) (w : World) (h : Rd w a n cap 1 (bs.map (Value.int .u8))) (hb : ∀ z ∈ bs, 0 ≤ z ∧ z ≤ 255) (hn : n ≤ 1048576) :
    Calls Tryd.prog 42 #[.slice a n cap] w (DrewNext w) := by
  go_enter Tryd.func42, Tryd.ntmps42
  go_wp2_with fail
  refine (l1New_any a n cap bs _ h hb hn).mono ?_
  rintro e w1 ⟨rfl, hC, hB⟩
  have HC1 := Lib.hid hC
  have HB1 := Lib.hid hB
  have hw1 := hC.lt
  clear hC hB h hb
  go_wp2_with fail
  refine (l1Below_any a n cap bs _ _ 18 _ HC1.out (by omega)).mono ?_
  rintro e w2 ⟨rfl, hC, hG⟩
  have hr1 := belowF_range bs 18 ⟨0, newH bs⟩ (by omega)
  have HC2 := Lib.hid hC
  have HG2 := Lib.hid hG
  clear hC hG HC1
  generalize (belowF bs 18 ⟨0, newH bs⟩).2 = s2 at *
  generalize (belowF bs 18 ⟨0, newH bs⟩).1 = k2 at *
  obtain ⟨ha0, ha1⟩ := hr1
  have hkw2 : IntKind.i64.wrap (k2 - 1) = k2 - 1 := IntWalk.i64_in _ ⟨by omega, by omega⟩
  simp only at HC2 ⊢
  go_wp2_with fail
  refine (l1Below_any a n cap bs _ _ 4 _ HC2.out (by omega)).mono ?_
  rintro e w3 ⟨rfl, hC, hG⟩
  have hr1 := belowF_range bs 4 s2 (by omega)
  have HC3 := Lib.hid hC
  have HG3 := Lib.hid (HG2.out.trans hG)
  clear hC hG HC2 HG2
  generalize (belowF bs 4 s2).2 = s3 at *
  generalize (belowF bs 4 s2).1 = k3 at *
  obtain ⟨hb0, hb1⟩ := hr1
  have hkw3 : IntKind.i64.wrap (k3 - 1) = k3 - 1 := IntWalk.i64_in _ ⟨by omega, by omega⟩
  simp only at HC3 ⊢
  go_wp2_with fail
  refine (l1Size_any a n cap 18 _ (by omega) (by omega) hn).mono ?_
  rintro e w' ⟨x, rfl, hx0, hx1, rfl⟩
  go_wp2_with fail
  refine (l5Any_any a n cap bs _ _ x _ HC3.out hx0 (by omega)).mono ?_
  rintro e w4 ⟨l, s4, p, c, rfl, hl, hP, hO, hC, hG⟩
  have HG4 := Lib.hid (HG3.out.trans hG)
  have hw13 := HG3.out.size
  have hw14 := HG4.out.size
  have HBF : Hid (Below w.heap.size w w4) := Lib.hid (HB1.out.grown HG4.out HB1.out.size (fun q hq => by cases hq; exact Nat.le_refl _))
  have HRD := Lib.hid (Own.rd (W0 := w4) ⟨hO, Below.refl _ _, hG.size⟩)
  clear hO hC hG
  go_wp2
  refine bodyPost_ret (v := .tuple #[.slice p l.length c, .int .i64 (k2 - 1), .int .i64 (k3 - 1)]) (by simp [results, Tryd.results42, go_sem]) rfl ?_
  exact ⟨l, p, c, _, _, rfl, by omega, hP, HRD.out, HBF.out⟩
set_option maxRecDepth 1000000 in
set_option maxHeartbeats 6000000 in
theorem lawFnScan_walk (a : Option Addr) (len cap : Nat) (zs0 : List Int) (w : World) (hrow : IsRow .u8 w a len cap zs0) (hT : KTab w) : Calls Tryd.prog 12 #[.slice a len cap] w fun e w' => e = .returned (.bool true) ∧ Below w.heap.size w w' :=
  lawFnScan_core drawNext_any a len cap zs0 w hrow hT
end Go.Proofs.YtgoodpphinakaaaDoor
