/- The next entry of a directory: the program's, the reference's, the law. -/
import Derived.Test.YtgoodpphinakaaaDoorDirS
namespace Go.Proofs.YtgoodpphinakaaaDoor
open Go.RowKit

def pickF (l : List EntL) (p : EntL → Bool) : EntL × Bool := if dirB l = true then (match l.find? p with | some x => (x, true) | none => (zEnt, false)) else (zEnt, false)
theorem pickF_no (l : List EntL) (p : EntL → Bool) (h : dirB l = false) : pickF l p = (zEnt, false) := by unfold pickF; rw [if_neg (by rw [h]; decide)]
theorem find_none (l : List EntL) (p : EntL → Bool) (h : l.any p = false) : l.find? p = none := by
  rw [List.find?_eq_none]
  intro x hx
  rw [List.any_eq_false] at h
  exact h x hx
theorem pickF_none (l : List EntL) (p : EntL → Bool) (h : l.any p = false) : pickF l p = (zEnt, false) := by
  unfold pickF
  rw [find_none l p h]
  split <;> rfl
theorem pickF_hit (l : List EntL) (p : EntL → Bool) (hd : dirB l = true) (m : Nat) (hm : m < l.length) (h : (l.take m).any p = false) (e : p l[m] = true) : pickF l p = (l[m], true) := by
  unfold pickF
  rw [if_pos hd]
  have hL : ∀ L : List EntL, L = l.take m ++ l[m] :: l.drop (m + 1) → L.find? p = some l[m] := by
    intro L e1
    rw [e1, List.find?_append, find_none _ _ h, Option.none_or, List.find?_cons_of_pos e]
  rw [hL l (by rw [← List.drop_eq_getElem_cons hm, List.take_append_drop])]
theorem lessH_turn (h k x i : Int) : lessH h k x i = (!lessH x i h k && (x != h || i != k)) := by
  unfold lessH
  by_cases h1 : h < x
  · rw [decide_eq_true h1, decide_eq_false (show ¬ x < h by omega), decide_eq_false (show ¬ x = h by omega)]
    have : (x != h) = true := by simp; omega
    rw [this]; rfl
  · by_cases h2 : x < h
    · rw [decide_eq_false h1, decide_eq_true h2, decide_eq_false (show ¬ h = x by omega)]; rfl
    · have : x = h := by omega
      subst this
      by_cases h3 : k < i
      · have : (i != k) = true := by simp; omega
        simp [h3, this, show ¬ i < k by omega]
      · by_cases h4 : i < k
        · simp [h3, h4]
        · have : i = k := by omega
          subst this
          simp
def zW (w : World) (e : TypeId) : World := w.alloc (.cells #[.int .i64 0, .int .i64 0, .string ByteArray.empty, .int .i64 0] e)
theorem z_frozen (w : World) (e : TypeId) (j : Nat) : (w.alloc (.cells #[.int .i64 0, .int .i64 0, .string ByteArray.empty, .int .i64 0] e)).frozen? ⟨w.heap.size, j, none⟩ = false := by go_simp
theorem frozK {B : Nat} {w w' : World} {b j : Nat} (h : w.frozen? ⟨b, j, none⟩ = false) (hb : Below B w w') (hlt : b < B) : w'.frozen? ⟨b, j, none⟩ = false :=
  (hb.frozen (p := ⟨b, j, none⟩) hlt).trans h
theorem zero_kept {w w' : World} {e : TypeId} (hb : Below (w.alloc (.cells #[.int .i64 0, .int .i64 0, .string ByteArray.empty, .int .i64 0] e)).heap.size (w.alloc (.cells #[.int .i64 0, .int .i64 0, .string ByteArray.empty, .int .i64 0] e)) w') :
    (w'.cell? ⟨w.heap.size, 0, none⟩ = some (.int .i64 0) ∧ w'.cell? ⟨w.heap.size, 1, none⟩ = some (.int .i64 0) ∧ w'.cell? ⟨w.heap.size, 2, none⟩ = some (.string ByteArray.empty) ∧ w'.cell? ⟨w.heap.size, 3, none⟩ = some (.int .i64 0)) ∧ (w'.frozen? ⟨w.heap.size, 0, none⟩ = false ∧ w'.frozen? ⟨w.heap.size, 1, none⟩ = false ∧ w'.frozen? ⟨w.heap.size, 2, none⟩ = false ∧ w'.frozen? ⟨w.heap.size, 3, none⟩ = false) := by
  obtain ⟨c0, c1, c2, c3⟩ := box4 w e (.int .i64 0) (.int .i64 0) (.string ByteArray.empty) (.int .i64 0)
  exact ⟨⟨cellK c0 hb, cellK c1 hb, cellK c2 hb, cellK c3 hb⟩, frozK (z_frozen w e 0) hb (by simp), frozK (z_frozen w e 1) hb (by simp), frozK (z_frozen w e 2) hb (by simp), frozK (z_frozen w e 3) hb (by simp)⟩
theorem set4 {w w' : World} (h : Below w.heap.size w w') (u0 u1 u2 u3 : Value) : Below w.heap.size w ((((w'.setCell ⟨w.heap.size, 0, none⟩ u0).setCell ⟨w.heap.size, 1, none⟩ u1).setCell ⟨w.heap.size, 2, none⟩ u2).setCell ⟨w.heap.size, 3, none⟩ u3) :=
  (((h.setCell (Nat.le_refl _) _).setCell (Nat.le_refl _) _).setCell (Nat.le_refl _) _).setCell (Nat.le_refl _) _
def nextF (l : List EntL) (h k : Int) : EntL × Bool := pickF l (fun x => lessH h k x.hash x.index)
set_option maxRecDepth 1000000 in
set_option maxHeartbeats 6000000 in
theorem implNext_any (a : Option Addr) (n cap : Nat) (l : List EntL) (h k : Int) (w : World) (hr : Rd w a n cap 4 (ens l)) (hs : ∀ x ∈ l, x.name.size ≤ 1073741824) (hT : KTab w) :
    Calls Tryd.prog 38 #[.slice a n cap, .int .i64 h, .int .i64 k] w fun e w' => e = .returned (.tuple #[enV (nextF l h k).1, .bool (nextF l h k).2]) ∧ Below w.heap.size w w' := by
  have hl : l.length = n := by have := hr.len; simp at this; omega
  subst hl
  have hm : l.length ≤ maxLen := Nat.le_trans hr.le hr.max
  unfold maxLen at hm
  have H := Lib.hid hr
  have HT := Lib.hid hT
  have HSZ := Lib.hid hs
  clear hr hT hs
  go_enter Tryd.func38, Tryd.ntmps38
  go_wp2_with fail
  refine (implDirOk_any a _ cap l _ (H.out.alloc _) HSZ.out (HT.out.below (boxA w _) (Nat.le_refl _))).mono ?_
  rintro e w1 ⟨rfl, hb⟩
  have HB0 := Lib.hid hb
  have HB1 := Lib.hid (below_step1 (boxA w _) hb)
  clear hb
  cases hd : dirB l with
  | false =>
    have HE := Lib.hid (pickF_no l (fun x => lessH h k x.hash x.index) hd)
    obtain ⟨⟨c0, c1, c2, c3⟩, f0, f1, f2, f3⟩ := zero_kept HB0.out
    have hz : w.heap.size < w1.heap.size := World.block_lt_of_cell? w1 _ c0
    clear hd
    go_wp2
    refine bodyPost_ret (v := .tuple #[.agg #[.int .i64 0, .int .i64 0, .string ByteArray.empty, .int .i64 0], .bool false]) (by simp [results, Tryd.results38, go_sem, c0, c1, c2, c3] <;> rfl) rfl ?_
    exact ⟨by unfold nextF; rw [HE.out]; rfl, set4 HB1.out _ _ _ _⟩
  | true =>
    have HD := Lib.hid hd
    clear hd
    go_wp2
    go_loopg [16] l.length (fun gg i wr => ∃ m : Nat, m + gg = l.length ∧ i = .int .i64 (m : Int) ∧ Hid ((l.take m).any (fun x => lessH h k x.hash x.index) = false) ∧ Hid (Below w1.heap.size w1 wr))
    case atStart => exact ⟨0, by omega, rfl, Lib.hid rfl, Lib.hid (Below.refl _ _)⟩
    case round =>
      obtain ⟨m, hm2, rfl, HM, HB2⟩ := hrel
      have HBW := Lib.hid (below_step1 HB1.out HB2.out)
      have HBZ := Lib.hid (below_step1 HB0.out HB2.out)
      by_cases hlt : m < l.length
      · obtain ⟨b, off, rfl, hbs, d0, d1, d2, d3⟩ := ens_cells (H.out.below HBW.out (Nat.le_refl _)) m hlt
        have HH : Hid (lessH h k l[m].hash l[m].index = true → nextF l h k = (l[m], true)) := Lib.hid (fun e => pickF_hit l _ HD.out m hlt HM.out e)
        have HN : Hid (lessH h k l[m].hash l[m].index = false → (l.take (m + 1)).any (fun x => lessH h k x.hash x.index) = false) := Lib.hid (fun e => any_next l m hlt _ HM.out e)
        have hi : (m : Int) < (l.length : Int) := by omega
        generalize l[m] = x at *
        obtain ⟨xh, xi, xn, xd⟩ := x
        simp only at d0 d1 d2 d3
        clear hlt
        obtain ⟨b0, b1, b2, b3⟩ := box4 wr 46 (.int .i64 xh) (.int .i64 xi) (.string xn) (.int .i64 xd)
        have HBX := Lib.hid (boxA wr (.cells #[.int .i64 xh, .int .i64 xi, .string xn, .int .i64 xd] 46))
        have HBEH : Hid (∀ W, Calls Tryd.prog 70 #[.agg #[.int .i64 xh, .int .i64 xi, .string xn, .int .i64 xd], .int .i64 h, .int .i64 k] W fun e w' => e = .returned (.bool (lessH h k xh xi)) ∧ Below W.heap.size W w') := Lib.hid (fun W => isBehind_any ⟨xh, xi, xn, xd⟩ h k W)
        have HX := Lib.hid (And.intro b0 (And.intro b1 (And.intro b2 b3)))
        clear b0 b1 b2 b3
        try simp only at HH HN
        go_wp2_with fail
        refine (HBEH.out _).mono ?_
        rintro e w3 ⟨rfl, hb⟩
        obtain ⟨b0, b1, b2, b3⟩ := HX.out
        replace b0 := cellK b0 hb
        replace b1 := cellK b1 hb
        replace b2 := cellK b2 hb
        replace b3 := cellK b3 hb
        have HB3 := Lib.hid (below_step1 HB2.out (below_step1 HBX.out hb))
        have hz3 : wr.heap.size < w3.heap.size := World.block_lt_of_cell? w3 _ b0
        clear hb
        cases hq : lessH h k xh xi with
        | true =>
          have HE := Lib.hid (HH.out hq)
          have HB4 := Lib.hid (below_step1 HB1.out HB3.out)
          obtain ⟨⟨c0, c1, c2, c3⟩, f0, f1, f2, f3⟩ := zero_kept (below_step1 HB0.out HB3.out)
          have hz : w.heap.size < w3.heap.size := World.block_lt_of_cell? w3 _ c0
          have hzn : wr.heap.size ≠ w.heap.size := by have := World.block_lt_of_cell? wr _ (zero_kept HBZ.out).1.1; simp at this; omega
          clear hq d0 d1 d2 d3
          go_wp2
          refine bodyPost_ret (v := .tuple #[.agg #[.int .i64 xh, .int .i64 xi, .string xn, .int .i64 xd], .bool true]) (by simp [results, Tryd.results38, go_sem, c0, c1, c2, c3] <;> rfl) rfl ?_
          exact ⟨by rw [HE.out]; rfl, set4 HB4.out _ _ _ _⟩
        | false =>
          have HE := Lib.hid (HN.out hq)
          clear hq d0 d1 d2 d3
          go_wp2
          go_roundg (gk - 1)
          case measure => omega
          case rel => exact ⟨m + 1, by omega, by go_num, HE, HB3⟩
      · have hlm : m = l.length := by omega
        subst hlm
        rw [List.take_length] at HM
        have HE := Lib.hid (pickF_none l _ HM.out)
        obtain ⟨⟨c0, c1, c2, c3⟩, f0, f1, f2, f3⟩ := zero_kept HBZ.out
        have hz : w.heap.size < wr.heap.size := World.block_lt_of_cell? wr _ c0
        go_wp2
        refine bodyPost_ret (v := .tuple #[.agg #[.int .i64 0, .int .i64 0, .string ByteArray.empty, .int .i64 0], .bool false]) (by simp [results, Tryd.results38, go_sem, c0, c1, c2, c3] <;> rfl) rfl ?_
        exact ⟨by unfold nextF; rw [HE.out]; rfl, set4 HBW.out _ _ _ _⟩
set_option maxRecDepth 1000000 in
set_option maxHeartbeats 6000000 in
theorem specNext_any (a : Option Addr) (n cap : Nat) (l : List EntL) (h k : Int) (w : World) (hr : Rd w a n cap 4 (ens l)) (hs : ∀ x ∈ l, x.name.size ≤ 1073741824) :
    Calls Tryd.prog 37 #[.slice a n cap, .int .i64 h, .int .i64 k] w fun e w' => e = .returned (.tuple #[enV (nextF l h k).1, .bool (nextF l h k).2]) ∧ Below w.heap.size w w' := by
  have hl : l.length = n := by have := hr.len; simp at this; omega
  subst hl
  have hm : l.length ≤ maxLen := Nat.le_trans hr.le hr.max
  unfold maxLen at hm
  have H := Lib.hid hr
  have HSZ := Lib.hid hs
  clear hr hs
  go_enter Tryd.func37, Tryd.ntmps37
  go_wp2_with fail
  refine (specDirOk_any a _ cap l _ (H.out.alloc _) HSZ.out).mono ?_
  rintro e w1 ⟨rfl, hb⟩
  have HB0 := Lib.hid hb
  have HB1 := Lib.hid (below_step1 (boxA w _) hb)
  clear hb
  cases hd : dirB l with
  | false =>
    have HE := Lib.hid (pickF_no l (fun x => lessH h k x.hash x.index) hd)
    obtain ⟨⟨c0, c1, c2, c3⟩, f0, f1, f2, f3⟩ := zero_kept HB0.out
    have hz : w.heap.size < w1.heap.size := World.block_lt_of_cell? w1 _ c0
    clear hd
    go_wp2
    refine bodyPost_ret (v := .tuple #[.agg #[.int .i64 0, .int .i64 0, .string ByteArray.empty, .int .i64 0], .bool false]) (by simp [results, Tryd.results37, go_sem, c0, c1, c2, c3] <;> rfl) rfl ?_
    exact ⟨by unfold nextF; rw [HE.out]; rfl, set4 HB1.out _ _ _ _⟩
  | true =>
    have HD := Lib.hid hd
    clear hd
    go_wp2
    go_loopg [8] l.length (fun gg i wr => ∃ m : Nat, m + gg = l.length ∧ i = .int .i64 (m : Int) ∧ Hid ((l.take m).any (fun x => lessH h k x.hash x.index) = false) ∧ Hid (Below w1.heap.size w1 wr))
    case atStart => exact ⟨0, by omega, rfl, Lib.hid rfl, Lib.hid (Below.refl _ _)⟩
    case round =>
      obtain ⟨m, hm2, rfl, HM, HB2⟩ := hrel
      have HBW := Lib.hid (below_step1 HB1.out HB2.out)
      have HBZ := Lib.hid (below_step1 HB0.out HB2.out)
      by_cases hlt : m < l.length
      · obtain ⟨b, off, rfl, hbs, d0, d1, d2, d3⟩ := ens_cells (H.out.below HBW.out (Nat.le_refl _)) m hlt
        have HH : Hid (lessH h k l[m].hash l[m].index = true → nextF l h k = (l[m], true)) := Lib.hid (fun e => pickF_hit l _ HD.out m hlt HM.out e)
        have HN : Hid (lessH h k l[m].hash l[m].index = false → (l.take (m + 1)).any (fun x => lessH h k x.hash x.index) = false) := Lib.hid (fun e => any_next l m hlt _ HM.out e)
        have hi : (m : Int) < (l.length : Int) := by omega
        generalize l[m] = x at *
        obtain ⟨xh, xi, xn, xd⟩ := x
        simp only at d0 d1 d2 d3
        clear hlt
        have HLS : Hid (∀ W, Calls Tryd.prog 66 #[.agg #[.int .i64 xh, .int .i64 xi, .string xn, .int .i64 xd], .int .i64 h, .int .i64 k] W fun e w' => e = .returned (.bool (lessH xh xi h k)) ∧ Below W.heap.size W w') := Lib.hid (fun W => l5Less_any ⟨xh, xi, xn, xd⟩ h k W)
        have HTU := Lib.hid (lessH_turn h k xh xi)
        try simp only at HH HN
        go_wp2_with fail
        refine (HLS.out _).mono ?_
        rintro e w3 ⟨rfl, hb⟩
        have hi0 : (0 : Int) ≤ (m : Int) := by omega
        replace d0 := cellK d0 hb
        replace d1 := cellK d1 hb
        replace d2 := cellK d2 hb
        replace d3 := cellK d3 hb
        have HB3 := Lib.hid (below_step1 HB2.out hb)
        have HB4 := Lib.hid (below_step1 HB1.out HB3.out)
        have hbs3 : b < w3.heap.size := World.block_lt_of_cell? w3 _ d0
        clear hb hbs
        obtain ⟨⟨c0, c1, c2, c3⟩, f0, f1, f2, f3⟩ := zero_kept (below_step1 HB0.out HB3.out)
        have hz : w.heap.size < w3.heap.size := World.block_lt_of_cell? w3 _ c0
        cases hq : lessH xh xi h k with
        | true =>
          have HE := Lib.hid (HN.out (by rw [HTU.out, hq]; rfl))
          clear hq
          go_wp2
          go_roundg (gk - 1)
          case measure => omega
          case rel => exact ⟨m + 1, by omega, by go_num, HE, HB3⟩
        | false =>
          have HQ := Lib.hid hq
          clear hq
          by_cases hxh : xh = h
          · by_cases hxi : xi = k
            · have HE := Lib.hid (HN.out (by rw [HTU.out, HQ.out, hxh, hxi]; simp))
              subst hxh hxi
              go_wp2
              go_roundg (gk - 1)
              case measure => omega
              case rel => exact ⟨m + 1, by omega, by go_num, HE, HB3⟩
            · have HE := Lib.hid (HH.out (by rw [HTU.out, HQ.out, hxh]; simp [hxi]))
              subst hxh
              have hne : (xi != k) = true := by simp [hxi]
              have hne2 : (xi == k) = false := by simp [hxi]
              clear hxi
              go_wp2
              refine bodyPost_ret (v := .tuple #[.agg #[.int .i64 xh, .int .i64 xi, .string xn, .int .i64 xd], .bool true]) (by simp [results, Tryd.results37, go_sem, c0, c1, c2, c3] <;> rfl) rfl ?_
              exact ⟨by rw [HE.out]; rfl, set4 HB4.out _ _ _ _⟩
          · have HE := Lib.hid (HH.out (by rw [HTU.out, HQ.out]; simp [hxh]))
            have hne : (xh != h) = true := by simp [hxh]
            have hne2 : (xh == h) = false := by simp [hxh]
            clear hxh
            go_wp2
            refine bodyPost_ret (v := .tuple #[.agg #[.int .i64 xh, .int .i64 xi, .string xn, .int .i64 xd], .bool true]) (by simp [results, Tryd.results37, go_sem, c0, c1, c2, c3] <;> rfl) rfl ?_
            exact ⟨by rw [HE.out]; rfl, set4 HB4.out _ _ _ _⟩
      · have hlm : m = l.length := by omega
        subst hlm
        rw [List.take_length] at HM
        have HE := Lib.hid (pickF_none l _ HM.out)
        obtain ⟨⟨c0, c1, c2, c3⟩, f0, f1, f2, f3⟩ := zero_kept HBZ.out
        have hz : w.heap.size < wr.heap.size := World.block_lt_of_cell? wr _ c0
        go_wp2
        refine bodyPost_ret (v := .tuple #[.agg #[.int .i64 0, .int .i64 0, .string ByteArray.empty, .int .i64 0], .bool false]) (by simp [results, Tryd.results37, go_sem, c0, c1, c2, c3] <;> rfl) rfl ?_
        exact ⟨by unfold nextF; rw [HE.out]; rfl, set4 HBW.out _ _ _ _⟩
set_option maxRecDepth 1000000 in
set_option maxHeartbeats 6000000 in
theorem lawNext_walk (a : Option Addr) (n c : Nat) (l : List EntL) (h : Int) (_wh : (Lit.int .i64 h).wf = true) (k : Int) (_wk : (Lit.int .i64 k).wf = true) (w : World) (hs : ∀ s ∈ l, OkInt s.hash ∧ OkInt s.index ∧ s.name.size ≤ maxLen ∧ OkInt s.id) (hr : Rd w a n c 4 (ens l)) (hT : KTab w) :
    Calls Tryd.prog 10 #[.slice a n c, .int .i64 h, .int .i64 k] w fun e w' => e = .returned (.bool true) ∧ Below w.heap.size w w' := by
  have hl : l.length = n := by have := hr.len; simp at this; omega
  subst hl
  obtain ⟨R, hR⟩ : ∃ R, R = nextF l h k := ⟨_, rfl⟩
  obtain ⟨⟨xh, xi, xn, xd⟩, ok⟩ := R
  have HI : Hid (∀ p q W, Rd W p l.length q 4 (ens l) → (∀ x ∈ l, x.name.size ≤ 1073741824) → KTab W → Calls Tryd.prog 38 #[.slice p l.length q, .int .i64 h, .int .i64 k] W fun e w' => e = .returned (.tuple #[.agg #[.int .i64 xh, .int .i64 xi, .string xn, .int .i64 xd], .bool ok]) ∧ Below W.heap.size W w') := Lib.hid (fun p q W hh hn hk => by have := implNext_any p l.length q l h k W hh hn hk; rw [← hR] at this; exact this)
  have HS : Hid (∀ p q W, Rd W p l.length q 4 (ens l) → (∀ x ∈ l, x.name.size ≤ 1073741824) → Calls Tryd.prog 37 #[.slice p l.length q, .int .i64 h, .int .i64 k] W fun e w' => e = .returned (.tuple #[.agg #[.int .i64 xh, .int .i64 xi, .string xn, .int .i64 xd], .bool ok]) ∧ Below W.heap.size W w') := Lib.hid (fun p q W hh hn => by have := specNext_any p l.length q l h k W hh hn; rw [← hR] at this; exact this)
  have HEQ : Hid (∀ W, Calls Tryd.prog 39 #[.agg #[.int .i64 xh, .int .i64 xi, .string xn, .int .i64 xd], .agg #[.int .i64 xh, .int .i64 xi, .string xn, .int .i64 xd]] W fun e w' => e = .returned (.bool true) ∧ Below W.heap.size W w') := Lib.hid (fun W => eqEnt_yes ⟨xh, xi, xn, xd⟩ W)
  clear hR _wh _wk
  have H1 := Lib.hid hr
  have HT := Lib.hid hT
  have HSZ := Lib.hid (fun s hh => (hs s hh).2.2.1)
  clear hr hs hT
  go_enter Tryd.func10, Tryd.ntmps10
  go_wp2_with fail
  refine (szEnts_any _ _ _ l 1048576 _ H1.out HSZ.out (by omega) (by omega)).mono ?_
  rintro e w1 ⟨x, rfl, hx, hxl, hok, hb⟩
  replace H1 := Lib.hid (H1.out.below hb (Nat.le_refl _))
  have HC := Lib.hid hb
  clear hb
  by_cases hx0 : x < 0
  · clear hok
    go_wp2
    go_ret
    exact ⟨rfl, HC.out⟩
  · obtain ⟨hn, hnm⟩ := hok (by omega)
    have hn : l.length ≤ 1048576 := by omega
    have HNM : Hid (∀ x ∈ l, x.name.size ≤ 1073741824) := Lib.hid (fun x hx => by have := hnm x hx; omega)
    clear hok hnm
    go_wp2_with fail
    refine (toEnts_any _ _ _ l _ H1.out hn).mono ?_
    rintro e w2 ⟨g1, q1, rfl, hO⟩
    have HV := Lib.hid hO.rd
    replace H1 := Lib.hid (H1.out.below hO.below (Nat.le_refl _))
    replace HC := Lib.hid (below_step1 HC.out hO.below)
    clear hO
    go_wp2_with fail
    refine (HS.out _ _ _ HV.out HNM.out).mono ?_
    rintro e w3 ⟨rfl, hb⟩
    replace H1 := Lib.hid (H1.out.below hb (Nat.le_refl _))
    replace HC := Lib.hid (below_step1 HC.out hb)
    clear hb HV
    go_wp2_with fail
    obtain ⟨c0, c1, c2, c3⟩ := box4 w3 46 (.int .i64 xh) (.int .i64 xi) (.string xn) (.int .i64 xd)
    replace H1 := Lib.hid (H1.out.alloc (.cells #[.int .i64 xh, .int .i64 xi, .string xn, .int .i64 xd] 46))
    replace HC := Lib.hid (below_step1 HC.out (boxA w3 (.cells #[.int .i64 xh, .int .i64 xi, .string xn, .int .i64 xd] 46)))
    refine (toEnts_any _ _ _ l _ H1.out hn).mono ?_
    rintro e w4 ⟨g2, q2, rfl, hO⟩
    have HV := Lib.hid hO.rd
    replace H1 := Lib.hid (H1.out.below hO.below (Nat.le_refl _))
    replace HC := Lib.hid (below_step1 HC.out hO.below)
    replace c0 := cellK c0 hO.below
    replace c1 := cellK c1 hO.below
    replace c2 := cellK c2 hO.below
    replace c3 := cellK c3 hO.below
    clear hO
    go_wp2_with fail
    refine (HI.out _ _ _ HV.out HNM.out (HT.out.below HC.out (Nat.le_refl _))).mono ?_
    rintro e w5 ⟨rfl, hb⟩
    replace H1 := Lib.hid (H1.out.below hb (Nat.le_refl _))
    replace HV := Lib.hid (HV.out.below hb (Nat.le_refl _))
    replace HC := Lib.hid (below_step1 HC.out hb)
    replace c0 := cellK c0 hb
    replace c1 := cellK c1 hb
    replace c2 := cellK c2 hb
    replace c3 := cellK c3 hb
    have hz5 : w3.heap.size < w5.heap.size := World.block_lt_of_cell? w5 _ c0
    clear hb
    go_wp2_with fail
    obtain ⟨k0, k1, k2, k3⟩ := box4 w5 46 (.int .i64 xh) (.int .i64 xi) (.string xn) (.int .i64 xd)
    have HBX := Lib.hid (boxA w5 (.cells #[.int .i64 xh, .int .i64 xi, .string xn, .int .i64 xd] 46))
    replace H1 := Lib.hid (H1.out.below HBX.out (Nat.le_refl _))
    replace HV := Lib.hid (HV.out.below HBX.out (Nat.le_refl _))
    replace HC := Lib.hid (below_step1 HC.out HBX.out)
    refine (HEQ.out _).mono ?_
    rintro e w6 ⟨rfl, hb⟩
    replace H1 := Lib.hid (H1.out.below hb (Nat.le_refl _))
    replace HV := Lib.hid (HV.out.below hb (Nat.le_refl _))
    replace HC := Lib.hid (below_step1 HC.out hb)
    clear hb c0 c1 c2 c3 k0 k1 k2 k3
    have hne : (ok != ok) = false := by simp
    have hne2 : (ok == ok) = true := by simp
    go_wp2_with fail
    refine (toEnts_any _ _ _ l _ H1.out hn).mono ?_
    rintro e w7 ⟨g3, q3, rfl, hO⟩
    have HZ := Lib.hid hO.rd
    replace HV := Lib.hid (HV.out.below hO.below (Nat.le_refl _))
    replace HC := Lib.hid (below_step1 HC.out hO.below)
    clear hO
    go_wp2_with fail
    refine (eqEnts_yes _ _ _ _ _ _ l _ HV.out HZ.out (by omega)).mono ?_
    rintro e w8 ⟨rfl, hb⟩
    replace HC := Lib.hid (below_step1 HC.out hb)
    clear hb
    go_wp2
    go_ret
    exact ⟨rfl, HC.out⟩
end Go.Proofs.YtgoodpphinakaaaDoor
