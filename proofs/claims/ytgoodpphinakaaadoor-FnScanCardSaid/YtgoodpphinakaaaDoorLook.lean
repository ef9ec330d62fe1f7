/- An entry looked up by its name: the program's, the reference's, the law. (Printed by gen_look.py.) -/
import Derived.Test.YtgoodpphinakaaaDoorNext
namespace Go.Proofs.YtgoodpphinakaaaDoor
open Go.RowKit

theorem dir_names (l : List EntL) (h : dirB l = true) (x : EntL) (hx : x ∈ l) : nameB x.name = true := by
  obtain ⟨i, hi, e⟩ := List.mem_iff_getElem.1 hx
  unfold dirB at h
  simp only [Bool.and_eq_true] at h
  have h1 := entOk_row (dirUp_at l _ h.2 i hi)
  rw [getD_ent l i hi, e] at h1
  exact row_name h1
def hitB (key : ByteArray) (x : EntL) : Bool := (keyR x.name).toList == key.toList
theorem hit_alike (s : ByteArray) (hs : nameB s = true) (x : EntL) (hx : nameB x.name = true) : hitB (keyS s) x = alikeB x.name s := by
  unfold hitB alikeB keyR
  rw [hs, hx, if_pos rfl]
  rfl
theorem hits_alike (s : ByteArray) (hs : nameB s = true) (m : List EntL) (hx : ∀ x ∈ m, nameB x.name = true) : m.any (hitB (keyS s)) = m.any (fun x => alikeB x.name s) := by
  induction m with
  | nil => rfl
  | cons d m ih => rw [List.any_cons, List.any_cons, ih (fun x h => hx x (List.mem_cons_of_mem _ h)), hit_alike s hs d (hx d (List.mem_cons_self ..))]
def lookF (l : List EntL) (s : ByteArray) : EntL × Bool := pickF l (fun x => alikeB x.name s)
/-- The place of the first that a test takes, or -1. -/
def AtP (l : List EntL) (p : EntL → Bool) (r : Int) : Prop := (r = -1 ∧ l.any p = false) ∨ ∃ (m : Nat) (hm : m < l.length), r = (m : Int) ∧ (l.take m).any p = false ∧ p l[m] = true
theorem look_bad (l : List EntL) (s : ByteArray) (h : nameB s = false) : lookF l s = (zEnt, false) := by
  refine pickF_none l _ ?_
  rw [List.any_eq_false]
  intro x hx
  unfold alikeB
  rw [h]
  simp
theorem look_none (l : List EntL) (s : ByteArray) (hs : nameB s = true) (h : l.any (hitB (keyS s)) = false) : lookF l s = (zEnt, false) := by
  cases hd : dirB l with
  | false => exact pickF_no l _ hd
  | true => exact pickF_none l _ (by rw [← hits_alike s hs l (fun x hx => dir_names l hd x hx)]; exact h)
theorem look_hit (l : List EntL) (s : ByteArray) (hs : nameB s = true) (hd : dirB l = true) (m : Nat) (hm : m < l.length) (h : (l.take m).any (hitB (keyS s)) = false) (e : hitB (keyS s) l[m] = true) : lookF l s = (l[m], true) := by
  refine pickF_hit l _ hd m hm ?_ ?_
  · rw [← hits_alike s hs _ (fun x hx => dir_names l hd x (List.mem_of_mem_take hx))]; exact h
  · rw [← hit_alike s hs _ (dir_names l hd _ (List.getElem_mem hm))]; exact e
set_option maxRecDepth 1000000 in
set_option maxHeartbeats 6000000 in
theorem entAt1_any (x : EntL) (g : Nat) (key : ByteArray) (w : World) (hs : x.name.size ≤ 1073741824) (hT : KTab w) (hg : w.cell? ⟨g, 0, none⟩ = some (.string key)) :
    Calls Tryd.prog 95 #[enV x, .pointer (some ⟨g, 0, none⟩)] w fun e w' => e = .returned (.bool (hitB key x)) ∧ Below w.heap.size w w' := by
  have HH : Hid (hitB key x = ((keyR x.name).toList == key.toList)) := Lib.hid rfl
  obtain ⟨xh, xi, xn, xd⟩ := x
  unfold enV
  simp only at hs ⊢
  have HT := Lib.hid hT
  have HB := Lib.hid (boxA w (.cells #[.int .i64 xh, .int .i64 xi, .string xn, .int .i64 xd] 46))
  have HG := Lib.hid hg
  try simp only at HH
  clear hT hg
  go_enter Tryd.func95, Tryd.ntmps95
  go_wp2_with fail
  refine (implKeyOf_any xn _ hs (HT.out.below HB.out (Nat.le_refl _))).mono ?_
  rintro e w1 ⟨rfl, hb⟩
  have g1 := cellK (cellK HG.out HB.out) hb
  have HB1 := Lib.hid (below_step1 HB.out hb)
  clear hb
  generalize keyR xn = kx at *
  generalize nameB xn = bx at *
  go_wp2
  go_ret
  exact ⟨ret_bool HH.out.symm, HB1.out⟩
set_option maxRecDepth 1000000 in
set_option maxHeartbeats 6000000 in
theorem idxF_any (a : Option Addr) (n cap : Nat) (l : List EntL) (g : Nat) (key : ByteArray) (w : World) (hr : Rd w a n cap 4 (ens l)) (hs : ∀ x ∈ l, x.name.size ≤ 1073741824) (hT : KTab w) (hg : w.cell? ⟨g, 0, none⟩ = some (.string key)) :
    Calls Tryd.prog 94 #[.slice a n cap, .func (.func 95) #[] #[.pointer (some ⟨g, 0, none⟩)]] w fun e w' => ∃ r, e = .returned (.int .i64 r) ∧ AtP l (hitB key) r ∧ Below w.heap.size w w' := by
  have hl : l.length = n := by have := hr.len; simp at this; omega
  subst hl
  have hm : l.length ≤ maxLen := Nat.le_trans hr.le hr.max
  unfold maxLen at hm
  have H := Lib.hid hr
  have HSZ := Lib.hid hs
  clear hr hs
  have HT := Lib.hid hT
  have HG := Lib.hid hg
  clear hT hg
  go_enter Tryd.func94, Tryd.ntmps94
  go_wp2
  go_loopg [8] l.length (fun gg i wr => ∃ m : Nat, m + gg = l.length ∧ i = .int .i64 (m : Int) ∧ Hid ((l.take m).any (hitB key) = false) ∧ Hid (Below w.heap.size w wr))
  case atStart => exact ⟨0, by omega, rfl, Lib.hid rfl, Lib.hid (Below.refl _ _)⟩
  case round =>
    obtain ⟨m, hm2, rfl, HM, HB2⟩ := hrel
    by_cases hlt : m < l.length
    · obtain ⟨b, off, rfl, hbs, d0, d1, d2, d3⟩ := ens_cells (H.out.below HB2.out (Nat.le_refl _)) m hlt
      have HH : Hid (hitB key l[m] = true → AtP l (hitB key) (m : Int)) := Lib.hid (fun e => .inr ⟨m, hlt, rfl, HM.out, e⟩)
      have HN : Hid (hitB key l[m] = false → (l.take (m + 1)).any (hitB key) = false) := Lib.hid (fun e => any_next l m hlt _ HM.out e)
      have HSX := Lib.hid (HSZ.out l[m] (List.getElem_mem hlt))
      have hi : (m : Int) < (l.length : Int) := by omega
      have hi0 : (0 : Int) ≤ (m : Int) := by omega
      have HCL : Hid (∀ W, Below w.heap.size w W → Calls Tryd.prog 95 #[.agg #[.int .i64 l[m].hash, .int .i64 l[m].index, .string l[m].name, .int .i64 l[m].id], .pointer (some ⟨g, 0, none⟩)] W fun e w' => e = .returned (.bool (hitB key l[m])) ∧ Below W.heap.size W w') := Lib.hid (fun W hW => entAt1_any l[m] g key W HSX.out (HT.out.below hW (Nat.le_refl _)) (cellK HG.out hW))
      generalize l[m] = x at *
      obtain ⟨xh, xi, xn, xd⟩ := x
      try simp only at d0 d1 d2 d3 HCL
      clear hlt
      generalize hitB key ⟨xh, xi, xn, xd⟩ = q at *
      cases q with
      | true =>
        have HE := Lib.hid (HH.out rfl)
        go_wp2_with (go_at_call 95; refine (HCL.out _ HB2.out).mono ?_; rintro e w3 ⟨rfl, hb⟩; have HB3 := Lib.hid (below_step1 HB2.out hb); clear hb)
        go_ret
        exact ⟨_, rfl, HE.out, HB3.out⟩
      | false =>
        have HE := Lib.hid (HN.out rfl)
        go_wp2_with (go_at_call 95; refine (HCL.out _ HB2.out).mono ?_; rintro e w3 ⟨rfl, hb⟩; have HB3 := Lib.hid (below_step1 HB2.out hb); clear hb)
        go_roundg (gk - 1)
        case measure => omega
        case rel => exact ⟨m + 1, by omega, by go_num, HE, HB3⟩
    · have hlm : m = l.length := by omega
      subst hlm
      rw [List.take_length] at HM
      go_wp2
      go_ret
      exact ⟨-1, rfl, .inl ⟨rfl, HM.out⟩, HB2.out⟩
/-- What entAt says of a place. -/
def EntAt (l : List EntL) (s : ByteArray) (r : Int) : Prop := (r = -1 ∧ lookF l s = (zEnt, false)) ∨ ∃ (m : Nat) (hm : m < l.length), r = (m : Int) ∧ (dirB l = true → lookF l s = (l[m], true))
set_option maxRecDepth 1000000 in
set_option maxHeartbeats 6000000 in
theorem entAt_any (a : Option Addr) (n cap : Nat) (l : List EntL) (s : ByteArray) (w : World) (hr : Rd w a n cap 4 (ens l)) (hs : ∀ x ∈ l, x.name.size ≤ 1073741824) (hss : s.size ≤ 1073741824) (hT : KTab w) :
    Calls Tryd.prog 72 #[.slice a n cap, .string s] w fun e w' => ∃ r, e = .returned (.int .i64 r) ∧ EntAt l s r ∧ Below w.heap.size w w' := by
  have hl : l.length = n := by have := hr.len; simp at this; omega
  subst hl
  have hm : l.length ≤ maxLen := Nat.le_trans hr.le hr.max
  unfold maxLen at hm
  have H := Lib.hid hr
  have HSZ := Lib.hid hs
  clear hr hs
  have HT := Lib.hid hT
  clear hT
  go_enter Tryd.func72, Tryd.ntmps72
  go_wp2_with fail
  refine (implKeyOf_any s _ hss HT.out).mono ?_
  rintro e w1 ⟨rfl, hb⟩
  have HB1 := Lib.hid hb
  clear hb
  have HKR : Hid (nameB s = true → keyR s = keyS s) := Lib.hid (fun h => by unfold keyR; rw [if_pos h])
  have HBD : Hid (nameB s = false → lookF l s = (zEnt, false)) := Lib.hid (look_bad l s)
  have HEA : Hid (nameB s = true → ∀ r, AtP l (hitB (keyR s)) r → EntAt l s r) := Lib.hid (fun h r hr => by
    have e : keyR s = keyS s := by unfold keyR; rw [if_pos h]
    rw [e] at hr
    rcases hr with ⟨rfl, h0⟩ | ⟨m, hm, rfl, h0, h1⟩
    · exact .inl ⟨rfl, look_none l s h h0⟩
    · exact .inr ⟨m, hm, rfl, fun hd => look_hit l s h hd m hm h0 h1⟩)
  generalize nameB s = bs at *
  generalize keyR s = key at *
  cases bs with
  | false =>
    have HE := Lib.hid (HBD.out rfl)
    go_wp2
    go_ret
    exact ⟨-1, rfl, .inl ⟨rfl, HE.out⟩, HB1.out.alloc (Nat.le_trans HB1.out.size (Nat.le_refl _)) _⟩
  | true =>
    have HEA2 := Lib.hid (HEA.out rfl)
    have HBK := Lib.hid (boxA w1 (.cells #[.string key] 9))
    have HGK : Hid ((w1.alloc (.cells #[.string key] 9)).cell? ⟨w1.heap.size, 0, none⟩ = some (.string key)) := Lib.hid (by go_simp)
    go_wp2_with fail
    refine (idxF_any a _ cap l w1.heap.size key _ ((H.out.below HB1.out (Nat.le_refl _)).below HBK.out (Nat.le_refl _)) HSZ.out ((HT.out.below HB1.out (Nat.le_refl _)).below HBK.out (Nat.le_refl _)) HGK.out).mono ?_
    rintro e w2 ⟨r, rfl, hr, hb⟩
    have HE := Lib.hid (HEA2.out r hr)
    have HB2 := Lib.hid (below_step1 (below_step1 HB1.out HBK.out) hb)
    clear hr hb
    go_wp2
    go_ret
    exact ⟨r, rfl, HE.out, HB2.out⟩
set_option maxRecDepth 1000000 in
set_option maxHeartbeats 6000000 in
theorem l5At_any (a : Option Addr) (n cap : Nat) (l : List EntL) (s : ByteArray) (w : World) (hr : Rd w a n cap 4 (ens l)) (hs : ∀ x ∈ l, x.name.size ≤ 1073741824) (hss : s.size ≤ 1073741824) :
    Calls Tryd.prog 71 #[.slice a n cap, .string s] w fun e w' => ∃ r, e = .returned (.int .i64 r) ∧ AtP l (fun x => alikeB x.name s) r ∧ Below w.heap.size w w' := by
  have hl : l.length = n := by have := hr.len; simp at this; omega
  subst hl
  have hm : l.length ≤ maxLen := Nat.le_trans hr.le hr.max
  unfold maxLen at hm
  have H := Lib.hid hr
  have HSZ := Lib.hid hs
  clear hr hs
  go_enter Tryd.func71, Tryd.ntmps71
  go_wp2
  go_loopg [5] l.length (fun gg i wr => ∃ m : Nat, m + gg = l.length ∧ i = .int .i64 (m : Int) ∧ Hid ((l.take m).any (fun x => alikeB x.name s) = false) ∧ Hid (Below w.heap.size w wr))
  case atStart => exact ⟨0, by omega, rfl, Lib.hid rfl, Lib.hid (Below.refl _ _)⟩
  case round =>
    obtain ⟨m, hm2, rfl, HM, HB2⟩ := hrel
    by_cases hlt : m < l.length
    · obtain ⟨b, off, rfl, hbs, d0, d1, d2, d3⟩ := ens_cells (H.out.below HB2.out (Nat.le_refl _)) m hlt
      have HH : Hid (alikeB l[m].name s = true → AtP l (fun x => alikeB x.name s) (m : Int)) := Lib.hid (fun e => .inr ⟨m, hlt, rfl, HM.out, e⟩)
      have HN : Hid (alikeB l[m].name s = false → (l.take (m + 1)).any (fun x => alikeB x.name s) = false) := Lib.hid (fun e => any_next l m hlt _ HM.out e)
      have HSX := Lib.hid (HSZ.out l[m] (List.getElem_mem hlt))
      have hi : (m : Int) < (l.length : Int) := by omega
      have hi0 : (0 : Int) ≤ (m : Int) := by omega
      generalize l[m].name = t at *
      clear hlt d0 d1 d3
      have HAL : Hid (∀ W, Calls Tryd.prog 21 #[.string t, .string s] W fun e w' => e = .returned (.bool (alikeB t s)) ∧ Below W.heap.size W w') := Lib.hid (fun W => specAlike_any t s W HSX.out hss)
      generalize alikeB t s = q at *
      go_wp2_with fail
      refine (HAL.out _).mono ?_
      rintro e w3 ⟨rfl, hb⟩
      have HB3 := Lib.hid (below_step1 HB2.out hb)
      clear hb d2
      cases q with
      | true =>
        have HE := Lib.hid (HH.out rfl)
        go_wp2
        go_ret
        exact ⟨_, rfl, HE.out, HB3.out⟩
      | false =>
        have HE := Lib.hid (HN.out rfl)
        go_wp2
        go_roundg (gk - 1)
        case measure => omega
        case rel => exact ⟨m + 1, by omega, by go_num, HE, HB3⟩
    · have hlm : m = l.length := by omega
      subst hlm
      rw [List.take_length] at HM
      go_wp2
      go_ret
      exact ⟨-1, rfl, .inl ⟨rfl, HM.out⟩, HB2.out⟩
set_option maxRecDepth 1000000 in
set_option maxHeartbeats 6000000 in
theorem implLook_any (a : Option Addr) (n cap : Nat) (l : List EntL) (s : ByteArray) (w : World) (hr : Rd w a n cap 4 (ens l)) (hs : ∀ x ∈ l, x.name.size ≤ 1073741824) (hss : s.size ≤ 1073741824) (hT : KTab w) :
    Calls Tryd.prog 41 #[.slice a n cap, .string s] w fun e w' => e = .returned (.tuple #[enV (lookF l s).1, .bool (lookF l s).2]) ∧ Below w.heap.size w w' := by
  have hl : l.length = n := by have := hr.len; simp at this; omega
  subst hl
  have hm : l.length ≤ maxLen := Nat.le_trans hr.le hr.max
  unfold maxLen at hm
  have H := Lib.hid hr
  have HSZ := Lib.hid hs
  clear hr hs
  have HT := Lib.hid hT
  clear hT
  go_enter Tryd.func41, Tryd.ntmps41
  go_wp2_with fail
  refine (entAt_any a _ cap l s _ (H.out.alloc _) HSZ.out hss (HT.out.below (boxA w _) (Nat.le_refl _))).mono ?_
  rintro e w1 ⟨r, rfl, hE, hb⟩
  have HB0 := Lib.hid hb
  have HB1 := Lib.hid (below_step1 (boxA w _) hb)
  clear hb
  rcases hE with ⟨rfl, hE⟩ | ⟨m, hlt, rfl, hE⟩
  · have HE := Lib.hid hE
    clear hE
    obtain ⟨⟨c0, c1, c2, c3⟩, f0, f1, f2, f3⟩ := zero_kept HB0.out
    have hz : w.heap.size < w1.heap.size := World.block_lt_of_cell? w1 _ c0
    go_wp2
    refine bodyPost_ret (v := .tuple #[.agg #[.int .i64 0, .int .i64 0, .string ByteArray.empty, .int .i64 0], .bool false]) (by simp [results, Tryd.results41, go_sem, c0, c1, c2, c3] <;> rfl) rfl ?_
    exact ⟨by rw [HE.out]; rfl, set4 HB1.out _ _ _ _⟩
  · have HE0 := Lib.hid hE
    clear hE
    have hi1 : ¬ ((m : Int) < 0) := by omega
    go_wp2_with fail
    refine (implDirOk_any a _ cap l _ (H.out.below HB1.out (Nat.le_refl _)) HSZ.out (HT.out.below HB1.out (Nat.le_refl _))).mono ?_
    rintro e w2 ⟨rfl, hb⟩
    have HB02 := Lib.hid (below_step1 HB0.out hb)
    have HB2 := Lib.hid (below_step1 HB1.out hb)
    clear hb
    cases hd : dirB l with
    | false =>
      have HE : Hid (lookF l s = (zEnt, false)) := Lib.hid (pickF_no l _ hd)
      clear hd
      obtain ⟨⟨c0, c1, c2, c3⟩, f0, f1, f2, f3⟩ := zero_kept HB02.out
      have hz : w.heap.size < w2.heap.size := World.block_lt_of_cell? w2 _ c0
      go_wp2
      refine bodyPost_ret (v := .tuple #[.agg #[.int .i64 0, .int .i64 0, .string ByteArray.empty, .int .i64 0], .bool false]) (by simp [results, Tryd.results41, go_sem, c0, c1, c2, c3] <;> rfl) rfl ?_
      exact ⟨by rw [HE.out]; rfl, set4 HB2.out _ _ _ _⟩
    | true =>
      have HE := Lib.hid (HE0.out hd)
      clear hd HE0
      obtain ⟨b, off, rfl, hbs, d0, d1, d2, d3⟩ := ens_cells (H.out.below HB2.out (Nat.le_refl _)) m hlt
      have hi : (m : Int) < (l.length : Int) := by omega
      have hi0 : (0 : Int) ≤ (m : Int) := by omega
      have hi1 : ¬ ((m : Int) < 0) := by omega
      generalize l[m] = x at *
      obtain ⟨xh, xi, xn, xd⟩ := x
      try simp only at d0 d1 d2 d3
      clear hlt
      obtain ⟨⟨c0, c1, c2, c3⟩, f0, f1, f2, f3⟩ := zero_kept HB02.out
      have hz : w.heap.size < w2.heap.size := World.block_lt_of_cell? w2 _ c0
      go_wp2
      refine bodyPost_ret (v := .tuple #[.agg #[.int .i64 xh, .int .i64 xi, .string xn, .int .i64 xd], .bool true]) (by simp [results, Tryd.results41, go_sem, c0, c1, c2, c3] <;> rfl) rfl ?_
      exact ⟨by rw [HE.out]; rfl, set4 HB2.out _ _ _ _⟩
set_option maxRecDepth 1000000 in
set_option maxHeartbeats 6000000 in
theorem specLook_any (a : Option Addr) (n cap : Nat) (l : List EntL) (s : ByteArray) (w : World) (hr : Rd w a n cap 4 (ens l)) (hs : ∀ x ∈ l, x.name.size ≤ 1073741824) (hss : s.size ≤ 1073741824) :
    Calls Tryd.prog 40 #[.slice a n cap, .string s] w fun e w' => e = .returned (.tuple #[enV (lookF l s).1, .bool (lookF l s).2]) ∧ Below w.heap.size w w' := by
  have hl : l.length = n := by have := hr.len; simp at this; omega
  subst hl
  have hm : l.length ≤ maxLen := Nat.le_trans hr.le hr.max
  unfold maxLen at hm
  have H := Lib.hid hr
  have HSZ := Lib.hid hs
  clear hr hs
  go_enter Tryd.func40, Tryd.ntmps40
  go_wp2_with fail
  refine (specDirOk_any a _ cap l _ (H.out.alloc _) HSZ.out).mono ?_
  rintro e w1 ⟨rfl, hb⟩
  have HB0 := Lib.hid hb
  have HB1 := Lib.hid (below_step1 (boxA w _) hb)
  clear hb
  cases hd : dirB l with
  | false =>
    have HE : Hid (lookF l s = (zEnt, false)) := Lib.hid (pickF_no l _ hd)
    clear hd
    obtain ⟨⟨c0, c1, c2, c3⟩, f0, f1, f2, f3⟩ := zero_kept HB0.out
    have hz : w.heap.size < w1.heap.size := World.block_lt_of_cell? w1 _ c0
    go_wp2
    refine bodyPost_ret (v := .tuple #[.agg #[.int .i64 0, .int .i64 0, .string ByteArray.empty, .int .i64 0], .bool false]) (by simp [results, Tryd.results40, go_sem, c0, c1, c2, c3] <;> rfl) rfl ?_
    exact ⟨by rw [HE.out]; rfl, set4 HB1.out _ _ _ _⟩
  | true =>
    have HD := Lib.hid hd
    clear hd
    go_wp2_with fail
    refine (l5At_any a _ cap l s _ (H.out.below HB1.out (Nat.le_refl _)) HSZ.out hss).mono ?_
    rintro e w2 ⟨r, rfl, hE, hb⟩
    have HB02 := Lib.hid (below_step1 HB0.out hb)
    have HB2 := Lib.hid (below_step1 HB1.out hb)
    clear hb
    rcases hE with ⟨rfl, hE⟩ | ⟨m, hlt, rfl, h0, h1⟩
    · have HE : Hid (lookF l s = (zEnt, false)) := Lib.hid (pickF_none l _ hE)
      clear hE
      obtain ⟨⟨c0, c1, c2, c3⟩, f0, f1, f2, f3⟩ := zero_kept HB02.out
      have hz : w.heap.size < w2.heap.size := World.block_lt_of_cell? w2 _ c0
      go_wp2
      refine bodyPost_ret (v := .tuple #[.agg #[.int .i64 0, .int .i64 0, .string ByteArray.empty, .int .i64 0], .bool false]) (by simp [results, Tryd.results40, go_sem, c0, c1, c2, c3] <;> rfl) rfl ?_
      exact ⟨by rw [HE.out]; rfl, set4 HB2.out _ _ _ _⟩
    · have HE : Hid (lookF l s = (l[m], true)) := Lib.hid (pickF_hit l _ HD.out m hlt h0 h1)
      clear h0 h1
      obtain ⟨b, off, rfl, hbs, d0, d1, d2, d3⟩ := ens_cells (H.out.below HB2.out (Nat.le_refl _)) m hlt
      have hi : (m : Int) < (l.length : Int) := by omega
      have hi0 : (0 : Int) ≤ (m : Int) := by omega
      have hi1 : ¬ ((m : Int) < 0) := by omega
      generalize l[m] = x at *
      obtain ⟨xh, xi, xn, xd⟩ := x
      try simp only at d0 d1 d2 d3
      clear hlt
      obtain ⟨⟨c0, c1, c2, c3⟩, f0, f1, f2, f3⟩ := zero_kept HB02.out
      have hz : w.heap.size < w2.heap.size := World.block_lt_of_cell? w2 _ c0
      go_wp2
      refine bodyPost_ret (v := .tuple #[.agg #[.int .i64 xh, .int .i64 xi, .string xn, .int .i64 xd], .bool true]) (by simp [results, Tryd.results40, go_sem, c0, c1, c2, c3] <;> rfl) rfl ?_
      exact ⟨by rw [HE.out]; rfl, set4 HB2.out _ _ _ _⟩
set_option maxRecDepth 1000000 in
set_option maxHeartbeats 6000000 in
theorem lawLook_walk (a : Option Addr) (n c : Nat) (l : List EntL) (s : ByteArray) (hz : s.size ≤ maxLen) (w : World) (hs : ∀ s ∈ l, OkInt s.hash ∧ OkInt s.index ∧ s.name.size ≤ maxLen ∧ OkInt s.id) (hr : Rd w a n c 4 (ens l)) (hT : KTab w) :
    Calls Tryd.prog 11 #[.slice a n c, .string s] w fun e w' => e = .returned (.bool true) ∧ Below w.heap.size w w' := by
  have hl : l.length = n := by have := hr.len; simp at this; omega
  subst hl
  unfold maxLen at hz
  by_cases hzs : (1048576 : Int) < (s.size : Int)
  · go_enter Tryd.func11, Tryd.ntmps11
    go_wp2
    go_ret
    exact ⟨rfl, Below.refl _ _⟩
  have HSS : Hid (s.size ≤ 1073741824) := Lib.hid (by omega)
  obtain ⟨R, hR⟩ : ∃ R, R = lookF l s := ⟨_, rfl⟩
  obtain ⟨⟨xh, xi, xn, xd⟩, ok⟩ := R
  have HI : Hid (∀ p q W, Rd W p l.length q 4 (ens l) → (∀ x ∈ l, x.name.size ≤ 1073741824) → KTab W → Calls Tryd.prog 41 #[.slice p l.length q, .string s] W fun e w' => e = .returned (.tuple #[.agg #[.int .i64 xh, .int .i64 xi, .string xn, .int .i64 xd], .bool ok]) ∧ Below W.heap.size W w') := Lib.hid (fun p q W hh hn hk => by have := implLook_any p l.length q l s W hh hn HSS.out hk; rw [← hR] at this; exact this)
  have HS : Hid (∀ p q W, Rd W p l.length q 4 (ens l) → (∀ x ∈ l, x.name.size ≤ 1073741824) → Calls Tryd.prog 40 #[.slice p l.length q, .string s] W fun e w' => e = .returned (.tuple #[.agg #[.int .i64 xh, .int .i64 xi, .string xn, .int .i64 xd], .bool ok]) ∧ Below W.heap.size W w') := Lib.hid (fun p q W hh hn => by have := specLook_any p l.length q l s W hh hn HSS.out; rw [← hR] at this; exact this)
  have HEQ : Hid (∀ W, Calls Tryd.prog 39 #[.agg #[.int .i64 xh, .int .i64 xi, .string xn, .int .i64 xd], .agg #[.int .i64 xh, .int .i64 xi, .string xn, .int .i64 xd]] W fun e w' => e = .returned (.bool true) ∧ Below W.heap.size W w') := Lib.hid (fun W => eqEnt_yes ⟨xh, xi, xn, xd⟩ W)
  clear hR
  have H1 := Lib.hid hr
  have HT := Lib.hid hT
  have HSZ := Lib.hid (fun s hh => (hs s hh).2.2.1)
  clear hr hs hT
  go_enter Tryd.func11, Tryd.ntmps11
  go_wp2_with fail
  refine (szEnts_any _ _ _ l 1048576 _ H1.out HSZ.out (by omega) (by omega)).mono ?_
  rintro e w1 ⟨x, rfl, hx, hxl, hok, hb⟩
  replace H1 := Lib.hid (H1.out.below hb (Nat.le_refl _))
  have HC := Lib.hid hb
  clear hb
  by_cases hx0 : x < 0
  · clear hok
    go_wp2
    go_ret
    exact ⟨rfl, HC.out⟩
  · obtain ⟨hn, hnm⟩ := hok (by omega)
    have hn : l.length ≤ 1048576 := by omega
    have HNM : Hid (∀ x ∈ l, x.name.size ≤ 1073741824) := Lib.hid (fun x hx => by have := hnm x hx; omega)
    clear hok hnm
    go_wp2_with fail
    refine (toEnts_any _ _ _ l _ H1.out hn).mono ?_
    rintro e w2 ⟨g1, q1, rfl, hO⟩
    have HV := Lib.hid hO.rd
    replace H1 := Lib.hid (H1.out.below hO.below (Nat.le_refl _))
    replace HC := Lib.hid (below_step1 HC.out hO.below)
    clear hO
    go_wp2_with fail
    refine (HS.out _ _ _ HV.out HNM.out).mono ?_
    rintro e w3 ⟨rfl, hb⟩
    replace H1 := Lib.hid (H1.out.below hb (Nat.le_refl _))
    replace HC := Lib.hid (below_step1 HC.out hb)
    clear hb HV
    go_wp2_with fail
    obtain ⟨c0, c1, c2, c3⟩ := box4 w3 46 (.int .i64 xh) (.int .i64 xi) (.string xn) (.int .i64 xd)
    replace H1 := Lib.hid (H1.out.alloc (.cells #[.int .i64 xh, .int .i64 xi, .string xn, .int .i64 xd] 46))
    replace HC := Lib.hid (below_step1 HC.out (boxA w3 (.cells #[.int .i64 xh, .int .i64 xi, .string xn, .int .i64 xd] 46)))
    refine (toEnts_any _ _ _ l _ H1.out hn).mono ?_
    rintro e w4 ⟨g2, q2, rfl, hO⟩
    have HV := Lib.hid hO.rd
    replace H1 := Lib.hid (H1.out.below hO.below (Nat.le_refl _))
    replace HC := Lib.hid (below_step1 HC.out hO.below)
    replace c0 := cellK c0 hO.below
    replace c1 := cellK c1 hO.below
    replace c2 := cellK c2 hO.below
    replace c3 := cellK c3 hO.below
    clear hO
    go_wp2_with fail
    refine (HI.out _ _ _ HV.out HNM.out (HT.out.below HC.out (Nat.le_refl _))).mono ?_
    rintro e w5 ⟨rfl, hb⟩
    replace H1 := Lib.hid (H1.out.below hb (Nat.le_refl _))
    replace HV := Lib.hid (HV.out.below hb (Nat.le_refl _))
    replace HC := Lib.hid (below_step1 HC.out hb)
    replace c0 := cellK c0 hb
    replace c1 := cellK c1 hb
    replace c2 := cellK c2 hb
    replace c3 := cellK c3 hb
    have hz5 : w3.heap.size < w5.heap.size := World.block_lt_of_cell? w5 _ c0
    clear hb
    go_wp2_with fail
    obtain ⟨k0, k1, k2, k3⟩ := box4 w5 46 (.int .i64 xh) (.int .i64 xi) (.string xn) (.int .i64 xd)
    have HBX := Lib.hid (boxA w5 (.cells #[.int .i64 xh, .int .i64 xi, .string xn, .int .i64 xd] 46))
    replace H1 := Lib.hid (H1.out.below HBX.out (Nat.le_refl _))
    replace HV := Lib.hid (HV.out.below HBX.out (Nat.le_refl _))
    replace HC := Lib.hid (below_step1 HC.out HBX.out)
    refine (HEQ.out _).mono ?_
    rintro e w6 ⟨rfl, hb⟩
    replace H1 := Lib.hid (H1.out.below hb (Nat.le_refl _))
    replace HV := Lib.hid (HV.out.below hb (Nat.le_refl _))
    replace HC := Lib.hid (below_step1 HC.out hb)
    clear hb c0 c1 c2 c3 k0 k1 k2 k3
    have hne : (ok != ok) = false := by simp
    have hne2 : (ok == ok) = true := by simp
    go_wp2_with fail
    refine (toEnts_any _ _ _ l _ H1.out hn).mono ?_
    rintro e w7 ⟨g3, q3, rfl, hO⟩
    have HZ := Lib.hid hO.rd
    replace HV := Lib.hid (HV.out.below hO.below (Nat.le_refl _))
    replace HC := Lib.hid (below_step1 HC.out hO.below)
    clear hO
    go_wp2_with fail
    refine (eqEnts_yes _ _ _ _ _ _ l _ HV.out HZ.out (by omega)).mono ?_
    rintro e w8 ⟨rfl, hb⟩
    replace HC := Lib.hid (below_step1 HC.out hb)
    clear hb
    go_wp2
    go_ret
    exact ⟨rfl, HC.out⟩
end Go.Proofs.YtgoodpphinakaaaDoor
