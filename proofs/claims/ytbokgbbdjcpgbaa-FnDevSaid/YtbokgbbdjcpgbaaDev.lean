/- The laws' own helpers on devices: a size, a copy; are two alike; marks laid, and looked at again. -/
import Derived.Test.YtbokgbbdjcpgbaaWrs
namespace Go.Proofs.Ytbokgbbdjcpgbaa
open Go.RowKit

def dvV (a : Option Addr) (n c : Nat) (b : Option Addr) (m d : Nat) : Value := .agg #[.slice a n c, .slice b m d]
/-- A device that reads as these blocks and writes. -/
structure DevRd (w : World) (v : Value) (ss : List ByteArray) (us : List (Int × ByteArray)) : Prop where
  ex : ∃ a c b d, v = dvV a ss.length c b us.length d ∧ Rd w a ss.length c 1 (strs ss) ∧ Rd w b us.length d 2 (wrs us)
theorem DevRd.below {B : Nat} {w w' : World} {v : Value} {ss : List ByteArray} {us : List (Int × ByteArray)} (h : DevRd w v ss us) (hb : Below B w w') (hB : w.heap.size ≤ B) : DevRd w' v ss us := by
  obtain ⟨a, c, b, d, e, h1, h2⟩ := h.ex
  exact ⟨a, c, b, d, e, h1.below hb hB, h2.below hb hB⟩
/-- A device that the call owns, from block B on. -/
structure DevOwn (B : Nat) (w : World) (v : Value) (ss : List ByteArray) (us : List (Int × ByteArray)) : Prop where
  ex : ∃ a c b d, v = dvV a ss.length c b us.length d ∧ Own 9 1 B w (.slice a ss.length c) ss.length (strs ss) w ∧ Own 53 2 B w (.slice b us.length d) us.length (wrs us) w ∧
    (∀ k, (Value.slice b us.length d).ownBlock = some k → (Value.slice a ss.length c).ownBlock ≠ some k)
theorem DevOwn.rd {B : Nat} {w : World} {v : Value} {ss : List ByteArray} {us : List (Int × ByteArray)} (h : DevOwn B w v ss us) : DevRd w v ss us := by
  obtain ⟨a, c, b, d, e, h1, h2, _⟩ := h.ex
  exact ⟨a, c, b, d, e, h1.rd, h2.rd⟩
theorem DevOwn.stay {B : Nat} {w w' : World} {v : Value} {ss : List ByteArray} {us : List (Int × ByteArray)} (h : DevOwn B w v ss us) (hb : Below w.heap.size w w') : DevOwn B w' v ss us := by
  obtain ⟨a, c, b, d, e, h1, h2, h3⟩ := h.ex
  exact ⟨a, c, b, d, e, h1.stay hb, h2.stay hb, h3⟩
theorem DevOwn.size {B : Nat} {w : World} {v : Value} {ss : List ByteArray} {us : List (Int × ByteArray)} (h : DevOwn B w v ss us) : B ≤ w.heap.size := by
  obtain ⟨a, c, b, d, e, h1, h2, h3⟩ := h.ex
  exact h1.base
theorem bcell {W w1 : World} (hb : Below W.heap.size W w1) : (∀ b o, b < W.heap.size → w1.cell? ⟨b, o, none⟩ = W.cell? ⟨b, o, none⟩) ∧ (∀ b o, b < W.heap.size → w1.frozen? ⟨b, o, none⟩ = W.frozen? ⟨b, o, none⟩) :=
  ⟨fun b o h => hb.cell (p := ⟨b, o, none⟩) h, fun b o h => hb.frozen (p := ⟨b, o, none⟩) h⟩
theorem row_mono1 {w : World} {B B' : Nat} {e : TypeId} {size : Nat} {v : Value} {n : Nat} {xs : List Value} (h : w.ownsRow B e size v n xs) (hB : B' ≤ B) : w.ownsRow B' e size v n xs := by
  refine ⟨h.1, ?_⟩
  rcases h.2 with hn | ⟨g, cap, cur, e1, hg, rest⟩
  · exact .inl hn
  · exact .inr ⟨g, cap, cur, e1, Nat.le_trans hB hg, rest⟩
/-- Two rows of different elements lie in different blocks. -/
theorem own_apart {w : World} {B B' e e' : Nat} {W0 W0' : World} {size size' n n' : Nat} {v v' : Value} {xs xs' : List Value} (h : Own e size B W0 v n xs w) (h' : Own e' size' B' W0' v' n' xs' w) (hne : e ≠ e') : ∀ k, v'.ownBlock = some k → v.ownBlock ≠ some k := by
  intro k hk hk'
  rcases h.row.2 with ⟨rfl, _⟩ | ⟨g, cap, cur, rfl, _, hg, _⟩
  · cases hk'
  · rcases h'.row.2 with ⟨rfl, _⟩ | ⟨g', cap', cur', rfl, _, hg', _⟩
    · cases hk
    · cases hk; cases hk'
      rw [hg] at hg'
      simp only [Option.some.injEq, Obj.cells.injEq] at hg'
      exact hne hg'.2.1

theorem setCell_grownD (w : World) (g j : Nat) (u : Value) : w.grownBy (w.setCell ⟨g, j, none⟩ u) (some g) :=
  ⟨rfl, rfl, rfl, by simp [World.setCell], fun k _ hk => heap_setCell_other w ⟨g, j, none⟩ k u (fun e => hk (by simp [e]))⟩
/-- What is owned stays where another block is written. -/
theorem Own.setFar {e : TypeId} {size B : Nat} {W0 w : World} {v : Value} {n : Nat} {xs : List Value} (h : Own e size B W0 v n xs w) (b j : Nat) (u : Value) (hne : ∀ k, v.ownBlock = some k → k ≠ b) : Own e size B (w.setCell ⟨b, j, none⟩ u) v n xs (w.setCell ⟨b, j, none⟩ u) :=
  h.otherLow (setCell_grownD w b j u) (fun k hk e => hne k hk (by simpa using e.symm))
set_option maxRecDepth 1000000 in
set_option maxHeartbeats 6000000 in
theorem toDev_any (a : Option Addr) (n c : Nat) (b : Option Addr) (m d : Nat) (ss : List ByteArray) (us : List (Int × ByteArray)) (w : World) (h1 : Rd w a n c 1 (strs ss)) (h2 : Rd w b m d 2 (wrs us)) (hn : n ≤ 1048576) (hm : m ≤ 1048576) :
    Calls Try.prog 26 #[dvV a n c b m d] w fun e w' => ∃ v, e = .returned v ∧ DevOwn w.heap.size w' v ss us ∧ Below w.heap.size w w' := by
  have hl1 : ss.length = n := by have := h1.len; simpa using this
  have hl2 : us.length = m := by have := h2.len; simp at this; omega
  subst hl1 hl2
  have H1 := Lib.hid h1
  have H2 := Lib.hid h2
  clear h1 h2
  unfold dvV
  go_enter Try.func26, Try.ntmps26
  go_wp2_with fail
  refine (toStrs_any _ _ _ ss _ (((H1.out.alloc _).alloc _).alloc _) hn).mono ?_
  rintro e w1 ⟨g1, c1, rfl, hS⟩
  have hb := hS.below
  obtain ⟨hc, hf⟩ := bcell hb
  have hz : w.heap.size + 2 < w1.heap.size := by have := hb.size; simp at this; omega
  have HS := Lib.hid hS
  have HB1 : Hid (Below w.heap.size w w1) := Lib.hid (((((Below.refl w.heap.size w).alloc (Nat.le_refl _) _).alloc (by simp) _).alloc (by simp; omega) _).trans (hb.mono (by simp; omega)))
  clear hb hS
  go_wp2_with fail
  have HS2 := Lib.hid (HB1.out.setCell (p := ⟨w.heap.size + 1 + 1, 0, none⟩) (by show w.heap.size ≤ w.heap.size + 1 + 1; omega) (.slice (some ⟨g1, 0, none⟩) ss.length c1))
  refine (toWrs_any _ _ _ us _ (H2.out.below HS2.out (Nat.le_refl _)) hm).mono ?_
  rintro e w2 ⟨g2, c2, rfl, hS⟩
  have hb := hS.below
  obtain ⟨hc2, hf2⟩ := bcell hb
  have hz2 : w.heap.size + 2 < w2.heap.size := by have := hb.size; simp at this; omega
  have hg1 := HS.out.blk g1 rfl
  have hg2 := hS.blk g2 rfl
  have h1b : w.heap.size + 2 < g1 := by have := hg1.1; simp at this; omega
  have h2b : w1.heap.size ≤ g2 := by have := hg2.1; simpa using this
  have h1c : g1 < w1.heap.size := hg1.2
  have O1 := ((HS.out.setFar (w.heap.size + 1 + 1) 0 (.slice (some ⟨g1, 0, none⟩) ss.length c1) (fun k hk => by cases hk; show g1 ≠ w.heap.size + 1 + 1; omega)).stay hb)
  have O2 := hS.self
  have O1' : Own 9 1 w.heap.size w2 (.slice (some ⟨g1, 0, none⟩) ss.length c1) ss.length (strs ss) w2 := ⟨row_mono1 O1.row (((((Below.refl w.heap.size w).alloc (Nat.le_refl _) _).alloc (by simp) _).alloc (by simp; omega) _).size), Below.refl _ _, by omega⟩
  have O2' : Own 53 2 w.heap.size w2 (.slice (some ⟨g2, 0, none⟩) us.length c2) us.length (wrs us) w2 := ⟨row_mono1 O2.row HS2.out.size, Below.refl _ _, by omega⟩
  have HO1 := Lib.hid O1'
  have HO2 := Lib.hid O2'
  have HBB := Lib.hid (HS2.out.trans (hb.mono HS2.out.size))
  have hne12 : g1 ≠ g2 := by have := hg1.2; omega
  have hza : w.heap.size + 1 + 1 < w1.heap.size := by omega
  have hzb : w.heap.size + 1 < w1.heap.size := by omega
  have hzc : w.heap.size < w1.heap.size := by omega
  clear hb hS hg1 hg2 O1 O2 O1' O2'
  have e10 : w2.cell? ⟨w.heap.size + 1, 0, none⟩ = some (.slice none 0 0) := (hc2 _ _ (by simp; omega)).trans (by go_simp)
  have e11 : w2.cell? ⟨w.heap.size + 1, 1, none⟩ = some (.slice none 0 0) := (hc2 _ _ (by simp; omega)).trans (by go_simp)
  have e20 : w2.cell? ⟨w.heap.size + 1 + 1, 0, none⟩ = some (.slice (some ⟨g1, 0, none⟩) ss.length c1) := (hc2 _ _ (by simp; omega)).trans (by go_simp)
  have e21 : w2.cell? ⟨w.heap.size + 1 + 1, 1, none⟩ = some (.slice none 0 0) := (hc2 _ _ (by simp; omega)).trans (by go_simp)
  go_wp2
  refine bodyPost_ret (v := .agg #[.slice (some ⟨g1, 0, none⟩) ss.length c1, .slice (some ⟨g2, 0, none⟩) us.length c2]) (by simp [results, Try.results26, go_sem, e10, e11]) rfl ?_
  refine ⟨_, rfl, ⟨⟨_, _, _, _, rfl, ?_, ?_, fun k hk => ?_⟩⟩, ?_⟩
  · exact ((HO1.out.setFar _ _ _ (fun k hk => by cases hk; dsimp only; omega)).setFar _ _ _ (fun k hk => by cases hk; dsimp only; omega)).setFar _ _ _ (fun k hk => by cases hk; dsimp only; omega)
  · exact ((HO2.out.setFar _ _ _ (fun k hk => by cases hk; dsimp only; omega)).setFar _ _ _ (fun k hk => by cases hk; dsimp only; omega)).setFar _ _ _ (fun k hk => by cases hk; dsimp only; omega)
  · cases hk
    simp only [Value.ownBlock, ne_eq, Option.some.injEq]
    exact hne12
  · exact ((HBB.out.setCell (by dsimp only; omega) _).setCell (by dsimp only; omega) _).setCell (by dsimp only; omega) _

set_option maxRecDepth 1000000 in
set_option maxHeartbeats 6000000 in
theorem eqDev_yes (v u : Value) (ss : List ByteArray) (us : List (Int × ByteArray)) (w : World) (h1 : DevRd w v ss us) (h2 : DevRd w u ss us) (hn : ss.length ≤ 1073741824) (hm : us.length ≤ 1073741824) :
    Calls Try.prog 21 #[v, u] w fun e w' => e = .returned (.bool true) ∧ Below w.heap.size w w' := by
  obtain ⟨a, c, b, d, rfl, ha, hb⟩ := h1.ex
  obtain ⟨a', c', b', d', rfl, ha', hb'⟩ := h2.ex
  have HA := Lib.hid ha
  have HB := Lib.hid hb
  have HA' := Lib.hid ha'
  have HB' := Lib.hid hb'
  clear ha hb ha' hb' h1 h2
  unfold dvV
  go_enter Try.func21, Try.ntmps21
  go_wp2_with fail
  refine (eqStrs_yes _ _ _ _ _ _ ss _ ((HA.out.alloc _).alloc _) ((HA'.out.alloc _).alloc _) hn).mono ?_
  rintro e w1 ⟨rfl, hb1⟩
  obtain ⟨hc, hf⟩ := bcell hb1
  have hz : w.heap.size + 1 < w1.heap.size := by have := hb1.size; simp at this; omega
  have HB1 : Hid (Below w.heap.size w w1) := Lib.hid ((((Below.refl w.heap.size w).alloc (Nat.le_refl _) _).alloc (by simp) _).trans (hb1.mono (by simp; omega)))
  clear hb1
  go_wp2_with fail
  refine (eqWrs_yes _ _ _ _ _ _ us _ (HB.out.below HB1.out (Nat.le_refl _)) (HB'.out.below HB1.out (Nat.le_refl _)) hm).mono ?_
  rintro e w2 ⟨rfl, hb2⟩
  have HB2 := Lib.hid (below_step1 HB1.out hb2)
  clear hb2 hc hf
  go_wp2
  go_ret
  exact ⟨rfl, HB2.out⟩

set_option maxRecDepth 1000000 in
set_option maxHeartbeats 6000000 in
theorem markDev_any (B : Nat) (v : Value) (ss : List ByteArray) (us : List (Int × ByteArray)) (k : Nat) (w : World) (h : DevOwn B w v ss us) (hn : ss.length ≤ 1048576) (hm : us.length ≤ 1048576) (hk0 : 0 < k) (hk1 : k ≤ 1048576) :
    Calls Try.prog 22 #[v, .int .i64 (k : Int)] w fun e' w' => e' = .returned (.int .i64 ((k + ss.length + 2 * us.length : Nat) : Int)) ∧ DevOwn B w' v (mks k ss.length) (mkw (k + ss.length) us.length) ∧ Below B w w' ∧ (∀ q, q < w.heap.size → (∀ a c b d, v = dvV a ss.length c b us.length d → (Value.slice a ss.length c).ownBlock ≠ some q ∧ (Value.slice b us.length d).ownBlock ≠ some q) → w'.heap[q]? = w.heap[q]?) := by
  obtain ⟨a, c, b, d, rfl, h1, h2, h3⟩ := h.ex
  have H1 := Lib.hid (h1.alloc (.cells #[.slice a ss.length c, .slice b us.length d] 32)).self
  have H2 := Lib.hid (h2.alloc (.cells #[.slice a ss.length c, .slice b us.length d] 32)).self
  have H3 := Lib.hid h3
  have hB := h1.base
  have hblk1 := Lib.hid (h1.row.lt)
  have hblk2 := Lib.hid (h2.row.lt)
  clear h1 h2 h3 h
  unfold dvV
  go_enter Try.func22, Try.ntmps22
  go_wp2_with fail
  refine (markStrs_any _ _ _ _ _ _ ss k _ H1.out (by omega) hk0 (by omega)).mono ?_
  rintro e w1 ⟨rfl, hO1, hG1⟩
  have hcell : w1.cell? ⟨w.heap.size, 1, none⟩ = some (.slice b us.length d) := by
    rw [World.cell?_of_block (a := ⟨w.heap.size, 1, none⟩) (hG1.block w.heap.size (by simp) (fun e => by have := (hblk1.out _ e.symm).2; omega))]
    go_simp
  have HO2 := Lib.hid (H2.out.otherLow hG1 H3.out)
  have HO1 := Lib.hid hO1.self
  have HG1 := Lib.hid hG1
  clear hO1 hG1
  go_wp2_with fail
  refine (markWrs_any _ _ _ _ _ _ us (k + ss.length) _ HO2.out (by omega) (by omega) (by omega)).mono ?_
  rintro e w2 ⟨rfl, hO2, hG2⟩
  have HO1b := Lib.hid (HO1.out.otherLow hG2 (fun q hq e => H3.out q e hq))
  have HO2b := Lib.hid hO2.self
  have HG2 := Lib.hid hG2
  clear hO2 hG2 hcell
  go_wp2
  go_ret
  refine ⟨rfl, ⟨⟨a, c, b, d, ?_, ?_, ?_, ?_⟩⟩, ?_, ?_⟩
  · simp [dvV]
  · rw [mks_length]; exact HO1b.out
  · rw [mkw_length]; exact HO2b.out
  · rw [mks_length, mkw_length]; exact H3.out
  · exact (((Below.refl B w).alloc hB _).grown HG1.out (by simp; omega) (fun q hq => (hblk1.out q hq).1)).grown HG2.out (by have := HG1.out.size; simp at this; omega) (fun q hq => (hblk2.out q hq).1)
  · intro q hq hne
    obtain ⟨hn1, hn2⟩ := hne a c b d rfl
    rw [HG2.out.block q (by have := HG1.out.size; simp at this; omega) (fun e => hn2 e.symm), HG1.out.block q (by simp; omega) (fun e => hn1 e.symm)]
    exact heap_alloc_old w _ hq
set_option maxRecDepth 1000000 in
set_option maxHeartbeats 6000000 in
theorem heldDev_yes (v : Value) (k n m : Nat) (w : World) (h : DevRd w v (mks k n) (mkw (k + n) m)) (hn : n ≤ 1048576) (hm : m ≤ 1048576) (hk0 : 0 < k) (hk1 : k ≤ 1048576) :
    Calls Try.prog 23 #[v, .int .i64 (k : Int)] w fun e' w' => e' = .returned (.int .i64 ((k + n + 2 * m : Nat) : Int)) ∧ Below w.heap.size w w' := by
  obtain ⟨a, c, b, d, rfl, h1, h2⟩ := h.ex
  rw [mks_length] at h1
  rw [mkw_length] at h2
  have H1 := Lib.hid h1
  have H2 := Lib.hid h2
  clear h1 h2 h
  unfold dvV
  rw [mks_length, mkw_length]
  go_enter Try.func23, Try.ntmps23
  go_wp2_with fail
  refine (heldStrs_yes _ _ _ k _ (H1.out.alloc _) (by omega) hk0 (by omega)).mono ?_
  rintro e w1 ⟨rfl, hb1⟩
  obtain ⟨hc, hf⟩ := bcell hb1
  have hz : w.heap.size < w1.heap.size := by have := hb1.size; simp at this; omega
  have HB1 : Hid (Below w.heap.size w w1) := Lib.hid (((Below.refl w.heap.size w).alloc (Nat.le_refl _) _).trans (hb1.mono (by simp)))
  clear hb1
  have hneg : ¬ ((k + n : Nat) : Int) < 0 := by omega
  go_wp2_with fail
  refine (heldWrs_yes _ _ _ (k + n) _ (H2.out.below HB1.out (Nat.le_refl _)) (by omega) (by omega) (by omega)).mono ?_
  rintro e w2 ⟨rfl, hb2⟩
  have HB2 := Lib.hid (below_step1 HB1.out hb2)
  clear hb2 hc hf
  have hneg2 : ¬ ((k + n + 2 * m : Nat) : Int) < 0 := by omega
  go_wp2
  go_ret
  exact ⟨rfl, HB2.out⟩
end Go.Proofs.Ytbokgbbdjcpgbaa
