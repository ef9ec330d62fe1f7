/- The laws' own helpers on records of the journal: a size, a copy; are two alike; marks laid, and looked at again. -/
import Derived.Test.YtbokgbbdjcpgbaaTxn
import Derived.Test.YtbokgbbdjcpgbaaWrs
import Derived.Test.YtbokgbbdjcpgbaaDev
namespace Go.Proofs.Ytbokgbbdjcpgbaa
open Go.RowKit

/-- A record that reads as this number and these writes. -/
structure TxnRd (w : World) (v : Value) (seq : Int) (l : OutL) : Prop where
  ex : ∃ a c, v = txV seq a l.length c ∧ Rd w a l.length c 2 (wrs l)
theorem TxnRd.below {B : Nat} {w w' : World} {v : Value} {seq : Int} {l : OutL} (h : TxnRd w v seq l) (hb : Below B w w') (hB : w.heap.size ≤ B) : TxnRd w' v seq l := by
  obtain ⟨a, c, e, h1⟩ := h.ex
  exact ⟨a, c, e, h1.below hb hB⟩
structure TxnOwn (B : Nat) (w : World) (v : Value) (seq : Int) (l : OutL) : Prop where
  ex : ∃ a c, v = txV seq a l.length c ∧ Own 53 2 B w (.slice a l.length c) l.length (wrs l) w
theorem TxnOwn.rd {B : Nat} {w : World} {v : Value} {seq : Int} {l : OutL} (h : TxnOwn B w v seq l) : TxnRd w v seq l := by
  obtain ⟨a, c, e, h1⟩ := h.ex
  exact ⟨a, c, e, h1.rd⟩
theorem TxnOwn.stay {B : Nat} {w w' : World} {v : Value} {seq : Int} {l : OutL} (h : TxnOwn B w v seq l) (hb : Below w.heap.size w w') : TxnOwn B w' v seq l := by
  obtain ⟨a, c, e, h1⟩ := h.ex
  exact ⟨a, c, e, h1.stay hb⟩
theorem TxnOwn.low {B B' : Nat} {w : World} {v : Value} {seq : Int} {l : OutL} (h : TxnOwn B w v seq l) (hB : B' ≤ B) : TxnOwn B' w v seq l := by
  obtain ⟨a, c, e, h1⟩ := h.ex
  exact ⟨a, c, e, ⟨row_mono1 h1.row hB, Below.refl _ _, Nat.le_trans hB h1.base⟩⟩
set_option maxRecDepth 1000000 in
set_option maxHeartbeats 6000000 in
theorem toTxn_any (seq : Int) (a : Option Addr) (n c : Nat) (l : OutL) (w : World) (h : Rd w a n c 2 (wrs l)) (hn : n ≤ 1048576) :
    Calls Try.prog 54 #[txV seq a n c] w fun e w' => ∃ v, e = .returned v ∧ TxnOwn w.heap.size w' v seq l ∧ Below w.heap.size w w' := by
  have hl : l.length = n := by have := h.len; simp at this; omega
  subst hl
  have H := Lib.hid h
  clear h
  unfold txV
  go_enter Try.func54, Try.ntmps54
  go_wp2_with fail
  have HBW := Lib.hid ((((Below.refl w.heap.size w).alloc (Nat.le_refl _) (.cells #[.int .i64 seq, .slice a l.length c] 68)).alloc (by simp) (.cells #[.int .i64 0, .slice none 0 0] 72)).alloc (by simp; omega) (.cells #[.int .i64 seq, .slice none 0 0] 72))
  refine (toWrs_any _ _ _ l _ (H.out.below HBW.out (Nat.le_refl _)) hn).mono ?_
  rintro e w1 ⟨g1, c1, rfl, hS⟩
  have hb := hS.below
  obtain ⟨hc, hf⟩ := bcell hb
  have hz : w.heap.size + 2 < w1.heap.size := by have := hb.size; simp at this; omega
  have HS := Lib.hid hS
  have HB1 := Lib.hid (below_step1 HBW.out hb)
  have hg1 := hS.blk g1 rfl
  have h1b : w.heap.size + 2 < g1 := by have := hg1.1; simp at this; omega
  have O1 := hS.self
  have O1' : Own 53 2 w.heap.size w1 (.slice (some ⟨g1, 0, none⟩) l.length c1) l.length (wrs l) w1 := ⟨row_mono1 O1.row (by simp; omega), Below.refl _ _, by omega⟩
  have HO1 := Lib.hid O1'
  have hza : w.heap.size + 1 + 1 < w1.heap.size := by omega
  have hzb : w.heap.size + 1 < w1.heap.size := by omega
  have e10 : w1.cell? ⟨w.heap.size + 1, 0, none⟩ = some (.int .i64 0) := (hc _ _ (by first | (simp; done) | (simp; omega))).trans (by go_simp)
  have e11 : w1.cell? ⟨w.heap.size + 1, 1, none⟩ = some (.slice none 0 0) := (hc _ _ (by first | (simp; done) | (simp; omega))).trans (by go_simp)
  have e20 : w1.cell? ⟨w.heap.size + 1 + 1, 0, none⟩ = some (.int .i64 seq) := (hc _ _ (by simp)).trans (by go_simp)
  have e21 : w1.cell? ⟨w.heap.size + 1 + 1, 1, none⟩ = some (.slice none 0 0) := (hc _ _ (by simp)).trans (by go_simp)
  clear hb hS hg1 O1 O1'
  go_wp2
  refine bodyPost_ret (v := .agg #[.int .i64 seq, .slice (some ⟨g1, 0, none⟩) l.length c1]) (by simp [results, Try.results54, go_sem, e10, e11]) rfl ?_
  refine ⟨_, rfl, ⟨⟨_, _, rfl, ?_⟩⟩, ?_⟩
  · exact ((HO1.out.setFar _ _ _ (fun k hk => by cases hk; dsimp only; omega)).setFar _ _ _ (fun k hk => by cases hk; dsimp only; omega)).setFar _ _ _ (fun k hk => by cases hk; dsimp only; omega)
  · exact ((HB1.out.setCell (by dsimp only; omega) _).setCell (by dsimp only; omega) _).setCell (by dsimp only; omega) _
set_option maxRecDepth 1000000 in
set_option maxHeartbeats 6000000 in
theorem eqTxn_yes (v u : Value) (seq : Int) (l : OutL) (w : World) (h1 : TxnRd w v seq l) (h2 : TxnRd w u seq l) (hn : l.length ≤ 1073741824) :
    Calls Try.prog 56 #[v, u] w fun e w' => e = .returned (.bool true) ∧ Below w.heap.size w w' := by
  obtain ⟨a, c, rfl, ha⟩ := h1.ex
  obtain ⟨b, d, rfl, hb⟩ := h2.ex
  have HA := Lib.hid ha
  have HB := Lib.hid hb
  clear ha hb h1 h2
  unfold txV
  have HB1 := Lib.hid (((Below.refl w.heap.size w).alloc (Nat.le_refl _) (.cells #[.int .i64 seq, .slice a l.length c] 72)).alloc (by simp) (.cells #[.int .i64 seq, .slice b l.length d] 72))
  go_enter Try.func56, Try.ntmps56
  go_wp2_with fail
  refine (eqWrs_yes _ _ _ _ _ _ l _ (HA.out.below HB1.out (Nat.le_refl _)) (HB.out.below HB1.out (Nat.le_refl _)) hn).mono ?_
  rintro e w2 ⟨rfl, hb2⟩
  have HB2 := Lib.hid (below_step1 HB1.out hb2)
  clear hb2
  go_wp2
  go_ret
  exact ⟨rfl, HB2.out⟩
set_option maxRecDepth 1000000 in
set_option maxHeartbeats 6000000 in
theorem szTxn_any (seq : Int) (a : Option Addr) (n c : Nat) (l : OutL) (left : Int) (w : World) (h : Rd w a n c 2 (wrs l)) (hs : ∀ s ∈ l, s.2.size ≤ maxLen) (h0 : 0 ≤ left) (h1 : left ≤ 1048576) :
    Calls Try.prog 52 #[txV seq a n c, .int .i64 left] w fun e w' => ∃ x : Int, e = .returned (.int .i64 x) ∧ -1 ≤ x ∧ x ≤ left ∧ (0 ≤ x → (l.length : Int) ≤ left) ∧ Below w.heap.size w w' := by
  have H := Lib.hid h
  have HS := Lib.hid hs
  clear h hs
  unfold txV
  have HBX := Lib.hid (box_alloc w (.cells #[.int .i64 seq, .slice a n c] 68))
  go_enter Try.func52, Try.ntmps52
  go_wp2_with fail
  refine (szWrs_any _ _ _ l left _ (H.out.below HBX.out (Nat.le_refl _)) HS.out h0 h1).mono ?_
  rintro e w2 ⟨y, rfl, hy, hyl, hok, hb⟩
  have HB2 := Lib.hid (below_step1 HBX.out hb)
  clear hb
  by_cases hy0 : y < 0
  · clear hok
    go_wp2
    go_ret
    exact ⟨-1, rfl, by omega, by omega, fun h => by omega, HB2.out⟩
  · have hok3 := (hok (by omega)).1
    clear hok
    go_wp2
    go_ret
    exact ⟨y, rfl, by omega, by omega, fun h => by omega, HB2.out⟩
set_option maxRecDepth 1000000 in
set_option maxHeartbeats 6000000 in
theorem markTxn_any (B : Nat) (seq : Int) (a : Option Addr) (c : Nat) (l : OutL) (k : Nat) (w : World) (h : Own 53 2 B w (.slice a l.length c) l.length (wrs l) w) (hn : l.length ≤ 1048576) (hk0 : 0 < k) (hk1 : k ≤ 1048576) :
    Calls Try.prog 59 #[txV seq a l.length c, .int .i64 (k : Int)] w fun e' w' => e' = .returned (.int .i64 ((k + 2 * l.length : Nat) : Int)) ∧ Own 53 2 B w' (.slice a l.length c) l.length (wrs (mkw k l.length)) w' ∧ Below B w w' ∧ (∀ q, q < w.heap.size → (Value.slice a l.length c).ownBlock ≠ some q → w'.heap[q]? = w.heap[q]?) := by
  have H := Lib.hid (h.alloc (.cells #[.int .i64 seq, .slice a l.length c] 72)).self
  have hB := h.base
  have hblk := Lib.hid (h.row.lt)
  clear h
  unfold txV
  go_enter Try.func59, Try.ntmps59
  go_wp2_with fail
  refine (markWrs_any _ _ _ _ _ _ l k _ H.out (by omega) hk0 (by omega)).mono ?_
  rintro e w2 ⟨rfl, hO2, hG2⟩
  have HO := Lib.hid hO2.self
  have HG := Lib.hid hG2
  clear hO2 hG2
  go_wp2
  go_ret
  refine ⟨rfl, HO.out, ?_, ?_⟩
  · exact ((Below.refl B w).alloc hB _).grown HG.out (by simp; omega) (fun q hq => (hblk.out q hq).1)
  · intro q hq hne
    rw [HG.out.block q (by simp; omega) (fun e => hne e.symm)]
    exact heap_alloc_old w _ hq
set_option maxRecDepth 1000000 in
set_option maxHeartbeats 6000000 in
theorem heldTxn_yes (seq : Int) (a : Option Addr) (n c k : Nat) (w : World) (h : Rd w a n c 2 (wrs (mkw k n))) (hn : n ≤ 1048576) (hk0 : 0 < k) (hk1 : k ≤ 1048576) :
    Calls Try.prog 60 #[txV seq a n c, .int .i64 (k : Int)] w fun e' w' => e' = .returned (.int .i64 ((k + 2 * n : Nat) : Int)) ∧ Below w.heap.size w w' := by
  have H := Lib.hid h
  clear h
  unfold txV
  have HBX := Lib.hid (box_alloc w (.cells #[.int .i64 seq, .slice a n c] 72))
  go_enter Try.func60, Try.ntmps60
  go_wp2_with fail
  refine (heldWrs_yes _ _ _ k _ (H.out.below HBX.out (Nat.le_refl _)) (by omega) hk0 (by omega)).mono ?_
  rintro e w2 ⟨rfl, hb2⟩
  have HB2 := Lib.hid (below_step1 HBX.out hb2)
  clear hb2
  have hneg2 : ¬ ((k + 2 * n : Nat) : Int) < 0 := by omega
  go_wp2
  go_ret
  exact ⟨rfl, HB2.out⟩
end Go.Proofs.Ytbokgbbdjcpgbaa
