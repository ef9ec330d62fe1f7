/- The text of a record of the journal, plain: how it is made; how it is read, by the program's way and by the reference's. -/
import Derived.Test.YtbokgbbdjcpgbaaNumF
import Derived.Test.YtbokgbbdjcpgbaaCrcF
import Derived.Test.YtbokgbbdjcpgbaaVar
import Derived.Test.YtbokgbbdjcpgbaaFixed2
namespace Go.Proofs.Ytbokgbbdjcpgbaa
open Go.RowKit

theorem ba_append (a b : List UInt8) : (⟨a.toArray⟩ : ByteArray) ++ ⟨b.toArray⟩ = ⟨(a ++ b).toArray⟩ := by
  apply ByteArray.ext
  simp [ByteArray.data_append]
theorem ba_data (l : List UInt8) : (⟨l.toArray⟩ : ByteArray).data.toList = l := rfl
theorem ba_self (s : ByteArray) : (⟨s.data.toList.toArray⟩ : ByteArray) = s := by
  rcases s with ⟨d⟩
  show (⟨d.toList.toArray⟩ : ByteArray) = ⟨d⟩
  rw [Array.toArray_toList]
theorem ba_size (l : List UInt8) : (⟨l.toArray⟩ : ByteArray).size = l.length := List.size_toArray
theorem data_len (s : ByteArray) : s.data.toList.length = s.size := Array.length_toList

abbrev OutL := List (Int × ByteArray)
def outB (x : Int × ByteArray) : Bool := decide (0 ≤ x.1 ∧ x.1 ≤ 16 ∧ x.2.size ≤ 400)
/-- Is the k-th of them right: what it is, and that it rises. -/
def okAt (l : OutL) (k : Nat) : Bool := outB (l.getD k (0, ByteArray.empty)) && (k == 0 || decide ((l.getD (k - 1) (0, ByteArray.empty)).1 < (l.getD k (0, ByteArray.empty)).1))
def upTo (l : OutL) (k : Nat) : Bool := (List.range k).all (okAt l)
theorem upTo_zero (l : OutL) : upTo l 0 = true := rfl
theorem upTo_succ (l : OutL) (k : Nat) : upTo l (k + 1) = (upTo l k && okAt l k) := by simp [upTo, List.range_succ]
theorem upTo_no (l : OutL) (k n : Nat) (h : k < n) (hk : okAt l k = false) : upTo l n = false := by
  rw [upTo, List.all_eq_false]
  exact ⟨k, List.mem_range.2 h, by simp [hk]⟩
def txnB (seq : Int) (l : OutL) : Bool := decide (1 ≤ seq ∧ seq ≤ 1000000) && decide (1 ≤ l.length ∧ l.length ≤ 17) && upTo l l.length
def pieceL (s : ByteArray) : List UInt8 := varV s.size ++ s.data.toList
def outL (x : Int × ByteArray) : List UInt8 := varV x.1 ++ pieceL x.2
def bodyL (seq : Int) (l : OutL) : List UInt8 := 116 :: (varV seq ++ (varV l.length ++ l.flatMap outL))
def showL (seq : Int) (l : OutL) : List UInt8 := if txnB seq l = true ∧ (bodyL seq l).length + 4 ≤ 4000 then fixedL (crcF (bodyL seq l)) 4 ++ bodyL seq l else []

theorem upTo_at (l : OutL) (k n : Nat) (h : upTo l n = true) (hk : k < n) : okAt l k = true := by
  rw [upTo, List.all_eq_true] at h
  exact h k (List.mem_range.2 hk)
theorem upTo_out (l : OutL) (h : upTo l l.length = true) : ∀ x ∈ l, 0 ≤ x.1 ∧ x.1 ≤ 16 ∧ x.2.size ≤ 400 := by
  intro x hx
  obtain ⟨k, hk, rfl⟩ := List.getElem_of_mem hx
  have := upTo_at l k _ h hk
  simp only [okAt, Bool.and_eq_true, outB, List.getD, List.getElem?_eq_getElem hk, Option.getD_some] at this
  exact of_decide_eq_true this.1

/- Reading, one behind the other. -/
def numO : Option (List UInt8) → Int × Option (List UInt8)
  | none => (0, none)
  | some r => if (rdVar r).2 = 0 then (0, none) else (((rdVar r).1 : Int), some (r.drop (rdVar r).2))
def cutO (n : Int) : Option (List UInt8) → List UInt8 × Option (List UInt8)
  | none => ([], none)
  | some r => if 0 ≤ n ∧ n ≤ r.length then (r.take n.toNat, some (r.drop n.toNat)) else ([], none)
def pieceO (o : Option (List UInt8)) : List UInt8 × Option (List UInt8) := cutO (numO o).1 (numO o).2
def manyO (most : Int) (o : Option (List UInt8)) : Int × Option (List UInt8) := if most < (numO o).1 then (0, none) else numO o
def stO (o : Option (List UInt8)) : Nat → OutL × Option (List UInt8)
  | 0 => ([], o)
  | k + 1 => ((stO o k).1 ++ [((numO (stO o k).2).1, ⟨(pieceO (numO (stO o k).2).2).1.toArray⟩)], (pieceO (numO (stO o k).2).2).2)
theorem stO_len (o : Option (List UInt8)) (k : Nat) : (stO o k).1.length = k := by
  induction k with
  | zero => rfl
  | succ k ih => simp [stO, ih]
def readO (s : List UInt8) : Int × OutL × Option (List UInt8) :=
  let a := numO (cutO 5 (some s)).2
  let b := manyO 17 a.2
  let p := stO b.2 b.1.toNat
  (a.1, p.1, p.2)

theorem numO_var (n : Nat) (h : n ≤ 562949953421311) (r : List UInt8) : numO (some (varV n ++ r)) = ((n : Int), some r) := by
  rw [varV_yes n h]
  have e := rdVar_varL n h r
  have h0 : (varL n).length ≠ 0 := fun c => varL_ne n (List.eq_nil_of_length_eq_zero c)
  unfold numO
  simp only [e]
  rw [if_neg h0]
  simp
theorem pieceO_piece (s : ByteArray) (h : s.size ≤ 562949953421311) (r : List UInt8) : pieceO (some (pieceL s ++ r)) = (s.data.toList, some r) := by
  unfold pieceO pieceL
  rw [List.append_assoc, numO_var s.size h]
  have hl := data_len s
  unfold cutO
  simp only
  rw [if_pos ⟨by omega, by rw [List.length_append]; omega⟩]
  have e : ((s.size : Nat) : Int).toNat = s.data.toList.length := by omega
  rw [e]
  simp
theorem stO_outs (r : List UInt8) : ∀ (l : OutL), (∀ x ∈ l, 0 ≤ x.1 ∧ x.1 ≤ 16 ∧ x.2.size ≤ 400) → ∀ k, k ≤ l.length → stO (some (l.flatMap outL ++ r)) k = (l.take k, some ((l.drop k).flatMap outL ++ r)) := by
  intro l hl k
  induction k with
  | zero => intro _; simp [stO]
  | succ k ih =>
    intro hk
    have hk' : k < l.length := by omega
    have hx := hl l[k] (List.getElem_mem hk')
    obtain ⟨q, hq⟩ := Int.eq_ofNat_of_zero_le hx.1
    rw [stO, ih (by omega)]
    have e : (l.drop k).flatMap outL ++ r = varV q ++ (pieceL l[k].2 ++ ((l.drop (k + 1)).flatMap outL ++ r)) := by
      rw [List.drop_eq_getElem_cons hk', List.flatMap_cons, outL, hq]
      simp [List.append_assoc]
    simp only
    rw [e, numO_var q (by omega)]
    simp only
    rw [pieceO_piece _ (by omega)]
    simp only [Prod.mk.injEq, and_true]
    rw [List.take_succ_eq_append_getElem hk']
    congr 2
    rw [← hq]

/-- What is read of a text that is shown. -/
theorem fixed4 (l : List UInt8) : (fixedL (crcF l) 4).length = 4 := by
  have h := crcF_range l
  unfold fixedL
  rw [if_pos ⟨by omega, by omega, h.1, (by
    have e : (256 : Nat) ^ (4 : Int).toNat = 4294967296 := by decide
    omega)⟩]
  exact lowBE_length _ _
theorem txnB_iff (seq : Int) (l : OutL) : txnB seq l = true ↔ (1 ≤ seq ∧ seq ≤ 1000000) ∧ (1 ≤ l.length ∧ l.length ≤ 17) ∧ upTo l l.length = true := by
  simp only [txnB, Bool.and_eq_true, decide_eq_true_eq, and_assoc]
theorem readO_show (seq : Int) (l : OutL) (h : showL seq l ≠ []) : readO (showL seq l) = (seq, l, some []) := by
  unfold showL at h ⊢
  by_cases c : txnB seq l = true ∧ (bodyL seq l).length + 4 ≤ 4000
  · rw [if_pos c] at h ⊢
    obtain ⟨h1, h2, h3⟩ := (txnB_iff _ _).1 c.1
    obtain ⟨q, rfl⟩ := Int.eq_ofNat_of_zero_le (show 0 ≤ seq by omega)
    have hO := upTo_out l h3
    have e1 : cutO 5 (some (fixedL (crcF (bodyL q l)) 4 ++ bodyL q l)) = (fixedL (crcF (bodyL q l)) 4 ++ [116], some (varV q ++ (varV l.length ++ l.flatMap outL))) := by
      have h4 := fixed4 (bodyL q l)
      generalize fixedL (crcF (bodyL q l)) 4 = f at *
      unfold cutO bodyL
      simp only
      rw [if_pos ⟨by omega, by simp [h4]; omega⟩]
      have e : ((5 : Int)).toNat = f.length + 1 := by rw [h4]; rfl
      rw [e]
      simp [List.take_append, List.drop_append, List.take_of_length_le, List.drop_of_length_le]
    unfold readO manyO
    simp only [e1]
    rw [numO_var q (by omega)]
    simp only
    rw [numO_var l.length (by omega)]
    simp only
    rw [if_neg (by omega)]
    have := stO_outs [] l hO l.length (Nat.le_refl _)
    simp only [List.append_nil] at this
    simp only [Int.toNat_natCast]
    rw [this]
    simp
  · rw [if_neg c] at h
    exact absurd rfl h
/-- A text is read, or not. -/
def readT (s : List UInt8) : Option (Int × OutL) := if s ≠ [] ∧ showL (readO s).1 (readO s).2.1 = s then some ((readO s).1, (readO s).2.1) else none
theorem readT_show (seq : Int) (l : OutL) (h : showL seq l ≠ []) : readT (showL seq l) = some (seq, l) := by
  unfold readT
  rw [readO_show seq l h]
  simp [h]
theorem readT_iff (s : List UInt8) (x : Int × OutL) : readT s = some x ↔ s ≠ [] ∧ showL x.1 x.2 = s := by
  constructor
  · intro h
    unfold readT at h
    split at h
    · rename_i c
      cases h
      exact c
    · cases h
  · rintro ⟨h, rfl⟩
    rw [readT_show _ _ h]
/-- Where what is read is not bad. -/
theorem readT_some (s : List UInt8) (x : Int × OutL) (h : readT s = some x) : readO s = (x.1, x.2, some []) := by
  obtain ⟨h1, h2⟩ := (readT_iff s x).1 h
  rw [← h2] at h1 ⊢
  exact readO_show _ _ h1
theorem readT_hit (s : List UInt8) (x : Int × OutL) (h0 : s ≠ []) (h : showL x.1 x.2 = s) : readT s = some x := (readT_iff s x).2 ⟨h0, h⟩
/-- .. and where it is bad, or shows as another text, nothing is read. -/
theorem readT_bad (s : List UInt8) (h : (readO s).2.2 = none) : readT s = none := by
  cases e : readT s with
  | none => rfl
  | some x => rw [readT_some s x e] at h; cases h
theorem readT_nil : readT [] = none := by unfold readT; simp
theorem readT_ne (s : List UInt8) (h : showL (readO s).1 (readO s).2.1 ≠ s) : readT s = none := by
  unfold readT
  rw [if_neg (fun c => h c.2)]
end Go.Proofs.Ytbokgbbdjcpgbaa
