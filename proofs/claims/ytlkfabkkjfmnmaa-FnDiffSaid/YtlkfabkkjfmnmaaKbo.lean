import Derived.Test.YtlkfabkkjfmnmaaKaa
import Derived.Test.YtlkfabkkjfmnmaaKab
import Derived.Test.YtlkfabkkjfmnmaaKaj
import Derived.Test.YtlkfabkkjfmnmaaKam
import Derived.Test.YtlkfabkkjfmnmaaKbn
namespace Go.Proofs.Ytlkfabkkjfmnmaa
open Go.RowKit
set_option linter.all false
theorem cell_block {w w' : World} {b j : Nat} {v : Value} (h : w.cell? ⟨b, j, none⟩ = some v) (hb : w'.heap[b]? = w.heap[b]?) : w'.cell? ⟨b, j, none⟩ = some v :=
 (World.cell?_of_block (a := ⟨b, j, none⟩) hb).trans h
theorem ba_append (a b : List UInt8) : (⟨a.toArray⟩ : ByteArray) ++ ⟨b.toArray⟩ = ⟨(a ++ b).toArray⟩ := by
 apply ByteArray.ext
 simp [ByteArray.data_append]
theorem ba_self (s : ByteArray) : (⟨s.data.toList.toArray⟩ : ByteArray) = s := by
 rcases s with ⟨d⟩
 show (⟨d.toList.toArray⟩ : ByteArray) = ⟨d⟩
 rw [Array.toArray_toList]
theorem ba_size (l : List UInt8) : (⟨l.toArray⟩ : ByteArray).size = l.length := List.size_toArray
theorem data_len (s : ByteArray) : s.data.toList.length = s.size := Array.length_toList
def pieceL (s : ByteArray) : List UInt8 := varV s.size ++ s.data.toList
def pieceB (s : ByteArray) : ByteArray := ⟨(pieceL s).toArray⟩
theorem ba_append_s (a : List UInt8) (s : ByteArray) : (⟨a.toArray⟩ : ByteArray) ++ s = ⟨(a ++ s.data.toList).toArray⟩ := by
 have := ba_append a s.data.toList
 rwa [ba_self] at this
theorem pieceB_eq (s : ByteArray) : (⟨(varV (s.size : Int)).toArray⟩ : ByteArray) ++ s = pieceB s := ba_append_s _ _
set_option maxRecDepth 1000000 in
set_option maxHeartbeats 6000000 in
theorem l7Piece_any (s : ByteArray) (hs : s.size ≤ 1073741824) (w : World) : Calls Try.prog 23 #[.string s] w fun e w' => e = .returned (.string (pieceB s)) ∧ Below w.heap.size w w' := by
 have HP := Lib.hid (pieceB_eq s)
 have hv := varV_len s.size
 have hsum : (varV (s.size : Int)).length + s.size ≤ 9223372036854775807 := by omega
 go_enter Try.func23, Try.ntmps23
 go_wp2_with fail
 refine (specVar_any _ _).mono ?_
 rintro e w1 ⟨rfl, hb⟩
 have HB := Lib.hid hb
 clear hb
 go_wp2
 go_ret
 exact ⟨ret_str HP.out, HB.out⟩
def scO (rest : ByteArray) (bad : Bool) : Option (List UInt8) := if bad = true then none else some rest.data.toList
structure ScanAt (w : World) (b : Nat) (o : Option (List UInt8)) (m : Nat) : Prop where
 ex : ∃ rest bad, w.cell? ⟨b, 0, none⟩ = some (.string rest) ∧ w.cell? ⟨b, 1, none⟩ = some (.bool bad) ∧ (w.frozen? ⟨b, 0, none⟩ = false ∧ w.frozen? ⟨b, 1, none⟩ = false) ∧ rest.size ≤ m ∧ o = scO rest bad
theorem ScanAt.kept {w w' : World} {b m : Nat} {o : Option (List UInt8)} (h : ScanAt w b o m) (hb : w'.heap[b]? = w.heap[b]?) : ScanAt w' b o m := by
 obtain ⟨r, bd, h1, h2, ⟨f1, f2⟩, h3, h4⟩ := h.ex
 exact ⟨r, bd, cell_block h1 hb, cell_block h2 hb, ⟨(World.frozen?_of_block (a := ⟨b, 0, none⟩) hb).trans f1, (World.frozen?_of_block (a := ⟨b, 1, none⟩) hb).trans f2⟩, h3, h4⟩
theorem ScanAt.lt {w : World} {b m : Nat} {o : Option (List UInt8)} (h : ScanAt w b o m) : b < w.heap.size := by
 obtain ⟨r, bd, h1, _⟩ := h.ex
 exact World.block_lt_of_cell? w _ h1
theorem ScanAt.below {w w' : World} {b m : Nat} {o : Option (List UInt8)} (h : ScanAt w b o m) (hb : Below w.heap.size w w') : ScanAt w' b o m := h.kept (hb.block b h.lt)
end Go.Proofs.Ytlkfabkkjfmnmaa
