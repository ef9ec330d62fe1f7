/- The law of CallOk, walked. -/
import Derived.Test.YtbokgbbdjcpgbaaCall
namespace Go.Proofs.Ytbokgbbdjcpgbaa
open Go.RowKit

theorem rdcellC {W : World} {b n cap size : Nat} {xs : List Value} (h : Rd W (some ⟨b, 0, none⟩) n cap size xs) (h0 : 0 < n) (j : Nat) (hj : j < xs.length) : W.cell? ⟨b, j, none⟩ = some xs[j] := by
  obtain ⟨b', off, e, _, hc⟩ := h.at' h0
  cases e
  have := hc j hj
  rwa [Nat.zero_add] at this

set_option maxRecDepth 1000000 in
set_option maxHeartbeats 2000000 in
theorem lawCallOk_walk (k d t : Int) (nm s dt : ByteArray) (h1 : nm.size ≤ maxLen) (h2 : s.size ≤ maxLen) (h3 : dt.size ≤ maxLen) (w : World) :
    Calls Try.prog 3 #[callV k d nm t s dt] w fun e w' => e = .returned (.bool true) ∧ Below w.heap.size w w' := by
  have HS := Lib.hid (szCall_any k d t nm s dt h1 h2 h3)
  have HT := Lib.hid (toCall_any k d t nm s dt)
  have HI := Lib.hid (implCallOk_any k d t nm s dt h1 h2 h3)
  have HP := Lib.hid (specCallOk_any k d t nm s dt h1 h2 h3)
  clear h1 h2 h3
  have hbb : (callOkF k d nm t s dt != callOkF k d nm t s dt) = false := by simp
  generalize callOkF k d nm t s dt = b at *
  unfold callV at *
  go_enter Try.func3, Try.ntmps3
  go_wp2_with fail
  refine (HS.out _).mono ?_
  rintro e w1 ⟨⟨x, rfl⟩, hb1⟩
  have HB1 : Hid (Below w.heap.size w w1) := Lib.hid (((Below.refl _ _).alloc (Nat.le_refl _) _).trans (hb1.mono (by simp)))
  have hR1 := Lib.hid ((lit_rd (w0 := w) (e := 23) (size := 1) (m := 6) (news := #[.int .i64 k, .int .i64 d, .string nm, .int .i64 t, .string s, .string dt]) rfl (by decide)).below hb1 (Nat.le_refl _))
  clear hb1
  have ca0 : w1.cell? ⟨w.heap.size, 0, none⟩ = some (.int .i64 k) := rdcellC hR1.out (by omega) 0 (by simp)
  have ca1 : w1.cell? ⟨w.heap.size, 1, none⟩ = some (.int .i64 d) := rdcellC hR1.out (by omega) 1 (by simp)
  have ca2 : w1.cell? ⟨w.heap.size, 2, none⟩ = some (.string nm) := rdcellC hR1.out (by omega) 2 (by simp)
  have ca3 : w1.cell? ⟨w.heap.size, 3, none⟩ = some (.int .i64 t) := rdcellC hR1.out (by omega) 3 (by simp)
  have ca4 : w1.cell? ⟨w.heap.size, 4, none⟩ = some (.string s) := rdcellC hR1.out (by omega) 4 (by simp)
  have ca5 : w1.cell? ⟨w.heap.size, 5, none⟩ = some (.string dt) := rdcellC hR1.out (by omega) 5 (by simp)
  by_cases hx : x < 0
  · go_wp2
    go_ret
    exact ⟨rfl, HB1.out⟩
  · go_wp2_with fail
    refine (HT.out _).mono ?_
    rintro e w2 ⟨rfl, hb2⟩
    have hR2 := Lib.hid (hR1.out.below hb2 (Nat.le_refl _))
    have HB2 := Lib.hid (HB1.out.trans (hb2.mono HB1.out.size))
    clear hb2
    go_wp2_with fail
    refine (HP.out _).mono ?_
    rintro e w3 ⟨rfl, hb3⟩
    have hR3 := Lib.hid (hR2.out.below hb3 (Nat.le_refl _))
    have HB3 := Lib.hid (HB2.out.trans (hb3.mono HB2.out.size))
    clear hb3
    have cb0 : w3.cell? ⟨w.heap.size, 0, none⟩ = some (.int .i64 k) := rdcellC hR3.out (by omega) 0 (by simp)
    have cb1 : w3.cell? ⟨w.heap.size, 1, none⟩ = some (.int .i64 d) := rdcellC hR3.out (by omega) 1 (by simp)
    have cb2 : w3.cell? ⟨w.heap.size, 2, none⟩ = some (.string nm) := rdcellC hR3.out (by omega) 2 (by simp)
    have cb3 : w3.cell? ⟨w.heap.size, 3, none⟩ = some (.int .i64 t) := rdcellC hR3.out (by omega) 3 (by simp)
    have cb4 : w3.cell? ⟨w.heap.size, 4, none⟩ = some (.string s) := rdcellC hR3.out (by omega) 4 (by simp)
    have cb5 : w3.cell? ⟨w.heap.size, 5, none⟩ = some (.string dt) := rdcellC hR3.out (by omega) 5 (by simp)
    go_wp2_with fail
    refine (HT.out _).mono ?_
    rintro e w4 ⟨rfl, hb4⟩
    have HB4 := Lib.hid (HB3.out.trans (hb4.mono HB3.out.size))
    clear hb4
    go_wp2_with fail
    refine (HI.out _).mono ?_
    rintro e w5 ⟨rfl, hb5⟩
    have HB5 := Lib.hid (HB4.out.trans (hb5.mono HB4.out.size))
    clear hb5
    go_wp2
    go_ret
    exact ⟨rfl, HB5.out⟩
end Go.Proofs.Ytbokgbbdjcpgbaa
