/- The law of DirOk, walked. -/
import Derived.Test.YtgoodpphinakaaaDoorDirS
namespace Go.Proofs.YtgoodpphinakaaaDoor
open Go.RowKit

set_option maxRecDepth 1000000 in
set_option maxHeartbeats 6000000 in
theorem lawDirOk_walk (a : Option Addr) (n c : Nat) (l : List EntL) (w : World) (hs : ∀ s ∈ l, OkInt s.hash ∧ OkInt s.index ∧ s.name.size ≤ maxLen ∧ OkInt s.id) (h : Rd w a n c 4 (ens l)) (hT : KTab w) :
    Calls Tryd.prog 9 #[.slice a n c] w fun e w' => e = .returned (.bool true) ∧ Below w.heap.size w w' := by
  have hl : l.length = n := by have := h.len; simp at this; omega
  subst hl
  obtain ⟨R, hR⟩ : ∃ R, R = dirB l := ⟨_, rfl⟩
  have HI : Hid (∀ p q W, Rd W p l.length q 4 (ens l) → (∀ x ∈ l, x.name.size ≤ 1073741824) → KTab W → Calls Tryd.prog 35 #[.slice p l.length q] W fun e w' => e = .returned (.bool R) ∧ Below W.heap.size W w') := Lib.hid (fun p q W h hn hk => by rw [hR]; exact implDirOk_any p l.length q l W h hn hk)
  have HS : Hid (∀ p q W, Rd W p l.length q 4 (ens l) → (∀ x ∈ l, x.name.size ≤ 1073741824) → Calls Tryd.prog 33 #[.slice p l.length q] W fun e w' => e = .returned (.bool R) ∧ Below W.heap.size W w') := Lib.hid (fun p q W h hn => by rw [hR]; exact specDirOk_any p l.length q l W h hn)
  clear hR
  have H1 := Lib.hid h
  have HT := Lib.hid hT
  have HSZ := Lib.hid (fun s hh => (hs s hh).2.2.1)
  clear h hs hT
  go_enter Tryd.func9, Tryd.ntmps9
  go_wp2_with fail
  refine (szEnts_any _ _ _ l 1048576 _ H1.out HSZ.out (by omega) (by omega)).mono ?_
  rintro e w1 ⟨x, rfl, hx, hxl, hok, hb⟩
  replace H1 := Lib.hid (H1.out.below hb (Nat.le_refl _))
  have HC := Lib.hid hb
  clear hb
  by_cases hx0 : x < 0
  · clear hok
    go_wp2
    go_ret
    exact ⟨rfl, HC.out⟩
  · obtain ⟨hn, hnm⟩ := hok (by omega)
    have hn : l.length ≤ 1048576 := by omega
    have HNM : Hid (∀ x ∈ l, x.name.size ≤ 1073741824) := Lib.hid (fun x hx => by have := hnm x hx; omega)
    clear hok hnm
    go_wp2_with fail
    refine (toEnts_any _ _ _ l _ H1.out hn).mono ?_
    rintro e w2 ⟨g1, q1, rfl, hO⟩
    have HV := Lib.hid hO.rd
    replace H1 := Lib.hid (H1.out.below hO.below (Nat.le_refl _))
    replace HC := Lib.hid (below_step1 HC.out hO.below)
    clear hO
    go_wp2_with fail
    refine (HS.out _ _ _ HV.out HNM.out).mono ?_
    rintro e w3 ⟨rfl, hb⟩
    replace H1 := Lib.hid (H1.out.below hb (Nat.le_refl _))
    replace HC := Lib.hid (below_step1 HC.out hb)
    clear hb HV
    go_wp2_with fail
    refine (toEnts_any _ _ _ l _ H1.out hn).mono ?_
    rintro e w4 ⟨g2, q2, rfl, hO⟩
    have HV := Lib.hid hO.rd
    replace H1 := Lib.hid (H1.out.below hO.below (Nat.le_refl _))
    replace HC := Lib.hid (below_step1 HC.out hO.below)
    clear hO
    go_wp2_with fail
    refine (HI.out _ _ _ HV.out HNM.out (HT.out.below HC.out (Nat.le_refl _))).mono ?_
    rintro e w5 ⟨rfl, hb⟩
    replace H1 := Lib.hid (H1.out.below hb (Nat.le_refl _))
    replace HV := Lib.hid (HV.out.below hb (Nat.le_refl _))
    replace HC := Lib.hid (below_step1 HC.out hb)
    clear hb
    have hne : (R == R) = true := by simp
    have hne2 : (R != R) = false := by simp
    go_wp2_with fail
    refine (toEnts_any _ _ _ l _ H1.out hn).mono ?_
    rintro e w6 ⟨g3, q3, rfl, hO⟩
    have HZ := Lib.hid hO.rd
    replace HV := Lib.hid (HV.out.below hO.below (Nat.le_refl _))
    replace HC := Lib.hid (below_step1 HC.out hO.below)
    clear hO
    go_wp2_with fail
    refine (eqEnts_yes _ _ _ _ _ _ l _ HV.out HZ.out (by omega)).mono ?_
    rintro e w7 ⟨rfl, hb⟩
    replace HC := Lib.hid (below_step1 HC.out hb)
    clear hb
    go_wp2
    go_ret
    exact ⟨rfl, HC.out⟩
end Go.Proofs.YtgoodpphinakaaaDoor
