/- The law of Diff, walked. -/
import Derived.Test.YtbokgbbdjcpgbaaDiff
namespace Go.Proofs.Ytbokgbbdjcpgbaa
open Go.RowKit

set_option maxRecDepth 1000000 in
set_option maxHeartbeats 6000000 in
theorem lawDiff_walk (a : Option Addr) (n cap : Nat) (l : List ByteArray) (b : Option Addr) (m dap : Nat) (r : List ByteArray) (w : World) (hs1 : ∀ s ∈ l, s.size ≤ maxLen) (h1 : Rd w a n cap 1 (strs l)) (hs2 : ∀ s ∈ r, s.size ≤ maxLen) (h2 : Rd w b m dap 1 (strs r)) :
    Calls Try.prog 9 #[.slice a n cap, .slice b m dap] w fun e w' => e = .returned (.bool true) ∧ Below w.heap.size w w' := by
  have hl1 : l.length = n := by have := h1.len; simpa using this
  have hl2 : r.length = m := by have := h2.len; simpa using this
  have HR1 := Lib.hid h1
  have HR2 := Lib.hid h2
  have HS1 := Lib.hid hs1
  have HS2 := Lib.hid hs2
  clear h1 h2 hs1 hs2
  go_enter Try.func9, Try.ntmps9
  go_wp2_with fail
  refine (szStrs_any _ _ _ l 1048576 _ HR1.out HS1.out (by omega) (by omega)).mono ?_
  rintro e w' ⟨x, rfl, hx, ⟨hxl, hok⟩, rfl⟩
  by_cases hx0 : x < 0
  · clear hok hl1 hl2
    go_wp2
    go_ret
    exact ⟨rfl, Below.refl _ _⟩
  · have hok2 := (hok (by omega)).1
    have hn : n ≤ 1048576 := by omega
    clear hok hok2
    go_wp2_with fail
    refine (szStrs_any _ _ _ r x _ HR2.out HS2.out (by omega) (by omega)).mono ?_
    rintro e w' ⟨y, rfl, hy, ⟨hyl, hok⟩, rfl⟩
    by_cases hy0 : y < 0
    · clear hok hl1 hl2
      go_wp2
      go_ret
      exact ⟨rfl, Below.refl _ _⟩
    · have hok2 := (hok (by omega)).1
      have hm : m ≤ 1048576 := by omega
      have hdl := diffL_len l r
      clear hok hok2 hl1 hl2
      go_wp2_with fail
      refine (toStrs_any _ _ _ l _ HR1.out hn).mono ?_
      rintro e w1 ⟨g1, c1, rfl, hX⟩
      have HA1 := Lib.hid hX
      clear hX
      go_wp2_with fail
      refine (toStrs_any _ _ _ r _ (HR2.out.below HA1.out.below (Nat.le_refl _)) hm).mono ?_
      rintro e w2 ⟨g2, c2, rfl, hX⟩
      have HA2 := Lib.hid hX
      clear hX
      go_wp2_with fail
      refine (specDiff_any _ _ _ _ _ _ l r _ (HA1.out.rd.below HA2.out.below (Nat.le_refl _)) HA2.out.rd).mono ?_
      rintro e w3 ⟨g3, c3, rfl, hX⟩
      have HW0 := Lib.hid hX.rd
      have HB3 := Lib.hid (below_step1 (below_step1 HA1.out.below HA2.out.below) hX.below)
      clear hX HA1 HA2
      have HD : Hid (∀ (pa pb : Option Addr) (n m c d : Nat) (w : World), Rd w pa n c 1 (strs l) → Rd w pb m d 1 (strs r) → Calls Try.prog 38 #[.slice pa n c, .slice pb m d] w (DiffPost (diffL l r) w)) := Lib.hid (fun pa pb n m c d w h1 h2 => implDiff_any pa pb n m c d l r w h1 h2)
      generalize diffL l r = D at *
      go_wp2_with fail
      refine (toStrs_any _ _ _ l _ (HR1.out.below HB3.out (Nat.le_refl _)) hn).mono ?_
      rintro e w4 ⟨g4, c4, rfl, hX⟩
      have HX0 := Lib.hid hX
      have HB4 := Lib.hid (below_step1 HB3.out hX.below)
      have HC4 := Lib.hid hX.below
      clear hX
      go_wp2_with fail
      refine (toStrs_any _ _ _ r _ (HR2.out.below HB4.out (Nat.le_refl _)) hm).mono ?_
      rintro e w5 ⟨g5, c5, rfl, hX⟩
      have HX1 := Lib.hid hX
      have HX0b := Lib.hid (HX0.out.stay hX.below)
      have HB5 := Lib.hid (below_step1 HB4.out hX.below)
      have HC5 := Lib.hid (below_step1 HC4.out hX.below)
      clear hX
      go_wp2_with fail
      refine (HD.out _ _ _ _ _ _ _ HX0b.out.rd HX1.out.rd).mono ?_
      rintro e w6 ⟨g6, c6, rfl, hX⟩
      have HG := Lib.hid hX
      have HX0c := Lib.hid (HX0b.out.stay hX.below)
      have HX1c := Lib.hid (HX1.out.stay hX.below)
      have HB6 := Lib.hid (below_step1 HB5.out hX.below)
      have HC6 := Lib.hid (below_step1 HC5.out hX.below)
      clear hX
      go_wp2_with fail
      refine (eqWrs_yes _ _ _ _ _ _ D _ HG.out.rd (HW0.out.below HC6.out (Nat.le_refl _)) (by omega)).mono ?_
      rintro e w7 ⟨rfl, hb7⟩
      have HG7 := Lib.hid (HG.out.stay hb7)
      have HX07 := Lib.hid (HX0c.out.stay hb7)
      have HX17 := Lib.hid (HX1c.out.stay hb7)
      have HB7 := Lib.hid (below_step1 HB6.out hb7)
      have HC7 := Lib.hid (below_step1 HC6.out hb7)
      clear hb7 HX0b HX0c HX1c
      go_wp2_with fail
      refine (toStrs_any _ _ _ l _ (HR1.out.below HB7.out (Nat.le_refl _)) hn).mono ?_
      rintro e w8 ⟨g8, c8, rfl, hX⟩
      have HT := Lib.hid hX.rd
      have HX08 := Lib.hid (HX07.out.rd.below hX.below (Nat.le_refl _))
      have HTB := Lib.hid hX.below
      clear hX
      go_wp2_with fail
      refine (eqStrs_yes _ _ _ _ _ _ l _ HX08.out HT.out (by omega)).mono ?_
      rintro e w9 ⟨rfl, hb9⟩
      have HS9 := Lib.hid (below_step1 HTB.out hb9)
      have HB9 := Lib.hid (below_step1 HB7.out HS9.out)
      clear hb9 HT HX08 HTB
      go_wp2_with fail
      refine (toStrs_any _ _ _ r _ (HR2.out.below HB9.out (Nat.le_refl _)) hm).mono ?_
      rintro e w10 ⟨g10, c10, rfl, hX⟩
      have HT := Lib.hid hX.rd
      have HX18 := Lib.hid ((HX17.out.rd.below HS9.out (Nat.le_refl _)).below hX.below (Nat.le_refl _))
      have HTB := Lib.hid hX.below
      clear hX
      go_wp2_with fail
      refine (eqStrs_yes _ _ _ _ _ _ r _ HX18.out HT.out (by omega)).mono ?_
      rintro e w11 ⟨rfl, hb11⟩
      have HS11 := Lib.hid (below_step1 HS9.out (below_step1 HTB.out hb11))
      have HX0d := Lib.hid (HX07.out.stay HS11.out)
      have HX1d := Lib.hid (HX17.out.stay HS11.out)
      have HGd := Lib.hid (HG7.out.stay HS11.out)
      have HB11 := Lib.hid (below_step1 HB7.out HS11.out)
      have HC11 := Lib.hid (below_step1 HC7.out HS11.out)
      have hsz3 := Lib.hid (And.intro HX0.out.row.lt (And.intro HX1.out.row.lt HG.out.row.lt))
      have hle := Lib.hid (And.intro HB3.out.size (And.intro HC4.out.size (And.intro HC5.out.size HX1.out.below.size)))
      clear hb11 HT HX18 HTB HS9 HS11 HX07 HX17 HG7 HB7 HC7 HB9 HX0 HX1 HG HB4 HB5 HB6 HC4 HC5 HC6
      have hn01 : ∀ k, Value.ownBlock (.slice (some ⟨g5, 0, none⟩) m c5) = some k → Value.ownBlock (.slice (some ⟨g4, 0, none⟩) n c4) ≠ some k := fun k hk e => by
        have h1 := (hsz3.out.1 k e).2
        have h2 := (hsz3.out.2.1 k hk).1
        omega
      have hn0g : ∀ k, Value.ownBlock (.slice g6 D.length c6) = some k → Value.ownBlock (.slice (some ⟨g4, 0, none⟩) n c4) ≠ some k := fun k hk e => by
        have h1 := (hsz3.out.1 k e).2
        have h2 := (hsz3.out.2.2 k hk).1
        have h3 := hle.out.2.2.2
        omega
      have hn1g : ∀ k, Value.ownBlock (.slice g6 D.length c6) = some k → Value.ownBlock (.slice (some ⟨g5, 0, none⟩) m c5) ≠ some k := fun k hk e => by
        have h1 := (hsz3.out.2.1 k e).2
        have h2 := (hsz3.out.2.2 k hk).1
        omega
      have HN := Lib.hid (And.intro hn01 (And.intro hn0g hn1g))
      clear hn01 hn0g hn1g
      go_wp2_with fail
      refine (markStrs_any _ _ _ _ _ _ l 1 _ HX0d.out (by omega) (by omega) (by omega)).mono ?_
      rintro e w12 ⟨rfl, hO, hGr⟩
      have HX1e := Lib.hid (HX1d.out.otherLow hGr HN.out.1)
      have HGe := Lib.hid (HGd.out.otherLow hGr HN.out.2.1)
      have HC12 := Lib.hid (HC11.out.grown hGr HC11.out.size (fun k hk => (hsz3.out.1 k hk).1))
      clear hO hGr HX0d HX1d HGd HC11
      go_wp2_with fail
      refine (markStrs_any _ _ _ _ _ _ r (1 + n) _ HX1e.out (by omega) (by omega) (by omega)).mono ?_
      rintro e w13 ⟨rfl, hO, hGr⟩
      have HGf := Lib.hid (HGe.out.otherLow hGr HN.out.2.2)
      have HC13 := Lib.hid (HC12.out.grown hGr HC12.out.size (fun k hk => by have := (hsz3.out.2.1 k hk).1; have := hle.out.2.1; omega))
      clear hO hGr HX1e HGe HC12
      go_wp2_with fail
      refine (eqWrs_yes _ _ _ _ _ _ D _ HGf.out.rd (HW0.out.below HC13.out (Nat.le_refl _)) (by omega)).mono ?_
      rintro e w14 ⟨rfl, hb14⟩
      have HGg := Lib.hid (HGf.out.stay hb14)
      have HC14 := Lib.hid (below_step1 HC13.out hb14)
      clear hb14 HGf HC13
      go_wp2_with fail
      refine (markWrs_any _ _ _ _ _ _ D 1 _ HGg.out (by omega) (by omega) (by omega)).mono ?_
      rintro e w15 ⟨rfl, hO, hGr⟩
      have HGh := Lib.hid hO.self
      have HC15 := Lib.hid (HC14.out.grown hGr HC14.out.size (fun k hk => by have := (hsz3.out.2.2 k hk).1; have := hle.out.2.2.1; omega))
      clear hO hGr HGg HC14
      go_wp2_with fail
      refine (heldWrs_yes _ _ _ 1 _ HGh.out.rd (by omega) (by omega) (by omega)).mono ?_
      rintro e w16 ⟨rfl, hb16⟩
      have HGi := Lib.hid (HGh.out.stay hb16)
      have HC16 := Lib.hid (below_step1 HC15.out hb16)
      have HB16 := Lib.hid (below_step1 HB3.out HC16.out)
      clear hb16 HGh HC15
      go_wp2_with fail
      refine (toStrs_any _ _ _ l _ (HR1.out.below HB16.out (Nat.le_refl _)) hn).mono ?_
      rintro e w17 ⟨g17, c17, rfl, hX⟩
      have HT1 := Lib.hid hX.rd
      have HS17 := Lib.hid hX.below
      clear hX
      go_wp2_with fail
      refine (toStrs_any _ _ _ r _ (HR2.out.below (below_step1 HB16.out HS17.out) (Nat.le_refl _)) hm).mono ?_
      rintro e w18 ⟨g18, c18, rfl, hX⟩
      have HT2 := Lib.hid hX.rd
      have HT1b := Lib.hid (HT1.out.below hX.below (Nat.le_refl _))
      have HS18 := Lib.hid (below_step1 HS17.out hX.below)
      clear hX HT1 HS17
      go_wp2_with fail
      refine (HD.out _ _ _ _ _ _ _ HT1b.out HT2.out).mono ?_
      rintro e w19 ⟨g19, c19, rfl, hX⟩
      have HH := Lib.hid hX.rd
      have HS19 := Lib.hid (below_step1 HS18.out hX.below)
      have HC19 := Lib.hid (below_step1 HC16.out HS19.out)
      clear hX HT1b HT2 HS18
      go_wp2_with fail
      refine (eqWrs_yes _ _ _ _ _ _ D _ HH.out (HW0.out.below HC19.out (Nat.le_refl _)) (by omega)).mono ?_
      rintro e w20 ⟨rfl, hb20⟩
      have HGj := Lib.hid (HGi.out.stay (below_step1 HS19.out hb20))
      have HB20 := Lib.hid (below_step1 HB16.out (below_step1 HS19.out hb20))
      clear hb20 HH HS19 HC19 HGi
      go_wp2_with fail
      refine (heldWrs_yes _ _ _ 1 _ HGj.out.rd (by omega) (by omega) (by omega)).mono ?_
      rintro e w21 ⟨rfl, hb21⟩
      have HB21 := Lib.hid (below_step1 HB20.out hb21)
      clear hb21
      go_wp2
      go_ret
      exact ⟨rfl, HB21.out⟩
end Go.Proofs.Ytbokgbbdjcpgbaa
