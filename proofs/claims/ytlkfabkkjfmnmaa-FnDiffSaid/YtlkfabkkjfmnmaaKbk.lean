import Derived.Test.YtlkfabkkjfmnmaaKan
import Derived.Test.YtlkfabkkjfmnmaaKau
import Derived.Test.YtlkfabkkjfmnmaaKav
import Derived.Test.YtlkfabkkjfmnmaaKaw
import Derived.Test.YtlkfabkkjfmnmaaKax
import Derived.Test.YtlkfabkkjfmnmaaKay
import Derived.Test.YtlkfabkkjfmnmaaKaz
import Derived.Test.YtlkfabkkjfmnmaaKbi
import Derived.Test.YtlkfabkkjfmnmaaKbj
namespace Go.Proofs.Ytlkfabkkjfmnmaa
open Go.RowKit
set_option linter.all false
set_option maxRecDepth 1000000 in
set_option maxHeartbeats 6000000 in
theorem l6On1_any (B : Nat) (next : Int) (a : Option Addr) (cap : Nat) (m : List InoP) (kd dir : Int) (nm : ByteArray) (tt : Int) (sa dt : ByteArray) (k : Nat) (Y : InoL) (ya : Option Addr) (yc : Nat) (w : World) (h : VolOwn B w a cap m w) (hi : Inv d0 next (xs m)) (hy : m[k]? = some ⟨Y, ya, yc⟩) (hat : atF (xs m) dir = (k : Int)) (hkd : Y.kind = 2) (hnb : nameB nm = true) (hdt : dt.size ≤ 1000) (h5 : kd ≠ 5) (h6 : kd ≠ 6) :
  Calls Try.prog 29 #[.agg #[.int .i64 next, .slice a m.length cap], .agg #[.int .i64 kd, .int .i64 dir, .string nm, .int .i64 tt, .string sa, .string dt]] w (VolAns B (VolBl a cap m) w) := by
 by_cases h3 : kd = 3
 ·subst h3; exact l6On3_any B next a cap m dir nm tt sa dt k Y ya yc w h hi hy hat hkd hnb
 by_cases h4 : kd = 4
 ·subst h4; exact l6On4_any B next a cap m dir nm tt sa dt k Y ya yc w h hi hy hat hkd hnb
 by_cases h7 : kd = 7
 ·subst h7; exact l6On7_any B next a cap m dir nm tt sa dt k Y ya yc w h hi hy hat hkd hnb hdt
 exact l6On8_any B next a cap m kd dir nm tt sa dt k Y ya yc w h hi hy hat hkd hnb h3 h4 h5 h6 h7
set_option maxRecDepth 1000000 in
set_option maxHeartbeats 6000000 in
theorem l6Do_any (B : Nat) (next : Int) (a : Option Addr) (cap : Nat) (m : List InoP) (kd dir : Int) (nm : ByteArray) (tt : Int) (sa dt : ByteArray) (w : World) (h : VolOwn B w a cap m w) (hi : Inv d0 next (xs m)) (hs1 : nm.size ≤ maxLen) (hs2 : sa.size ≤ maxLen) (hs3 : dt.size ≤ maxLen) :
  Calls Try.prog 18 #[.agg #[.int .i64 next, .slice a m.length cap], .agg #[.int .i64 kd, .int .i64 dir, .string nm, .int .i64 tt, .string sa, .string dt]] w (VolAns B (VolBl a cap m) w) := by
 have HOW := Lib.hid h
 have HI := Lib.hid hi
 have HP := Lib.hid h.p
 have HBX := Lib.hid (bx_new w next a m.length cap kd dir nm tt sa dt)
 have HSAME : Hid (∀ W, Bx w next a m.length cap kd dir nm tt sa dt W → ∀ (v0 v1 : Int) (v2 v3 : ByteArray), VolAns B (VolBl a cap m) w (.returned (.tuple #[.agg #[.int .i64 next, .slice a m.length cap], .agg #[.int .i64 v0, .int .i64 v1, .string v2, .string v3]])) _) := Lib.hid (fun W hb v0 v1 v2 v3 => hb.same h hi v0 v1 v2 v3)
 have HCK : Hid (∀ W, Calls Try.prog 24 #[.agg #[.int .i64 kd, .int .i64 dir, .string nm, .int .i64 tt, .string sa, .string dt]] W fun e w' => e = .returned (.bool (callOkF kd dir nm tt sa dt)) ∧ Below W.heap.size W w') := Lib.hid (fun W => specCallOk_any kd dir tt nm sa dt hs1 hs2 hs3 W)
 have HAT1 : Hid (∀ W, Below w.heap.size w W → Calls Try.prog 25 #[.agg #[.int .i64 next, .slice a m.length cap], .int .i64 dir] W fun e w' => e = .returned (.int .i64 (atF (xs m) dir)) ∧ Below W.heap.size W w') := Lib.hid (fun W hW => l6At_any next a m.length cap (xs m) dir W (HP.out.step hW).rd)
 have HAT2 : Hid (∀ W, Below w.heap.size w W → Calls Try.prog 25 #[.agg #[.int .i64 next, .slice a m.length cap], .int .i64 tt] W fun e w' => e = .returned (.int .i64 (atF (xs m) tt)) ∧ Below W.heap.size W w') := Lib.hid (fun W hW => l6At_any next a m.length cap (xs m) tt W (HP.out.step hW).rd)
 have HD1 : Hid (∀ W, Below w.heap.size w W → Calls Try.prog 26 #[.agg #[.int .i64 next, .slice a m.length cap], .int .i64 dir] W (DirAns m dir W)) := Lib.hid (fun W hW => l6Dir_any next a m.length cap m dir W (HP.out.step hW))
 have HD2 : Hid (∀ W, Below w.heap.size w W → Calls Try.prog 26 #[.agg #[.int .i64 next, .slice a m.length cap], .int .i64 tt] W (DirAns m tt W)) := Lib.hid (fun W hW => l6Dir_any next a m.length cap m tt W (HP.out.step hW))
 clear h hi hs1 hs2 hs3
 go_enter Try.func18, Try.ntmps18
 go_wp2_with fail
 generalize (((w.alloc (.cells #[.int .i64 next, .slice a m.length cap] 37)).alloc (.cells #[.int .i64 kd, .int .i64 dir, .string nm, .int .i64 tt, .string sa, .string dt] 56)).alloc (.cells #[.int .i64 0, .slice none 0 0] 37)).alloc (.cells #[.int .i64 0, .int .i64 0, .string ⟨#[]⟩, .string ⟨#[]⟩] 52) = w1 at *
 refine (HCK.out _).mono ?_
 rintro e w2 ⟨rfl, hb⟩
 have HBX2 := Lib.hid (HBX.out.below hb)
 clear hb HBX
 obtain ⟨⟨v0, v1⟩, fv0, fv1⟩ := HBX2.out.v.two
 obtain ⟨c0, c1, c2, c3, c4, c5⟩ := HBX2.out.c.six
 obtain ⟨⟨r0, r1⟩, fr0, fr1⟩ := HBX2.out.r.two
 obtain ⟨⟨s0, s1, s2, s3⟩, fs0, fs1, fs2, fs3⟩ := HBX2.out.s.four
 generalize hck : callOkF kd dir nm tt sa dt = ck at *
 cases ck with
 | false =>
  go_wp2
  exact ret_l6Do (HBX2.out.out _ _ _ _ _ _).1 (by rfl) (by rfl) (by rfl) (HSAME.out _ HBX2.out _ _ _ _)
 | true =>
  unfold callOkF at hck
  obtain ⟨⟨hkl, hkh⟩, -, -, hnl, hsl, hdl, -⟩ := of_decide_eq_true hck
  have HN1 : Hid (∀ W, Calls Try.prog 27 #[.string nm] W fun e w' => e = .returned (.bool (nameB nm)) ∧ Below W.heap.size W w') := Lib.hid (fun W => specNameOk_any nm W (by omega))
  have HN2 : Hid (∀ W, Calls Try.prog 27 #[.string sa] W fun e w' => e = .returned (.bool (nameB sa)) ∧ Below W.heap.size W w') := Lib.hid (fun W => specNameOk_any sa W (by omega))
  clear hck
  by_cases h5 : kd = 5
  ·subst h5
   go_wp2_with fail
   refine (HAT1.out _ HBX2.out.b).mono ?_
   rintro e w3 ⟨rfl, hb⟩
   have HBX3 := Lib.hid (HBX2.out.below hb)
   clear hb HBX2
   clear v0 v1 fv0 fv1 c0 c1 c2 c3 c4 c5 r0 r1 fr0 fr1 s0 s1 s2 s3 fs0 fs1 fs2 fs3
   obtain ⟨⟨v0, v1⟩, fv0, fv1⟩ := HBX3.out.v.two
   obtain ⟨c0, c1, c2, c3, c4, c5⟩ := HBX3.out.c.six
   obtain ⟨⟨r0, r1⟩, fr0, fr1⟩ := HBX3.out.r.two
   obtain ⟨⟨s0, s1, s2, s3⟩, fs0, fs1, fs2, fs3⟩ := HBX3.out.s.four
   generalize hr1 : atF (xs m) dir = i1 at *
   have HR1 := Lib.hid hr1
   clear hr1
   by_cases hn1 : i1 < 0
   ·go_wp2
    exact ret_l6Do (HBX3.out.out _ _ _ _ _ _).1 (by rfl) (by rfl) (by rfl) (HSAME.out _ HBX3.out _ _ _ _)
   go_wp2_with fail
   refine (HAT2.out _ HBX3.out.b).mono ?_
   rintro e w4 ⟨rfl, hb⟩
   have HBX4 := Lib.hid (HBX3.out.below hb)
   clear hb HBX3
   clear v0 v1 fv0 fv1 c0 c1 c2 c3 c4 c5 r0 r1 fr0 fr1 s0 s1 s2 s3 fs0 fs1 fs2 fs3
   obtain ⟨⟨v0, v1⟩, fv0, fv1⟩ := HBX4.out.v.two
   obtain ⟨c0, c1, c2, c3, c4, c5⟩ := HBX4.out.c.six
   obtain ⟨⟨r0, r1⟩, fr0, fr1⟩ := HBX4.out.r.two
   obtain ⟨⟨s0, s1, s2, s3⟩, fs0, fs1, fs2, fs3⟩ := HBX4.out.s.four
   generalize hr2 : atF (xs m) tt = i2 at *
   have HR2 := Lib.hid hr2
   clear hr2
   by_cases hn2 : i2 < 0
   ·go_wp2
    exact ret_l6Do (HBX4.out.out _ _ _ _ _ _).1 (by rfl) (by rfl) (by rfl) (HSAME.out _ HBX4.out _ _ _ _)
   go_wp2_with fail
   refine (HD1.out _ HBX4.out.b).mono ?_
   rintro e w5 ⟨b1, rfl, hd1, hb⟩
   have HDD1 := Lib.hid hd1
   clear hd1
   have HBX5 := Lib.hid (HBX4.out.below hb)
   clear hb HBX4
   clear v0 v1 fv0 fv1 c0 c1 c2 c3 c4 c5 r0 r1 fr0 fr1 s0 s1 s2 s3 fs0 fs1 fs2 fs3
   obtain ⟨⟨v0, v1⟩, fv0, fv1⟩ := HBX5.out.v.two
   obtain ⟨c0, c1, c2, c3, c4, c5⟩ := HBX5.out.c.six
   obtain ⟨⟨r0, r1⟩, fr0, fr1⟩ := HBX5.out.r.two
   obtain ⟨⟨s0, s1, s2, s3⟩, fs0, fs1, fs2, fs3⟩ := HBX5.out.s.four
   cases b1 with
   | false =>
    go_wp2
    exact ret_l6Do (HBX5.out.out _ _ _ _ _ _).1 (by rfl) (by rfl) (by rfl) (HSAME.out _ HBX5.out _ _ _ _)
   | true =>
    obtain ⟨k, ⟨Y, ya, yc⟩, hy, hat, hkd⟩ := HDD1.out rfl
    have HYK := Lib.hid (And.intro hy (And.intro hat hkd))
    clear hy hat hkd HDD1
    go_wp2_with fail
    refine (HD2.out _ HBX5.out.b).mono ?_
    rintro e w6 ⟨b2, rfl, hd2, hb⟩
    have HDD2 := Lib.hid hd2
    clear hd2
    have HBX6 := Lib.hid (HBX5.out.below hb)
    clear hb HBX5
    clear v0 v1 fv0 fv1 c0 c1 c2 c3 c4 c5 r0 r1 fr0 fr1 s0 s1 s2 s3 fs0 fs1 fs2 fs3
    obtain ⟨⟨v0, v1⟩, fv0, fv1⟩ := HBX6.out.v.two
    obtain ⟨c0, c1, c2, c3, c4, c5⟩ := HBX6.out.c.six
    obtain ⟨⟨r0, r1⟩, fr0, fr1⟩ := HBX6.out.r.two
    obtain ⟨⟨s0, s1, s2, s3⟩, fs0, fs1, fs2, fs3⟩ := HBX6.out.s.four
    cases b2 with
    | false =>
     go_wp2
     exact ret_l6Do (HBX6.out.out _ _ _ _ _ _).1 (by rfl) (by rfl) (by rfl) (HSAME.out _ HBX6.out _ _ _ _)
    | true =>
     obtain ⟨k2, ⟨Y2, ya2, yc2⟩, hy2, hat2, hkd2⟩ := HDD2.out rfl
     have HYK2 := Lib.hid (And.intro hy2 (And.intro hat2 hkd2))
     clear hy2 hat2 hkd2 HDD2
     go_wp2_with fail
     refine (HN1.out _).mono ?_
     rintro e w7 ⟨rfl, hb⟩
     have HBX7 := Lib.hid (HBX6.out.below hb)
     clear hb HBX6
     clear v0 v1 fv0 fv1 c0 c1 c2 c3 c4 c5 r0 r1 fr0 fr1 s0 s1 s2 s3 fs0 fs1 fs2 fs3
     obtain ⟨⟨v0, v1⟩, fv0, fv1⟩ := HBX7.out.v.two
     obtain ⟨c0, c1, c2, c3, c4, c5⟩ := HBX7.out.c.six
     obtain ⟨⟨r0, r1⟩, fr0, fr1⟩ := HBX7.out.r.two
     obtain ⟨⟨s0, s1, s2, s3⟩, fs0, fs1, fs2, fs3⟩ := HBX7.out.s.four
     generalize hnb1 : nameB nm = nb1 at *
     have HNB1 := Lib.hid hnb1
     clear hnb1
     cases nb1 with
     | false =>
      go_wp2
      exact ret_l6Do (HBX7.out.out _ _ _ _ _ _).1 (by rfl) (by rfl) (by rfl) (HSAME.out _ HBX7.out _ _ _ _)
     | true =>
      go_wp2_with fail
      refine (HN2.out _).mono ?_
      rintro e w8 ⟨rfl, hb⟩
      have HBX8 := Lib.hid (HBX7.out.below hb)
      clear hb HBX7
      clear v0 v1 fv0 fv1 c0 c1 c2 c3 c4 c5 r0 r1 fr0 fr1 s0 s1 s2 s3 fs0 fs1 fs2 fs3
      obtain ⟨⟨v0, v1⟩, fv0, fv1⟩ := HBX8.out.v.two
      obtain ⟨c0, c1, c2, c3, c4, c5⟩ := HBX8.out.c.six
      obtain ⟨⟨r0, r1⟩, fr0, fr1⟩ := HBX8.out.r.two
      obtain ⟨⟨s0, s1, s2, s3⟩, fs0, fs1, fs2, fs3⟩ := HBX8.out.s.four
      generalize hnb2 : nameB sa = nb2 at *
      have HNB2 := Lib.hid hnb2
      clear hnb2
      cases nb2 with
      | false =>
       go_wp2
       exact ret_l6Do (HBX8.out.out _ _ _ _ _ _).1 (by rfl) (by rfl) (by rfl) (HSAME.out _ HBX8.out _ _ _ _)
      | true =>
       have HVO := Lib.hid ((HOW.out.kept HBX8.out.b).self)
       go_wp2_with fail
       refine (l6On5_any B next a cap m dir nm tt sa dt k Y ya yc _ HVO.out HI.out HYK.out.1 HYK.out.2.1 HYK.out.2.2 HNB1.out k2 Y2 ya2 yc2 HYK2.out.1 HYK2.out.2.1 HYK2.out.2.2 HNB2.out).mono ?_
       rintro e w9 ⟨nx, a9, c9, m9, u0, u1, u2, u3, rfl, hI9, hV9, hB9, hQ9⟩
       have HBR := Lib.hid (HBX8.out.below hB9)
       have HFIN := Lib.hid (HBR.out.pass HBX8.out.size HOW.out hV9 hI9 hQ9 u0 u1 u2 u3)
       clear hI9 hV9 hB9 hQ9 HVO
       clear v0 v1 fv0 fv1 c0 c1 c2 c3 c4 c5 r0 r1 fr0 fr1 s0 s1 s2 s3 fs0 fs1 fs2 fs3
       obtain ⟨⟨v0, v1⟩, fv0, fv1⟩ := HBR.out.v.two
       obtain ⟨c0, c1, c2, c3, c4, c5⟩ := HBR.out.c.six
       obtain ⟨⟨r0, r1⟩, fr0, fr1⟩ := HBR.out.r.two
       obtain ⟨⟨s0, s1, s2, s3⟩, fs0, fs1, fs2, fs3⟩ := HBR.out.s.four
       go_wp2
       exact ret_l6Do (HBR.out.out _ _ _ _ _ _).1 (by rfl) (by rfl) (by rfl) HFIN.out
  by_cases h6 : kd = 6
  ·subst h6
   go_wp2_with fail
   refine (HAT1.out _ HBX2.out.b).mono ?_
   rintro e w10 ⟨rfl, hb⟩
   have HBX10 := Lib.hid (HBX2.out.below hb)
   clear hb HBX2
   clear v0 v1 fv0 fv1 c0 c1 c2 c3 c4 c5 r0 r1 fr0 fr1 s0 s1 s2 s3 fs0 fs1 fs2 fs3
   obtain ⟨⟨v0, v1⟩, fv0, fv1⟩ := HBX10.out.v.two
   obtain ⟨c0, c1, c2, c3, c4, c5⟩ := HBX10.out.c.six
   obtain ⟨⟨r0, r1⟩, fr0, fr1⟩ := HBX10.out.r.two
   obtain ⟨⟨s0, s1, s2, s3⟩, fs0, fs1, fs2, fs3⟩ := HBX10.out.s.four
   generalize hr1 : atF (xs m) dir = i1 at *
   have HR1 := Lib.hid hr1
   clear hr1
   by_cases hn1 : i1 < 0
   ·go_wp2
    exact ret_l6Do (HBX10.out.out _ _ _ _ _ _).1 (by rfl) (by rfl) (by rfl) (HSAME.out _ HBX10.out _ _ _ _)
   go_wp2_with fail
   refine (HAT2.out _ HBX10.out.b).mono ?_
   rintro e w11 ⟨rfl, hb⟩
   have HBX11 := Lib.hid (HBX10.out.below hb)
   clear hb HBX10
   clear v0 v1 fv0 fv1 c0 c1 c2 c3 c4 c5 r0 r1 fr0 fr1 s0 s1 s2 s3 fs0 fs1 fs2 fs3
   obtain ⟨⟨v0, v1⟩, fv0, fv1⟩ := HBX11.out.v.two
   obtain ⟨c0, c1, c2, c3, c4, c5⟩ := HBX11.out.c.six
   obtain ⟨⟨r0, r1⟩, fr0, fr1⟩ := HBX11.out.r.two
   obtain ⟨⟨s0, s1, s2, s3⟩, fs0, fs1, fs2, fs3⟩ := HBX11.out.s.four
   generalize hr2 : atF (xs m) tt = i2 at *
   have HR2 := Lib.hid hr2
   clear hr2
   by_cases hn2 : i2 < 0
   ·go_wp2
    exact ret_l6Do (HBX11.out.out _ _ _ _ _ _).1 (by rfl) (by rfl) (by rfl) (HSAME.out _ HBX11.out _ _ _ _)
   go_wp2_with fail
   refine (HD1.out _ HBX11.out.b).mono ?_
   rintro e w12 ⟨b1, rfl, hd1, hb⟩
   have HDD1 := Lib.hid hd1
   clear hd1
   have HBX12 := Lib.hid (HBX11.out.below hb)
   clear hb HBX11
   clear v0 v1 fv0 fv1 c0 c1 c2 c3 c4 c5 r0 r1 fr0 fr1 s0 s1 s2 s3 fs0 fs1 fs2 fs3
   obtain ⟨⟨v0, v1⟩, fv0, fv1⟩ := HBX12.out.v.two
   obtain ⟨c0, c1, c2, c3, c4, c5⟩ := HBX12.out.c.six
   obtain ⟨⟨r0, r1⟩, fr0, fr1⟩ := HBX12.out.r.two
   obtain ⟨⟨s0, s1, s2, s3⟩, fs0, fs1, fs2, fs3⟩ := HBX12.out.s.four
   cases b1 with
   | false =>
    go_wp2
    exact ret_l6Do (HBX12.out.out _ _ _ _ _ _).1 (by rfl) (by rfl) (by rfl) (HSAME.out _ HBX12.out _ _ _ _)
   | true =>
    obtain ⟨k, ⟨Y, ya, yc⟩, hy, hat, hkd⟩ := HDD1.out rfl
    have HYK := Lib.hid (And.intro hy (And.intro hat hkd))
    clear hy hat hkd HDD1
    go_wp2_with fail
    refine (HD2.out _ HBX12.out.b).mono ?_
    rintro e w13 ⟨b2, rfl, hd2, hb⟩
    have HDD2 := Lib.hid hd2
    clear hd2
    have HBX13 := Lib.hid (HBX12.out.below hb)
    clear hb HBX12
    clear v0 v1 fv0 fv1 c0 c1 c2 c3 c4 c5 r0 r1 fr0 fr1 s0 s1 s2 s3 fs0 fs1 fs2 fs3
    obtain ⟨⟨v0, v1⟩, fv0, fv1⟩ := HBX13.out.v.two
    obtain ⟨c0, c1, c2, c3, c4, c5⟩ := HBX13.out.c.six
    obtain ⟨⟨r0, r1⟩, fr0, fr1⟩ := HBX13.out.r.two
    obtain ⟨⟨s0, s1, s2, s3⟩, fs0, fs1, fs2, fs3⟩ := HBX13.out.s.four
    cases b2 with
    | false =>
     go_wp2
     exact ret_l6Do (HBX13.out.out _ _ _ _ _ _).1 (by rfl) (by rfl) (by rfl) (HSAME.out _ HBX13.out _ _ _ _)
    | true =>
     obtain ⟨k2, ⟨Y2, ya2, yc2⟩, hy2, hat2, hkd2⟩ := HDD2.out rfl
     have HYK2 := Lib.hid (And.intro hy2 (And.intro hat2 hkd2))
     clear hy2 hat2 hkd2 HDD2
     go_wp2_with fail
     refine (HN1.out _).mono ?_
     rintro e w14 ⟨rfl, hb⟩
     have HBX14 := Lib.hid (HBX13.out.below hb)
     clear hb HBX13
     clear v0 v1 fv0 fv1 c0 c1 c2 c3 c4 c5 r0 r1 fr0 fr1 s0 s1 s2 s3 fs0 fs1 fs2 fs3
     obtain ⟨⟨v0, v1⟩, fv0, fv1⟩ := HBX14.out.v.two
     obtain ⟨c0, c1, c2, c3, c4, c5⟩ := HBX14.out.c.six
     obtain ⟨⟨r0, r1⟩, fr0, fr1⟩ := HBX14.out.r.two
     obtain ⟨⟨s0, s1, s2, s3⟩, fs0, fs1, fs2, fs3⟩ := HBX14.out.s.four
     generalize hnb1 : nameB nm = nb1 at *
     have HNB1 := Lib.hid hnb1
     clear hnb1
     cases nb1 with
     | false =>
      go_wp2
      exact ret_l6Do (HBX14.out.out _ _ _ _ _ _).1 (by rfl) (by rfl) (by rfl) (HSAME.out _ HBX14.out _ _ _ _)
     | true =>
      go_wp2_with fail
      refine (HN2.out _).mono ?_
      rintro e w15 ⟨rfl, hb⟩
      have HBX15 := Lib.hid (HBX14.out.below hb)
      clear hb HBX14
      clear v0 v1 fv0 fv1 c0 c1 c2 c3 c4 c5 r0 r1 fr0 fr1 s0 s1 s2 s3 fs0 fs1 fs2 fs3
      obtain ⟨⟨v0, v1⟩, fv0, fv1⟩ := HBX15.out.v.two
      obtain ⟨c0, c1, c2, c3, c4, c5⟩ := HBX15.out.c.six
      obtain ⟨⟨r0, r1⟩, fr0, fr1⟩ := HBX15.out.r.two
      obtain ⟨⟨s0, s1, s2, s3⟩, fs0, fs1, fs2, fs3⟩ := HBX15.out.s.four
      generalize hnb2 : nameB sa = nb2 at *
      have HNB2 := Lib.hid hnb2
      clear hnb2
      cases nb2 with
      | false =>
       go_wp2
       exact ret_l6Do (HBX15.out.out _ _ _ _ _ _).1 (by rfl) (by rfl) (by rfl) (HSAME.out _ HBX15.out _ _ _ _)
      | true =>
       have HVO := Lib.hid ((HOW.out.kept HBX15.out.b).self)
       go_wp2_with fail
       refine (l6On6_any B next a cap m dir nm tt sa dt k Y ya yc _ HVO.out HI.out HYK.out.1 HYK.out.2.1 HYK.out.2.2 HNB1.out k2 Y2 ya2 yc2 HYK2.out.1 HYK2.out.2.1 HYK2.out.2.2 HNB2.out).mono ?_
       rintro e w16 ⟨nx, a9, c9, m9, u0, u1, u2, u3, rfl, hI9, hV9, hB9, hQ9⟩
       have HBR := Lib.hid (HBX15.out.below hB9)
       have HFIN := Lib.hid (HBR.out.pass HBX15.out.size HOW.out hV9 hI9 hQ9 u0 u1 u2 u3)
       clear hI9 hV9 hB9 hQ9 HVO
       clear v0 v1 fv0 fv1 c0 c1 c2 c3 c4 c5 r0 r1 fr0 fr1 s0 s1 s2 s3 fs0 fs1 fs2 fs3
       obtain ⟨⟨v0, v1⟩, fv0, fv1⟩ := HBR.out.v.two
       obtain ⟨c0, c1, c2, c3, c4, c5⟩ := HBR.out.c.six
       obtain ⟨⟨r0, r1⟩, fr0, fr1⟩ := HBR.out.r.two
       obtain ⟨⟨s0, s1, s2, s3⟩, fs0, fs1, fs2, fs3⟩ := HBR.out.s.four
       go_wp2
       exact ret_l6Do (HBR.out.out _ _ _ _ _ _).1 (by rfl) (by rfl) (by rfl) HFIN.out
  have hk5 : (kd == 5) = false := by simp [h5]
  have hk6 : (kd == 6) = false := by simp [h6]
  have HNE := Lib.hid (And.intro h5 h6)
  go_wp2_with fail
  refine (HAT1.out _ HBX2.out.b).mono ?_
  rintro e w17 ⟨rfl, hb⟩
  have HBX17 := Lib.hid (HBX2.out.below hb)
  clear hb HBX2
  clear v0 v1 fv0 fv1 c0 c1 c2 c3 c4 c5 r0 r1 fr0 fr1 s0 s1 s2 s3 fs0 fs1 fs2 fs3
  obtain ⟨⟨v0, v1⟩, fv0, fv1⟩ := HBX17.out.v.two
  obtain ⟨c0, c1, c2, c3, c4, c5⟩ := HBX17.out.c.six
  obtain ⟨⟨r0, r1⟩, fr0, fr1⟩ := HBX17.out.r.two
  obtain ⟨⟨s0, s1, s2, s3⟩, fs0, fs1, fs2, fs3⟩ := HBX17.out.s.four
  generalize hr1 : atF (xs m) dir = i1 at *
  have HR1 := Lib.hid hr1
  clear hr1
  by_cases hn1 : i1 < 0
  ·go_wp2
   exact ret_l6Do (HBX17.out.out _ _ _ _ _ _).1 (by rfl) (by rfl) (by rfl) (HSAME.out _ HBX17.out _ _ _ _)
  go_wp2_with fail
  refine (HD1.out _ HBX17.out.b).mono ?_
  rintro e w18 ⟨b1, rfl, hd1, hb⟩
  have HDD1 := Lib.hid hd1
  clear hd1
  have HBX18 := Lib.hid (HBX17.out.below hb)
  clear hb HBX17
  clear v0 v1 fv0 fv1 c0 c1 c2 c3 c4 c5 r0 r1 fr0 fr1 s0 s1 s2 s3 fs0 fs1 fs2 fs3
  obtain ⟨⟨v0, v1⟩, fv0, fv1⟩ := HBX18.out.v.two
  obtain ⟨c0, c1, c2, c3, c4, c5⟩ := HBX18.out.c.six
  obtain ⟨⟨r0, r1⟩, fr0, fr1⟩ := HBX18.out.r.two
  obtain ⟨⟨s0, s1, s2, s3⟩, fs0, fs1, fs2, fs3⟩ := HBX18.out.s.four
  cases b1 with
  | false =>
   go_wp2
   exact ret_l6Do (HBX18.out.out _ _ _ _ _ _).1 (by rfl) (by rfl) (by rfl) (HSAME.out _ HBX18.out _ _ _ _)
  | true =>
   obtain ⟨k, ⟨Y, ya, yc⟩, hy, hat, hkd⟩ := HDD1.out rfl
   have HYK := Lib.hid (And.intro hy (And.intro hat hkd))
   clear hy hat hkd HDD1
   go_wp2_with fail
   refine (HN1.out _).mono ?_
   rintro e w19 ⟨rfl, hb⟩
   have HBX19 := Lib.hid (HBX18.out.below hb)
   clear hb HBX18
   clear v0 v1 fv0 fv1 c0 c1 c2 c3 c4 c5 r0 r1 fr0 fr1 s0 s1 s2 s3 fs0 fs1 fs2 fs3
   obtain ⟨⟨v0, v1⟩, fv0, fv1⟩ := HBX19.out.v.two
   obtain ⟨c0, c1, c2, c3, c4, c5⟩ := HBX19.out.c.six
   obtain ⟨⟨r0, r1⟩, fr0, fr1⟩ := HBX19.out.r.two
   obtain ⟨⟨s0, s1, s2, s3⟩, fs0, fs1, fs2, fs3⟩ := HBX19.out.s.four
   generalize hnb1 : nameB nm = nb1 at *
   have HNB1 := Lib.hid hnb1
   clear hnb1
   cases nb1 with
   | false =>
    go_wp2
    exact ret_l6Do (HBX19.out.out _ _ _ _ _ _).1 (by rfl) (by rfl) (by rfl) (HSAME.out _ HBX19.out _ _ _ _)
   | true =>
    by_cases h1 : kd = 1
    ·have hk1 : (kd == 1) = true := by simp [h1]
     clear h1
     have HVO := Lib.hid ((HOW.out.kept HBX19.out.b).self)
     go_wp2_with fail
     refine (l6Make_any B next a cap m kd dir nm tt sa dt k ⟨Y, ya, yc⟩ _ HVO.out HI.out HYK.out.1 HYK.out.2.1 HYK.out.2.2 HNB1.out).mono ?_
     rintro e w20 ⟨nx, a9, c9, m9, u0, u1, u2, u3, rfl, hI9, hV9, hB9, hQ9⟩
     have HBR := Lib.hid (HBX19.out.below hB9)
     have HFIN := Lib.hid (HBR.out.pass HBX19.out.size HOW.out hV9 hI9 hQ9 u0 u1 u2 u3)
     clear hI9 hV9 hB9 hQ9 HVO
     clear v0 v1 fv0 fv1 c0 c1 c2 c3 c4 c5 r0 r1 fr0 fr1 s0 s1 s2 s3 fs0 fs1 fs2 fs3
     obtain ⟨⟨v0, v1⟩, fv0, fv1⟩ := HBR.out.v.two
     obtain ⟨c0, c1, c2, c3, c4, c5⟩ := HBR.out.c.six
     obtain ⟨⟨r0, r1⟩, fr0, fr1⟩ := HBR.out.r.two
     obtain ⟨⟨s0, s1, s2, s3⟩, fs0, fs1, fs2, fs3⟩ := HBR.out.s.four
     go_wp2
     exact ret_l6Do (HBR.out.out _ _ _ _ _ _).1 (by rfl) (by rfl) (by rfl) HFIN.out
    by_cases h2 : kd = 2
    ·have hk2 : (kd == 2) = true ∧ (kd == 1) = false := by simp [h2]
     obtain ⟨hk2a, hk2b⟩ := hk2
     clear h2
     have HVO := Lib.hid ((HOW.out.kept HBX19.out.b).self)
     go_wp2_with fail
     refine (l6Make_any B next a cap m kd dir nm tt sa dt k ⟨Y, ya, yc⟩ _ HVO.out HI.out HYK.out.1 HYK.out.2.1 HYK.out.2.2 HNB1.out).mono ?_
     rintro e w21 ⟨nx, a9, c9, m9, u0, u1, u2, u3, rfl, hI9, hV9, hB9, hQ9⟩
     have HBR := Lib.hid (HBX19.out.below hB9)
     have HFIN := Lib.hid (HBR.out.pass HBX19.out.size HOW.out hV9 hI9 hQ9 u0 u1 u2 u3)
     clear hI9 hV9 hB9 hQ9 HVO
     clear v0 v1 fv0 fv1 c0 c1 c2 c3 c4 c5 r0 r1 fr0 fr1 s0 s1 s2 s3 fs0 fs1 fs2 fs3
     obtain ⟨⟨v0, v1⟩, fv0, fv1⟩ := HBR.out.v.two
     obtain ⟨c0, c1, c2, c3, c4, c5⟩ := HBR.out.c.six
     obtain ⟨⟨r0, r1⟩, fr0, fr1⟩ := HBR.out.r.two
     obtain ⟨⟨s0, s1, s2, s3⟩, fs0, fs1, fs2, fs3⟩ := HBR.out.s.four
     go_wp2
     exact ret_l6Do (HBR.out.out _ _ _ _ _ _).1 (by rfl) (by rfl) (by rfl) HFIN.out
    have hk1 : (kd == 1) = false := by simp [h1]
    have hk2 : (kd == 2) = false := by simp [h2]
    have HVO := Lib.hid ((HOW.out.kept HBX19.out.b).self)
    go_wp2_with fail
    refine (l6On1_any B next a cap m kd dir nm tt sa dt k Y ya yc _ HVO.out HI.out HYK.out.1 HYK.out.2.1 HYK.out.2.2 HNB1.out (by omega) HNE.out.1 HNE.out.2).mono ?_
    rintro e w22 ⟨nx, a9, c9, m9, u0, u1, u2, u3, rfl, hI9, hV9, hB9, hQ9⟩
    have HBR := Lib.hid (HBX19.out.below hB9)
    have HFIN := Lib.hid (HBR.out.pass HBX19.out.size HOW.out hV9 hI9 hQ9 u0 u1 u2 u3)
    clear hI9 hV9 hB9 hQ9 HVO
    clear v0 v1 fv0 fv1 c0 c1 c2 c3 c4 c5 r0 r1 fr0 fr1 s0 s1 s2 s3 fs0 fs1 fs2 fs3
    obtain ⟨⟨v0, v1⟩, fv0, fv1⟩ := HBR.out.v.two
    obtain ⟨c0, c1, c2, c3, c4, c5⟩ := HBR.out.c.six
    obtain ⟨⟨r0, r1⟩, fr0, fr1⟩ := HBR.out.r.two
    obtain ⟨⟨s0, s1, s2, s3⟩, fs0, fs1, fs2, fs3⟩ := HBR.out.s.four
    go_wp2
    exact ret_l6Do (HBR.out.out _ _ _ _ _ _).1 (by rfl) (by rfl) (by rfl) HFIN.out

end Go.Proofs.Ytlkfabkkjfmnmaa
