import Derived.Test.YtlkfabkkjfmnmaaKat
import Derived.Test.YtlkfabkkjfmnmaaKbl
import Derived.Deep.CutBlock
namespace Go.Proofs.Ytlkfabkkjfmnmaa
open Go.RowKit
set_option linter.all false
def DrewCall (a : Option Addr) (n cap : Nat) (bs : List Int) (g : Nat) (w : World) (e : Ending) (w' : World) : Prop :=
 ∃ (kd dir : Int) (nm : ByteArray) (tt : Int) (sa dt : ByteArray) (cs : CS), e = .returned (.agg #[.int .i64 kd, .int .i64 dir, .string nm, .int .i64 tt, .string sa, .string dt]) ∧ nm.size ≤ 2147483648 ∧ sa.size ≤ 2147483648 ∧ dt.size ≤ 2147483648 ∧ CurAt a n cap bs g cs w' ∧ w.grownBy w' (some g)
theorem Cs.six2 {w : World} {b : Nat} {u0 u1 u2 u3 u4 u5 : Value} (h : Cs w b [u0, u1, u2, u3, u4, u5]) : (w.cell? ⟨b, 0, none⟩ = some u0 ∧ w.cell? ⟨b, 1, none⟩ = some u1 ∧ w.cell? ⟨b, 2, none⟩ = some u2 ∧ w.cell? ⟨b, 3, none⟩ = some u3 ∧ w.cell? ⟨b, 4, none⟩ = some u4 ∧ w.cell? ⟨b, 5, none⟩ = some u5) ∧ (w.frozen? ⟨b, 0, none⟩ = false ∧ w.frozen? ⟨b, 1, none⟩ = false ∧ w.frozen? ⟨b, 2, none⟩ = false ∧ w.frozen? ⟨b, 3, none⟩ = false ∧ w.frozen? ⟨b, 4, none⟩ = false ∧ w.frozen? ⟨b, 5, none⟩ = false) :=
 ⟨h.six, ⟨(h.2 0 (by simp)).2, (h.2 1 (by simp)).2, (h.2 2 (by simp)).2, (h.2 3 (by simp)).2, (h.2 4 (by simp)).2, (h.2 5 (by simp)).2⟩⟩
theorem cs_res6c {w : World} {R : Nat} {x0 x1 x2 x3 x4 x5 : Value} (h : Cs w R [x0, x1, x2, x3, x4, x5]) (u0 u1 u2 u3 u4 u5 : Value) :
  Cs ((((((w.setCell ⟨R, 0, none⟩ u0).setCell ⟨R, 1, none⟩ u1).setCell ⟨R, 2, none⟩ u2).setCell ⟨R, 3, none⟩ u3).setCell ⟨R, 4, none⟩ u4).setCell ⟨R, 5, none⟩ u5) R [u0, u1, u2, u3, u4, u5] :=
 ((((((h.set 0 u0).set 1 u1).set 2 u2).set 3 u3).set 4 u4).set 5 u5)
theorem grown_res6c {w w' : World} {r : Option Nat} (h : w.grownBy w' r) {R : Nat} (hR : w.heap.size ≤ R) (u0 u1 u2 u3 u4 u5 : Value) :
  w.grownBy ((((((w'.setCell ⟨R, 0, none⟩ u0).setCell ⟨R, 1, none⟩ u1).setCell ⟨R, 2, none⟩ u2).setCell ⟨R, 3, none⟩ u3).setCell ⟨R, 4, none⟩ u4).setCell ⟨R, 5, none⟩ u5) r := by
 have f : ∀ {W : World} (j : Nat) (u : Value), w.grownBy W r → w.grownBy (W.setCell ⟨R, j, none⟩ u) r := fun j u h => grown_trans h (setCell_grown2 _ R j u) (fun q hq => .inr (by cases hq; exact hR))
 exact f _ _ (f _ _ (f _ _ (f _ _ (f _ _ (f _ _ h)))))
theorem cur_res6c {a : Option Addr} {n cap : Nat} {bs : List Int} {g : Nat} {s : CS} {w : World} (h : CurAt a n cap bs g s w) {R : Nat} (hR : g < R) (u0 u1 u2 u3 u4 u5 : Value) :
  CurAt a n cap bs g s ((((((w.setCell ⟨R, 0, none⟩ u0).setCell ⟨R, 1, none⟩ u1).setCell ⟨R, 2, none⟩ u2).setCell ⟨R, 3, none⟩ u3).setCell ⟨R, 4, none⟩ u4).setCell ⟨R, 5, none⟩ u5) := by
 have f : ∀ {W : World} (j : Nat) (u : Value), CurAt a n cap bs g s W → CurAt a n cap bs g s (W.setCell ⟨R, j, none⟩ u) := fun j u h => h.grown (setCell_grown2 _ R j u) (fun q hq => by cases hq; exact hR)
 exact f _ _ (f _ _ (f _ _ (f _ _ (f _ _ (f _ _ h)))))
theorem ret_l6Call {Post : Ending → World → Prop} {a : Act} {wf : World} {R : Nat} {kd dir : Int} {nm : ByteArray} {tt : Int} {sa dt : ByteArray} (hc : Cs wf R [.int .i64 kd, .int .i64 dir, .string nm, .int .i64 tt, .string sa, .string dt]) (h2 : a.tmps[4]?.getD undef = .pointer (some ⟨R, 0, none⟩)) (hd : a.defers = [])
  (hp : Post (.returned (.agg #[.int .i64 kd, .int .i64 dir, .string nm, .int .i64 tt, .string sa, .string dt])) wf) : bodyPost Try.prog Try.f19 Post Exit.ret a wf := by
 obtain ⟨r0, r1, r2, r3, r4, r5⟩ := hc.six
 exact bodyPost_ret (v := .agg #[.int .i64 kd, .int .i64 dir, .string nm, .int .i64 tt, .string sa, .string dt]) (by simp [results, Try.results19, go_sem, h2, r0, r1, r2, r3, r4, r5]) hd hp
set_option maxRecDepth 1000000 in
set_option maxHeartbeats 40000000 in
theorem l6Call_any (a : Option Addr) (n cap : Nat) (bs : List Int) (g : Nat) (s : CS) (B : Nat) (W0 : World) (next : Int) (va : Option Addr) (vcap : Nat) (m : List InoP) (w : World) (hC : CurAt a n cap bs g s w) (h : VolOwn B W0 va vcap m w) (hgB : g < B) (hi : Inv d0 next (xs m)) :
  Calls Try.prog 19 #[.pointer (some ⟨g, 0, none⟩), .agg #[.int .i64 next, .slice va m.length vcap]] w (DrewCall a n cap bs g w) := by
 have hsm := inv_small hi
 have hpos := inv_pos hi
 have hml : m.length ≤ 100000 := by have := hsm.1; omega
 have HSZ : Hid (∀ y ∈ m, y.x.ents.length ≤ 100000 ∧ ∀ e ∈ y.x.ents, e.name.size ≤ 1073741824) := Lib.hid (fun y hy => ⟨by have := (hsm.2 y hy).1; omega, (hsm.2 y hy).2⟩)
 have hglt := hC.lt
 have hBw := h.top.base
 have hbl0 := fun q hq => h.bl q hq
 obtain ⟨V0, hV0⟩ : ∃ V0, V0 = (w.alloc (.cells #[.int .i64 next, .slice va m.length vcap] 37)).alloc (.cells #[.int .i64 0, .int .i64 0, .string ⟨#[]⟩, .int .i64 0, .string ⟨#[]⟩, .string ⟨#[]⟩] 56) := ⟨_, rfl⟩
 have hs2 : w.heap.size + 2 = V0.heap.size := by rw [hV0]; simp
 have HVB : Hid (Cs V0 w.heap.size [.int .i64 next, .slice va m.length vcap]) := Lib.hid (by rw [hV0]; exact (cs_new w 37 #[.int .i64 next, .slice va m.length vcap]).alloc (.cells #[.int .i64 0, .int .i64 0, .string ⟨#[]⟩, .int .i64 0, .string ⟨#[]⟩, .string ⟨#[]⟩] 56))
 have HR : Hid (Cs V0 (w.heap.size + 1) [.int .i64 0, .int .i64 0, .string ⟨#[]⟩, .int .i64 0, .string ⟨#[]⟩, .string ⟨#[]⟩]) := Lib.hid (by rw [hV0]; have := cs_new (w.alloc (.cells #[.int .i64 next, .slice va m.length vcap] 37)) 56 #[.int .i64 0, .int .i64 0, .string ⟨#[]⟩, .int .i64 0, .string ⟨#[]⟩, .string ⟨#[]⟩]; simpa using this)
 have HC : Hid (CurAt a n cap bs g s V0) := Lib.hid (by rw [hV0]; exact (hC.alloc _).alloc _)
 have HG : Hid (w.grownBy V0 (some g)) := Lib.hid (by rw [hV0]; exact (World.grownBy_alloc w _ (some g)).trans (World.grownBy_alloc _ _ (some g)))
 have HV : Hid (VolOwn B V0 va vcap m V0) := Lib.hid (by rw [hV0]; exact ((h.alloc _).alloc _).self)
 have hs3 : w.heap.size + 2 ≤ V0.heap.size := by omega
 have HS2 : Hid (w.heap.size + 1 + 1 = V0.heap.size) := Lib.hid hs2
 clear h hsm hi hC hs2
 go_enter Try.func19, Try.ntmps19
 go_wp2_with fail
 rw [← hV0]
 clear hV0
 generalize hwp : V0.alloc (.cells #[.int .i64 1, .int .i64 1, .int .i64 1, .int .i64 2, .int .i64 2, .int .i64 3, .int .i64 4, .int .i64 5, .int .i64 6, .int .i64 6, .int .i64 6, .int .i64 7, .int .i64 7, .int .i64 8] 3) = wp at *
 have hpl : Below V0.heap.size V0 wp := by rw [← hwp]; exact boxA _ _
 have hrp : Rd wp (some ⟨w.heap.size + 1 + 1, 0, none⟩) 14 14 1 (ints [1, 1, 1, 2, 2, 3, 4, 5, 6, 6, 6, 7, 7, 8]) := by rw [HS2.out, ← hwp]; exact lit_rd (news := (ints [1, 1, 1, 2, 2, 3, 4, 5, 6, 6, 6, 7, 7, 8]).toArray) rfl (by decide)
 clear hwp
 have HCp := Lib.hid (HC.out.kept hpl)
 refine (l1PickInt_any a n cap bs g _ _ 14 14 [1, 1, 1, 2, 2, 3, 4, 5, 6, 6, 6, 7, 7, 8] _ HCp.out hrp (fun x hx => by cases hx; dsimp only; omega) (by omega) (by omega)).mono ?_
 rintro e w3 ⟨rfl, hC1, hG1⟩
 have hgg := (grown_of_below (some g) hpl).trans hG1
 have hz3 : V0.heap.size ≤ w3.heap.size := hgg.size
 obtain ⟨xb, hxb⟩ : ∃ xb, xb = w3.heap.size := ⟨_, rfl⟩
 simp only at hC1 ⊢
 generalize ([1, 1, 1, 2, 2, 3, 4, 5, 6, 6, 6, 7, 7, 8] : List Int).getD _ 0 = kd at *
 generalize (belowF bs 14 s).2 = s3 at *
 have HC2 := Lib.hid (hC1.alloc (.cells #[.int .i64 kd, .int .i64 0, .string ⟨#[]⟩, .int .i64 0, .string ⟨#[]⟩, .string ⟨#[]⟩] 56))
 have HG2 := Lib.hid ((HG.out.trans hgg).trans (World.grownBy_alloc w3 (.cells #[.int .i64 kd, .int .i64 0, .string ⟨#[]⟩, .int .i64 0, .string ⟨#[]⟩, .string ⟨#[]⟩] 56) (some g)))
 have HX2 : Hid (Cs (w3.alloc (.cells #[.int .i64 kd, .int .i64 0, .string ⟨#[]⟩, .int .i64 0, .string ⟨#[]⟩, .string ⟨#[]⟩] 56)) xb [.int .i64 kd, .int .i64 0, .string ⟨#[]⟩, .int .i64 0, .string ⟨#[]⟩, .string ⟨#[]⟩]) := Lib.hid (by rw [hxb]; exact cs_new w3 56 #[.int .i64 kd, .int .i64 0, .string ⟨#[]⟩, .int .i64 0, .string ⟨#[]⟩, .string ⟨#[]⟩])
 have HVB2 := Lib.hid ((HVB.out.grown hgg (by simp; omega)).alloc (.cells #[.int .i64 kd, .int .i64 0, .string ⟨#[]⟩, .int .i64 0, .string ⟨#[]⟩, .string ⟨#[]⟩] 56))
 have HR2 := Lib.hid ((HR.out.grown hgg (by simp; omega)).alloc (.cells #[.int .i64 kd, .int .i64 0, .string ⟨#[]⟩, .int .i64 0, .string ⟨#[]⟩, .string ⟨#[]⟩] 56))
 have HV2 := Lib.hid (((HV.out.low hgg (fun q hq e => by have := (HV.out.bl q hq).1; have := Option.some.inj e; omega)).alloc (.cells #[.int .i64 kd, .int .i64 0, .string ⟨#[]⟩, .int .i64 0, .string ⟨#[]⟩, .string ⟨#[]⟩] 56)).self)
 have hbne : ∀ q, VolBl va vcap m q → q ≠ xb := fun q hq => by have := (hbl0 q hq).2; omega
 clear hC1 hG1 hgg hrp hpl HCp HC HG HVB HR HV
 have HX := Lib.hid HX2.out
 have HV := Lib.hid HV2.out
 have HVB := Lib.hid HVB2.out
 have HR := Lib.hid HR2.out
 have HC := Lib.hid HC2.out
 have HG := Lib.hid HG2.out
 clear HX2 HV2 HVB2 HR2 HC2 HG2
 go_upto_region 2 with fail
 rw [← hxb]
 generalize w3.alloc (.cells #[.int .i64 kd, .int .i64 0, .string ⟨#[]⟩, .int .i64 0, .string ⟨#[]⟩, .string ⟨#[]⟩] 56) = w4 at *
 have hxw : w.heap.size + 1 < xb := by omega
 have hgx : g < xb := by omega
 clear hxb hs3 hz3
 obtain ⟨⟨x0, x1, x2, x3, x4, x5⟩, fx0, fx1, fx2, fx3, fx4, fx5⟩ := HX.out.six2
 obtain ⟨⟨v0, v1⟩, -⟩ := HVB.out.two
 obtain ⟨⟨r0, r1, r2, r3, r4, r5⟩, fr0, fr1, fr2, fr3, fr4, fr5⟩ := HR.out.six2
 go_wp2_with fail
 refine (l6Where_any a n cap bs g _ B _ next va vcap m _ HC.out HV.out hgB hpos hml HSZ.out).mono ?_
 rintro e w11 ⟨dr11, nm11, cs11, rfl, hnm11, hC1, hG1⟩
 have HC11 := Lib.hid hC1
 have HG11 := Lib.hid (HG.out.trans hG1)
 have HX11 := Lib.hid (HX.out.grown hG1 (by simp; omega))
 have HVB11 := Lib.hid (HVB.out.grown hG1 (by simp; omega))
 have HR11 := Lib.hid (HR.out.grown hG1 (by simp; omega))
 have HV11 := Lib.hid (HV.out.low hG1 (fun q hq e => by have := (HV.out.bl q hq).1; have := Option.some.inj e; omega))
 clear hC1 hG1 HC HG HX HVB HR HV
 have HX := Lib.hid HX11.out
 have HV := Lib.hid HV11.out
 have HVB := Lib.hid HVB11.out
 have HR := Lib.hid HR11.out
 have HC := Lib.hid HC11.out
 have HG := Lib.hid HG11.out
 clear HX11 HV11 HVB11 HR11 HC11 HG11
 clear x0 x1 x2 x3 x4 x5 fx0 fx1 fx2 fx3 fx4 fx5 v0 v1 r0 r1 r2 r3 r4 r5 fr0 fr1 fr2 fr3 fr4 fr5
 obtain ⟨⟨x0, x1, x2, x3, x4, x5⟩, fx0, fx1, fx2, fx3, fx4, fx5⟩ := HX.out.six2
 obtain ⟨⟨v0, v1⟩, -⟩ := HVB.out.two
 obtain ⟨⟨r0, r1, r2, r3, r4, r5⟩, fr0, fr1, fr2, fr3, fr4, fr5⟩ := HR.out.six2
 go_upto_region 4 with fail
 clear x0 x1 x2 x3 x4 x5 fx0 fx1 fx2 fx3 fx4 fx5 v0 v1 r0 r1 r2 r3 r4 r5 fr0 fr1 fr2 fr3 fr4 fr5
 have HC12 := Lib.hid (HC.out.grown (setCell_grown2 w11 xb 1 (.int .i64 dr11)) (fun q hq => by cases hq; omega))
 have HG12 := Lib.hid (grown_trans HG.out (setCell_grown2 w11 xb 1 (.int .i64 dr11)) (fun q hq => .inr (by cases hq; omega)))
 have HX12 := Lib.hid (HX.out.set 1 (.int .i64 dr11))
 have HVB12 := Lib.hid (HVB.out.far (g := xb) (j := 1) (u := .int .i64 dr11) (by omega))
 have HR12 := Lib.hid (HR.out.far (g := xb) (j := 1) (u := .int .i64 dr11) (by omega))
 have HV12 := Lib.hid (HV.out.low (setCell_grown2 w11 xb 1 (.int .i64 dr11)) (fun q hq e => hbne q hq (Option.some.inj e).symm))
 clear HC HG HX HVB HR HV
 have HX := Lib.hid HX12.out
 have HV := Lib.hid HV12.out
 have HVB := Lib.hid HVB12.out
 have HR := Lib.hid HR12.out
 have HC := Lib.hid HC12.out
 have HG := Lib.hid HG12.out
 clear HX12 HV12 HVB12 HR12 HC12 HG12
 generalize (w11.setCell ⟨xb, 1, none⟩ (.int .i64 dr11)) = w12 at *
 obtain ⟨⟨x0, x1, x2, x3, x4, x5⟩, fx0, fx1, fx2, fx3, fx4, fx5⟩ := HX.out.six2
 obtain ⟨⟨v0, v1⟩, -⟩ := HVB.out.two
 obtain ⟨⟨r0, r1, r2, r3, r4, r5⟩, fr0, fr1, fr2, fr3, fr4, fr5⟩ := HR.out.six2
 go_upto_block 0 with fail
 clear x0 x1 x2 x3 x4 x5 fx0 fx1 fx2 fx3 fx4 fx5 v0 v1 r0 r1 r2 r3 r4 r5 fr0 fr1 fr2 fr3 fr4 fr5
 have HC13 := Lib.hid (HC.out.grown (setCell_grown2 w12 xb 2 (.string nm11)) (fun q hq => by cases hq; omega))
 have HG13 := Lib.hid (grown_trans HG.out (setCell_grown2 w12 xb 2 (.string nm11)) (fun q hq => .inr (by cases hq; omega)))
 have HX13 := Lib.hid (HX.out.set 2 (.string nm11))
 have HVB13 := Lib.hid (HVB.out.far (g := xb) (j := 2) (u := .string nm11) (by omega))
 have HR13 := Lib.hid (HR.out.far (g := xb) (j := 2) (u := .string nm11) (by omega))
 have HV13 := Lib.hid (HV.out.low (setCell_grown2 w12 xb 2 (.string nm11)) (fun q hq e => hbne q hq (Option.some.inj e).symm))
 clear HC HG HX HVB HR HV
 have HX := Lib.hid HX13.out
 have HV := Lib.hid HV13.out
 have HVB := Lib.hid HVB13.out
 have HR := Lib.hid HR13.out
 have HC := Lib.hid HC13.out
 have HG := Lib.hid HG13.out
 clear HX13 HV13 HVB13 HR13 HC13 HG13
 generalize (w12.setCell ⟨xb, 2, none⟩ (.string nm11)) = w13 at *
 obtain ⟨⟨x0, x1, x2, x3, x4, x5⟩, fx0, fx1, fx2, fx3, fx4, fx5⟩ := HX.out.six2
 obtain ⟨⟨v0, v1⟩, -⟩ := HVB.out.two
 obtain ⟨⟨r0, r1, r2, r3, r4, r5⟩, fr0, fr1, fr2, fr3, fr4, fr5⟩ := HR.out.six2
 go_cut [] from 10 (fun wx => ∃ (d3 : Int) (n4 t5 : ByteArray) (cs5 : CS) (W9 : World), Hid (CurAt a n cap bs g cs5 wx) ∧ Hid (w.grownBy wx (some g)) ∧ Hid (Cs wx xb [.int .i64 kd, .int .i64 dr11, .string nm11, .int .i64 d3, .string n4, .string t5]) ∧ Hid (Cs wx w.heap.size [.int .i64 next, .slice va m.length vcap]) ∧ Hid (Cs wx (w.heap.size + 1) [.int .i64 0, .int .i64 0, .string ⟨#[]⟩, .int .i64 0, .string ⟨#[]⟩, .string ⟨#[]⟩]) ∧ Hid (VolOwn B W9 va vcap m wx) ∧ n4.size ≤ 1500000000 ∧ t5.size ≤ 1500000000)
 case first =>
  by_cases hk5 : kd = 5
  ·have hk : (kd == 5) = true := by simp [hk5]
   go_upto_region 8 with fail
   go_wp2_with fail
   refine (l6Where_any a n cap bs g _ B _ next va vcap m _ HC.out HV.out hgB hpos hml HSZ.out).mono ?_
   rintro e w14 ⟨dr14, nm14, cs14, rfl, hnm14, hC1, hG1⟩
   have HC14 := Lib.hid hC1
   have HG14 := Lib.hid (HG.out.trans hG1)
   have HX14 := Lib.hid (HX.out.grown hG1 (by simp; omega))
   have HVB14 := Lib.hid (HVB.out.grown hG1 (by simp; omega))
   have HR14 := Lib.hid (HR.out.grown hG1 (by simp; omega))
   have HV14 := Lib.hid (HV.out.low hG1 (fun q hq e => by have := (HV.out.bl q hq).1; have := Option.some.inj e; omega))
   clear hC1 hG1 HC HG HX HVB HR HV
   have HX := Lib.hid HX14.out
   have HV := Lib.hid HV14.out
   have HVB := Lib.hid HVB14.out
   have HR := Lib.hid HR14.out
   have HC := Lib.hid HC14.out
   have HG := Lib.hid HG14.out
   clear HX14 HV14 HVB14 HR14 HC14 HG14
   clear x0 x1 x2 x3 x4 x5 fx0 fx1 fx2 fx3 fx4 fx5 v0 v1 r0 r1 r2 r3 r4 r5 fr0 fr1 fr2 fr3 fr4 fr5
   obtain ⟨⟨x0, x1, x2, x3, x4, x5⟩, fx0, fx1, fx2, fx3, fx4, fx5⟩ := HX.out.six2
   obtain ⟨⟨v0, v1⟩, -⟩ := HVB.out.two
   obtain ⟨⟨r0, r1, r2, r3, r4, r5⟩, fr0, fr1, fr2, fr3, fr4, fr5⟩ := HR.out.six2
   go_upto_region 10 with fail
   clear x0 x1 x2 x3 x4 x5 fx0 fx1 fx2 fx3 fx4 fx5 v0 v1 r0 r1 r2 r3 r4 r5 fr0 fr1 fr2 fr3 fr4 fr5
   have HC15 := Lib.hid (HC.out.grown (setCell_grown2 w14 xb 3 (.int .i64 dr14)) (fun q hq => by cases hq; omega))
   have HG15 := Lib.hid (grown_trans HG.out (setCell_grown2 w14 xb 3 (.int .i64 dr14)) (fun q hq => .inr (by cases hq; omega)))
   have HX15 := Lib.hid (HX.out.set 3 (.int .i64 dr14))
   have HVB15 := Lib.hid (HVB.out.far (g := xb) (j := 3) (u := .int .i64 dr14) (by omega))
   have HR15 := Lib.hid (HR.out.far (g := xb) (j := 3) (u := .int .i64 dr14) (by omega))
   have HV15 := Lib.hid (HV.out.low (setCell_grown2 w14 xb 3 (.int .i64 dr14)) (fun q hq e => hbne q hq (Option.some.inj e).symm))
   clear HC HG HX HVB HR HV
   have HX := Lib.hid HX15.out
   have HV := Lib.hid HV15.out
   have HVB := Lib.hid HVB15.out
   have HR := Lib.hid HR15.out
   have HC := Lib.hid HC15.out
   have HG := Lib.hid HG15.out
   clear HX15 HV15 HVB15 HR15 HC15 HG15
   generalize (w14.setCell ⟨xb, 3, none⟩ (.int .i64 dr14)) = w15 at *
   obtain ⟨⟨x0, x1, x2, x3, x4, x5⟩, fx0, fx1, fx2, fx3, fx4, fx5⟩ := HX.out.six2
   obtain ⟨⟨v0, v1⟩, -⟩ := HVB.out.two
   obtain ⟨⟨r0, r1, r2, r3, r4, r5⟩, fr0, fr1, fr2, fr3, fr4, fr5⟩ := HR.out.six2
   go_upto_region 11 with fail
   clear x0 x1 x2 x3 x4 x5 fx0 fx1 fx2 fx3 fx4 fx5 v0 v1 r0 r1 r2 r3 r4 r5 fr0 fr1 fr2 fr3 fr4 fr5
   have HC16 := Lib.hid (HC.out.grown (setCell_grown2 w15 xb 4 (.string nm14)) (fun q hq => by cases hq; omega))
   have HG16 := Lib.hid (grown_trans HG.out (setCell_grown2 w15 xb 4 (.string nm14)) (fun q hq => .inr (by cases hq; omega)))
   have HX16 := Lib.hid (HX.out.set 4 (.string nm14))
   have HVB16 := Lib.hid (HVB.out.far (g := xb) (j := 4) (u := .string nm14) (by omega))
   have HR16 := Lib.hid (HR.out.far (g := xb) (j := 4) (u := .string nm14) (by omega))
   have HV16 := Lib.hid (HV.out.low (setCell_grown2 w15 xb 4 (.string nm14)) (fun q hq e => hbne q hq (Option.some.inj e).symm))
   clear HC HG HX HVB HR HV
   have HX := Lib.hid HX16.out
   have HV := Lib.hid HV16.out
   have HVB := Lib.hid HVB16.out
   have HR := Lib.hid HR16.out
   have HC := Lib.hid HC16.out
   have HG := Lib.hid HG16.out
   clear HX16 HV16 HVB16 HR16 HC16 HG16
   generalize (w15.setCell ⟨xb, 4, none⟩ (.string nm14)) = w16 at *
   obtain ⟨⟨x0, x1, x2, x3, x4, x5⟩, fx0, fx1, fx2, fx3, fx4, fx5⟩ := HX.out.six2
   obtain ⟨⟨v0, v1⟩, -⟩ := HVB.out.two
   obtain ⟨⟨r0, r1, r2, r3, r4, r5⟩, fr0, fr1, fr2, fr3, fr4, fr5⟩ := HR.out.six2
   go_wp2_with fail
   refine (l1Once_any a n cap bs g _ 4 _ HC.out (by omega)).mono ?_
   rintro e w17 ⟨rfl, hC1, hG1⟩
   have HC17 := Lib.hid hC1
   have HG17 := Lib.hid (HG.out.trans hG1)
   have HX17 := Lib.hid (HX.out.grown hG1 (by simp; omega))
   have HVB17 := Lib.hid (HVB.out.grown hG1 (by simp; omega))
   have HR17 := Lib.hid (HR.out.grown hG1 (by simp; omega))
   have HV17 := Lib.hid (HV.out.low hG1 (fun q hq e => by have := (HV.out.bl q hq).1; have := Option.some.inj e; omega))
   clear hC1 hG1 HC HG HX HVB HR HV
   have HX := Lib.hid HX17.out
   have HV := Lib.hid HV17.out
   have HVB := Lib.hid HVB17.out
   have HR := Lib.hid HR17.out
   have HC := Lib.hid HC17.out
   have HG := Lib.hid HG17.out
   clear HX17 HV17 HVB17 HR17 HC17 HG17
   clear x0 x1 x2 x3 x4 x5 fx0 fx1 fx2 fx3 fx4 fx5 v0 v1 r0 r1 r2 r3 r4 r5 fr0 fr1 fr2 fr3 fr4 fr5
   obtain ⟨⟨x0, x1, x2, x3, x4, x5⟩, fx0, fx1, fx2, fx3, fx4, fx5⟩ := HX.out.six2
   obtain ⟨⟨v0, v1⟩, -⟩ := HVB.out.two
   obtain ⟨⟨r0, r1, r2, r3, r4, r5⟩, fr0, fr1, fr2, fr3, fr4, fr5⟩ := HR.out.six2
   generalize ((belowF bs 4 _).1 == 0) = t4 at *
   generalize (belowF bs 4 _).2 = s4 at *
   cases t4 with
   | false =>
    go_wp2_with fail
    go_meet
    exact ⟨_, _, _, _, _, HC, HG, HX, HVB, HR, HV, (by omega), (by decide)⟩
   | true =>
    go_upto_region 13 with fail
    clear x0 x1 x2 x3 x4 x5 fx0 fx1 fx2 fx3 fx4 fx5 v0 v1 r0 r1 r2 r3 r4 r5 fr0 fr1 fr2 fr3 fr4 fr5
    have HC18 := Lib.hid (HC.out.grown (setCell_grown2 w17 xb 3 (.int .i64 dr11)) (fun q hq => by cases hq; omega))
    have HG18 := Lib.hid (grown_trans HG.out (setCell_grown2 w17 xb 3 (.int .i64 dr11)) (fun q hq => .inr (by cases hq; omega)))
    have HX18 := Lib.hid (HX.out.set 3 (.int .i64 dr11))
    have HVB18 := Lib.hid (HVB.out.far (g := xb) (j := 3) (u := .int .i64 dr11) (by omega))
    have HR18 := Lib.hid (HR.out.far (g := xb) (j := 3) (u := .int .i64 dr11) (by omega))
    have HV18 := Lib.hid (HV.out.low (setCell_grown2 w17 xb 3 (.int .i64 dr11)) (fun q hq e => hbne q hq (Option.some.inj e).symm))
    clear HC HG HX HVB HR HV
    have HX := Lib.hid HX18.out
    have HV := Lib.hid HV18.out
    have HVB := Lib.hid HVB18.out
    have HR := Lib.hid HR18.out
    have HC := Lib.hid HC18.out
    have HG := Lib.hid HG18.out
    clear HX18 HV18 HVB18 HR18 HC18 HG18
    generalize (w17.setCell ⟨xb, 3, none⟩ (.int .i64 dr11)) = w18 at *
    obtain ⟨⟨x0, x1, x2, x3, x4, x5⟩, fx0, fx1, fx2, fx3, fx4, fx5⟩ := HX.out.six2
    obtain ⟨⟨v0, v1⟩, -⟩ := HVB.out.two
    obtain ⟨⟨r0, r1, r2, r3, r4, r5⟩, fr0, fr1, fr2, fr3, fr4, fr5⟩ := HR.out.six2
    go_wp2_with fail
    refine (l4Name_any a n cap bs g _ _ HC.out).mono ?_
    rintro e w19 ⟨⟨nz, cz⟩, hnz, rfl, hC1, hG1⟩
    dsimp only at hnz hC1 ⊢
    have HC19 := Lib.hid hC1
    have HG19 := Lib.hid (HG.out.trans hG1)
    have HX19 := Lib.hid (HX.out.grown hG1 (by simp; omega))
    have HVB19 := Lib.hid (HVB.out.grown hG1 (by simp; omega))
    have HR19 := Lib.hid (HR.out.grown hG1 (by simp; omega))
    have HV19 := Lib.hid (HV.out.low hG1 (fun q hq e => by have := (HV.out.bl q hq).1; have := Option.some.inj e; omega))
    clear hC1 hG1 HC HG HX HVB HR HV
    have HX := Lib.hid HX19.out
    have HV := Lib.hid HV19.out
    have HVB := Lib.hid HVB19.out
    have HR := Lib.hid HR19.out
    have HC := Lib.hid HC19.out
    have HG := Lib.hid HG19.out
    clear HX19 HV19 HVB19 HR19 HC19 HG19
    clear x0 x1 x2 x3 x4 x5 fx0 fx1 fx2 fx3 fx4 fx5 v0 v1 r0 r1 r2 r3 r4 r5 fr0 fr1 fr2 fr3 fr4 fr5
    obtain ⟨⟨x0, x1, x2, x3, x4, x5⟩, fx0, fx1, fx2, fx3, fx4, fx5⟩ := HX.out.six2
    obtain ⟨⟨v0, v1⟩, -⟩ := HVB.out.two
    obtain ⟨⟨r0, r1, r2, r3, r4, r5⟩, fr0, fr1, fr2, fr3, fr4, fr5⟩ := HR.out.six2
    go_wp2_with fail
    go_meet
    exact ⟨_, _, _, _, _, Lib.hid (HC.out.grown (setCell_grown2 w19 xb 4 (.string nz)) (fun q hq => by cases hq; omega)), Lib.hid (grown_trans HG.out (setCell_grown2 w19 xb 4 (.string nz)) (fun q hq => .inr (by cases hq; omega))), Lib.hid (HX.out.set 4 (.string nz)), Lib.hid (HVB.out.far (g := xb) (j := 4) (u := .string nz) (by omega)), Lib.hid (HR.out.far (g := xb) (j := 4) (u := .string nz) (by omega)), Lib.hid (HV.out.low (setCell_grown2 w19 xb 4 (.string nz)) (fun q hq e => hbne q hq (Option.some.inj e).symm)), (by omega), (by decide)⟩
  by_cases hk6 : kd = 6
  ·have hk : (kd == 6) = true ∧ (kd == 5) = false := by simp [hk6]
   obtain ⟨hka, hkb⟩ := hk
   go_upto_region 8 with fail
   go_wp2_with fail
   refine (l6Where_any a n cap bs g _ B _ next va vcap m _ HC.out HV.out hgB hpos hml HSZ.out).mono ?_
   rintro e w20 ⟨dr20, nm20, cs20, rfl, hnm20, hC1, hG1⟩
   have HC20 := Lib.hid hC1
   have HG20 := Lib.hid (HG.out.trans hG1)
   have HX20 := Lib.hid (HX.out.grown hG1 (by simp; omega))
   have HVB20 := Lib.hid (HVB.out.grown hG1 (by simp; omega))
   have HR20 := Lib.hid (HR.out.grown hG1 (by simp; omega))
   have HV20 := Lib.hid (HV.out.low hG1 (fun q hq e => by have := (HV.out.bl q hq).1; have := Option.some.inj e; omega))
   clear hC1 hG1 HC HG HX HVB HR HV
   have HX := Lib.hid HX20.out
   have HV := Lib.hid HV20.out
   have HVB := Lib.hid HVB20.out
   have HR := Lib.hid HR20.out
   have HC := Lib.hid HC20.out
   have HG := Lib.hid HG20.out
   clear HX20 HV20 HVB20 HR20 HC20 HG20
   clear x0 x1 x2 x3 x4 x5 fx0 fx1 fx2 fx3 fx4 fx5 v0 v1 r0 r1 r2 r3 r4 r5 fr0 fr1 fr2 fr3 fr4 fr5
   obtain ⟨⟨x0, x1, x2, x3, x4, x5⟩, fx0, fx1, fx2, fx3, fx4, fx5⟩ := HX.out.six2
   obtain ⟨⟨v0, v1⟩, -⟩ := HVB.out.two
   obtain ⟨⟨r0, r1, r2, r3, r4, r5⟩, fr0, fr1, fr2, fr3, fr4, fr5⟩ := HR.out.six2
   go_upto_region 10 with fail
   clear x0 x1 x2 x3 x4 x5 fx0 fx1 fx2 fx3 fx4 fx5 v0 v1 r0 r1 r2 r3 r4 r5 fr0 fr1 fr2 fr3 fr4 fr5
   have HC21 := Lib.hid (HC.out.grown (setCell_grown2 w20 xb 3 (.int .i64 dr20)) (fun q hq => by cases hq; omega))
   have HG21 := Lib.hid (grown_trans HG.out (setCell_grown2 w20 xb 3 (.int .i64 dr20)) (fun q hq => .inr (by cases hq; omega)))
   have HX21 := Lib.hid (HX.out.set 3 (.int .i64 dr20))
   have HVB21 := Lib.hid (HVB.out.far (g := xb) (j := 3) (u := .int .i64 dr20) (by omega))
   have HR21 := Lib.hid (HR.out.far (g := xb) (j := 3) (u := .int .i64 dr20) (by omega))
   have HV21 := Lib.hid (HV.out.low (setCell_grown2 w20 xb 3 (.int .i64 dr20)) (fun q hq e => hbne q hq (Option.some.inj e).symm))
   clear HC HG HX HVB HR HV
   have HX := Lib.hid HX21.out
   have HV := Lib.hid HV21.out
   have HVB := Lib.hid HVB21.out
   have HR := Lib.hid HR21.out
   have HC := Lib.hid HC21.out
   have HG := Lib.hid HG21.out
   clear HX21 HV21 HVB21 HR21 HC21 HG21
   generalize (w20.setCell ⟨xb, 3, none⟩ (.int .i64 dr20)) = w21 at *
   obtain ⟨⟨x0, x1, x2, x3, x4, x5⟩, fx0, fx1, fx2, fx3, fx4, fx5⟩ := HX.out.six2
   obtain ⟨⟨v0, v1⟩, -⟩ := HVB.out.two
   obtain ⟨⟨r0, r1, r2, r3, r4, r5⟩, fr0, fr1, fr2, fr3, fr4, fr5⟩ := HR.out.six2
   go_upto_region 11 with fail
   clear x0 x1 x2 x3 x4 x5 fx0 fx1 fx2 fx3 fx4 fx5 v0 v1 r0 r1 r2 r3 r4 r5 fr0 fr1 fr2 fr3 fr4 fr5
   have HC22 := Lib.hid (HC.out.grown (setCell_grown2 w21 xb 4 (.string nm20)) (fun q hq => by cases hq; omega))
   have HG22 := Lib.hid (grown_trans HG.out (setCell_grown2 w21 xb 4 (.string nm20)) (fun q hq => .inr (by cases hq; omega)))
   have HX22 := Lib.hid (HX.out.set 4 (.string nm20))
   have HVB22 := Lib.hid (HVB.out.far (g := xb) (j := 4) (u := .string nm20) (by omega))
   have HR22 := Lib.hid (HR.out.far (g := xb) (j := 4) (u := .string nm20) (by omega))
   have HV22 := Lib.hid (HV.out.low (setCell_grown2 w21 xb 4 (.string nm20)) (fun q hq e => hbne q hq (Option.some.inj e).symm))
   clear HC HG HX HVB HR HV
   have HX := Lib.hid HX22.out
   have HV := Lib.hid HV22.out
   have HVB := Lib.hid HVB22.out
   have HR := Lib.hid HR22.out
   have HC := Lib.hid HC22.out
   have HG := Lib.hid HG22.out
   clear HX22 HV22 HVB22 HR22 HC22 HG22
   generalize (w21.setCell ⟨xb, 4, none⟩ (.string nm20)) = w22 at *
   obtain ⟨⟨x0, x1, x2, x3, x4, x5⟩, fx0, fx1, fx2, fx3, fx4, fx5⟩ := HX.out.six2
   obtain ⟨⟨v0, v1⟩, -⟩ := HVB.out.two
   obtain ⟨⟨r0, r1, r2, r3, r4, r5⟩, fr0, fr1, fr2, fr3, fr4, fr5⟩ := HR.out.six2
   go_wp2_with fail
   refine (l1Once_any a n cap bs g _ 4 _ HC.out (by omega)).mono ?_
   rintro e w23 ⟨rfl, hC1, hG1⟩
   have HC23 := Lib.hid hC1
   have HG23 := Lib.hid (HG.out.trans hG1)
   have HX23 := Lib.hid (HX.out.grown hG1 (by simp; omega))
   have HVB23 := Lib.hid (HVB.out.grown hG1 (by simp; omega))
   have HR23 := Lib.hid (HR.out.grown hG1 (by simp; omega))
   have HV23 := Lib.hid (HV.out.low hG1 (fun q hq e => by have := (HV.out.bl q hq).1; have := Option.some.inj e; omega))
   clear hC1 hG1 HC HG HX HVB HR HV
   have HX := Lib.hid HX23.out
   have HV := Lib.hid HV23.out
   have HVB := Lib.hid HVB23.out
   have HR := Lib.hid HR23.out
   have HC := Lib.hid HC23.out
   have HG := Lib.hid HG23.out
   clear HX23 HV23 HVB23 HR23 HC23 HG23
   clear x0 x1 x2 x3 x4 x5 fx0 fx1 fx2 fx3 fx4 fx5 v0 v1 r0 r1 r2 r3 r4 r5 fr0 fr1 fr2 fr3 fr4 fr5
   obtain ⟨⟨x0, x1, x2, x3, x4, x5⟩, fx0, fx1, fx2, fx3, fx4, fx5⟩ := HX.out.six2
   obtain ⟨⟨v0, v1⟩, -⟩ := HVB.out.two
   obtain ⟨⟨r0, r1, r2, r3, r4, r5⟩, fr0, fr1, fr2, fr3, fr4, fr5⟩ := HR.out.six2
   generalize ((belowF bs 4 _).1 == 0) = t4 at *
   generalize (belowF bs 4 _).2 = s4 at *
   cases t4 with
   | false =>
    go_wp2_with fail
    go_meet
    exact ⟨_, _, _, _, _, HC, HG, HX, HVB, HR, HV, (by omega), (by decide)⟩
   | true =>
    go_upto_region 13 with fail
    clear x0 x1 x2 x3 x4 x5 fx0 fx1 fx2 fx3 fx4 fx5 v0 v1 r0 r1 r2 r3 r4 r5 fr0 fr1 fr2 fr3 fr4 fr5
    have HC24 := Lib.hid (HC.out.grown (setCell_grown2 w23 xb 3 (.int .i64 dr11)) (fun q hq => by cases hq; omega))
    have HG24 := Lib.hid (grown_trans HG.out (setCell_grown2 w23 xb 3 (.int .i64 dr11)) (fun q hq => .inr (by cases hq; omega)))
    have HX24 := Lib.hid (HX.out.set 3 (.int .i64 dr11))
    have HVB24 := Lib.hid (HVB.out.far (g := xb) (j := 3) (u := .int .i64 dr11) (by omega))
    have HR24 := Lib.hid (HR.out.far (g := xb) (j := 3) (u := .int .i64 dr11) (by omega))
    have HV24 := Lib.hid (HV.out.low (setCell_grown2 w23 xb 3 (.int .i64 dr11)) (fun q hq e => hbne q hq (Option.some.inj e).symm))
    clear HC HG HX HVB HR HV
    have HX := Lib.hid HX24.out
    have HV := Lib.hid HV24.out
    have HVB := Lib.hid HVB24.out
    have HR := Lib.hid HR24.out
    have HC := Lib.hid HC24.out
    have HG := Lib.hid HG24.out
    clear HX24 HV24 HVB24 HR24 HC24 HG24
    generalize (w23.setCell ⟨xb, 3, none⟩ (.int .i64 dr11)) = w24 at *
    obtain ⟨⟨x0, x1, x2, x3, x4, x5⟩, fx0, fx1, fx2, fx3, fx4, fx5⟩ := HX.out.six2
    obtain ⟨⟨v0, v1⟩, -⟩ := HVB.out.two
    obtain ⟨⟨r0, r1, r2, r3, r4, r5⟩, fr0, fr1, fr2, fr3, fr4, fr5⟩ := HR.out.six2
    go_wp2_with fail
    refine (l4Name_any a n cap bs g _ _ HC.out).mono ?_
    rintro e w25 ⟨⟨nz, cz⟩, hnz, rfl, hC1, hG1⟩
    dsimp only at hnz hC1 ⊢
    have HC25 := Lib.hid hC1
    have HG25 := Lib.hid (HG.out.trans hG1)
    have HX25 := Lib.hid (HX.out.grown hG1 (by simp; omega))
    have HVB25 := Lib.hid (HVB.out.grown hG1 (by simp; omega))
    have HR25 := Lib.hid (HR.out.grown hG1 (by simp; omega))
    have HV25 := Lib.hid (HV.out.low hG1 (fun q hq e => by have := (HV.out.bl q hq).1; have := Option.some.inj e; omega))
    clear hC1 hG1 HC HG HX HVB HR HV
    have HX := Lib.hid HX25.out
    have HV := Lib.hid HV25.out
    have HVB := Lib.hid HVB25.out
    have HR := Lib.hid HR25.out
    have HC := Lib.hid HC25.out
    have HG := Lib.hid HG25.out
    clear HX25 HV25 HVB25 HR25 HC25 HG25
    clear x0 x1 x2 x3 x4 x5 fx0 fx1 fx2 fx3 fx4 fx5 v0 v1 r0 r1 r2 r3 r4 r5 fr0 fr1 fr2 fr3 fr4 fr5
    obtain ⟨⟨x0, x1, x2, x3, x4, x5⟩, fx0, fx1, fx2, fx3, fx4, fx5⟩ := HX.out.six2
    obtain ⟨⟨v0, v1⟩, -⟩ := HVB.out.two
    obtain ⟨⟨r0, r1, r2, r3, r4, r5⟩, fr0, fr1, fr2, fr3, fr4, fr5⟩ := HR.out.six2
    go_wp2_with fail
    go_meet
    exact ⟨_, _, _, _, _, Lib.hid (HC.out.grown (setCell_grown2 w25 xb 4 (.string nz)) (fun q hq => by cases hq; omega)), Lib.hid (grown_trans HG.out (setCell_grown2 w25 xb 4 (.string nz)) (fun q hq => .inr (by cases hq; omega))), Lib.hid (HX.out.set 4 (.string nz)), Lib.hid (HVB.out.far (g := xb) (j := 4) (u := .string nz) (by omega)), Lib.hid (HR.out.far (g := xb) (j := 4) (u := .string nz) (by omega)), Lib.hid (HV.out.low (setCell_grown2 w25 xb 4 (.string nz)) (fun q hq e => hbne q hq (Option.some.inj e).symm)), (by omega), (by decide)⟩
  by_cases hk7 : kd = 7
  ·have hk : (kd == 7) = true ∧ (kd == 5) = false ∧ (kd == 6) = false := by simp [hk7]
   obtain ⟨hka, hkb, hkc⟩ := hk
   have htz : ((textF bs 8 cs11).1.size : Int) ≤ 8 := textF_size bs 8 _ (by omega)
   go_wp2_with fail
   refine (l1Text_any a n cap bs g _ 8 _ HC.out (by omega) (by omega)).mono ?_
   rintro e w26 ⟨rfl, hC1, hG1⟩
   have HC26 := Lib.hid hC1
   have HG26 := Lib.hid (HG.out.trans hG1)
   have HX26 := Lib.hid (HX.out.grown hG1 (by simp; omega))
   have HVB26 := Lib.hid (HVB.out.grown hG1 (by simp; omega))
   have HR26 := Lib.hid (HR.out.grown hG1 (by simp; omega))
   have HV26 := Lib.hid (HV.out.low hG1 (fun q hq e => by have := (HV.out.bl q hq).1; have := Option.some.inj e; omega))
   clear hC1 hG1 HC HG HX HVB HR HV
   have HX := Lib.hid HX26.out
   have HV := Lib.hid HV26.out
   have HVB := Lib.hid HVB26.out
   have HR := Lib.hid HR26.out
   have HC := Lib.hid HC26.out
   have HG := Lib.hid HG26.out
   clear HX26 HV26 HVB26 HR26 HC26 HG26
   clear x0 x1 x2 x3 x4 x5 fx0 fx1 fx2 fx3 fx4 fx5 v0 v1 r0 r1 r2 r3 r4 r5 fr0 fr1 fr2 fr3 fr4 fr5
   obtain ⟨⟨x0, x1, x2, x3, x4, x5⟩, fx0, fx1, fx2, fx3, fx4, fx5⟩ := HX.out.six2
   obtain ⟨⟨v0, v1⟩, -⟩ := HVB.out.two
   obtain ⟨⟨r0, r1, r2, r3, r4, r5⟩, fr0, fr1, fr2, fr3, fr4, fr5⟩ := HR.out.six2
   generalize (textF bs 8 _).1 = tz at *
   generalize (textF bs 8 _).2 = s8 at *
   go_wp2_with fail
   go_meet
   exact ⟨_, _, _, _, _, Lib.hid (HC.out.grown (setCell_grown2 w26 xb 5 (.string tz)) (fun q hq => by cases hq; omega)), Lib.hid (grown_trans HG.out (setCell_grown2 w26 xb 5 (.string tz)) (fun q hq => .inr (by cases hq; omega))), Lib.hid (HX.out.set 5 (.string tz)), Lib.hid (HVB.out.far (g := xb) (j := 5) (u := .string tz) (by omega)), Lib.hid (HR.out.far (g := xb) (j := 5) (u := .string tz) (by omega)), Lib.hid (HV.out.low (setCell_grown2 w26 xb 5 (.string tz)) (fun q hq e => hbne q hq (Option.some.inj e).symm)), (by decide), (by omega)⟩
  have hk : (kd == 5) = false ∧ (kd == 6) = false ∧ (kd == 7) = false := by simp [hk5, hk6, hk7]
  obtain ⟨hka, hkb, hkc⟩ := hk
  go_wp2_with fail
  go_meet
  exact ⟨_, _, _, _, _, HC, HG, HX, HVB, HR, HV, (by decide), (by decide)⟩
 case rest =>
 clear x0 x1 x2 x3 x4 x5 fx0 fx1 fx2 fx3 fx4 fx5 v0 v1 r0 r1 r2 r3 r4 r5 fr0 fr1 fr2 fr3 fr4 fr5
 clear HC HG HX HVB HR HV
 obtain ⟨d3, n4, t5, cs5, W9, HC, HG, HX, HVB, HR, HV, hz4, hz5⟩ := hcut
 obtain ⟨w90, hw90⟩ : ∃ x : World, x = wc := ⟨_, rfl⟩
 subst hw90
 obtain ⟨⟨x0, x1, x2, x3, x4, x5⟩, fx0, fx1, fx2, fx3, fx4, fx5⟩ := HX.out.six2
 obtain ⟨⟨v0, v1⟩, -⟩ := HVB.out.two
 obtain ⟨⟨r0, r1, r2, r3, r4, r5⟩, fr0, fr1, fr2, fr3, fr4, fr5⟩ := HR.out.six2
 go_wp2_with fail
 refine (l1Once_any a n cap bs g _ 25 _ HC.out (by omega)).mono ?_
 rintro e w27 ⟨rfl, hC1, hG1⟩
 have HC27 := Lib.hid hC1
 have HG27 := Lib.hid (HG.out.trans hG1)
 have HX27 := Lib.hid (HX.out.grown hG1 (by simp; omega))
 have HVB27 := Lib.hid (HVB.out.grown hG1 (by simp; omega))
 have HR27 := Lib.hid (HR.out.grown hG1 (by simp; omega))
 have HV27 := Lib.hid (HV.out.low hG1 (fun q hq e => by have := (HV.out.bl q hq).1; have := Option.some.inj e; omega))
 clear hC1 hG1 HC HG HX HVB HR HV
 have HX := Lib.hid HX27.out
 have HV := Lib.hid HV27.out
 have HVB := Lib.hid HVB27.out
 have HR := Lib.hid HR27.out
 have HC := Lib.hid HC27.out
 have HG := Lib.hid HG27.out
 clear HX27 HV27 HVB27 HR27 HC27 HG27
 clear x0 x1 x2 x3 x4 x5 fx0 fx1 fx2 fx3 fx4 fx5 v0 v1 r0 r1 r2 r3 r4 r5 fr0 fr1 fr2 fr3 fr4 fr5
 obtain ⟨⟨x0, x1, x2, x3, x4, x5⟩, fx0, fx1, fx2, fx3, fx4, fx5⟩ := HX.out.six2
 obtain ⟨⟨v0, v1⟩, -⟩ := HVB.out.two
 obtain ⟨⟨r0, r1, r2, r3, r4, r5⟩, fr0, fr1, fr2, fr3, fr4, fr5⟩ := HR.out.six2
 generalize ((belowF bs 25 _).1 == 0) = t25 at *
 generalize (belowF bs 25 _).2 = s25 at *
 cases t25 with
 | false =>
  have HRX := Lib.hid (HR.out)
  go_wp2
  exact ret_l6Call (cs_res6c HR.out _ _ _ _ _ _) (by rfl) (by rfl) ⟨_, _, _, _, _, _, _, rfl, (by omega), (by omega), (by omega), cur_res6c HC.out (by omega) _ _ _ _ _ _, grown_res6c HG.out (by omega) _ _ _ _ _ _⟩
 | true =>
  have hrz := belowF_range bs 5 s25 (by omega)
  go_wp2_with fail
  refine (l1Below_any a n cap bs g _ 5 _ HC.out (by omega)).mono ?_
  rintro e w28 ⟨rfl, hC1, hG1⟩
  have HC28 := Lib.hid hC1
  have HG28 := Lib.hid (HG.out.trans hG1)
  have HX28 := Lib.hid (HX.out.grown hG1 (by simp; omega))
  have HVB28 := Lib.hid (HVB.out.grown hG1 (by simp; omega))
  have HR28 := Lib.hid (HR.out.grown hG1 (by simp; omega))
  have HV28 := Lib.hid (HV.out.low hG1 (fun q hq e => by have := (HV.out.bl q hq).1; have := Option.some.inj e; omega))
  clear hC1 hG1 HC HG HX HVB HR HV
  have HX := Lib.hid HX28.out
  have HV := Lib.hid HV28.out
  have HVB := Lib.hid HVB28.out
  have HR := Lib.hid HR28.out
  have HC := Lib.hid HC28.out
  have HG := Lib.hid HG28.out
  clear HX28 HV28 HVB28 HR28 HC28 HG28
  clear x0 x1 x2 x3 x4 x5 fx0 fx1 fx2 fx3 fx4 fx5 v0 v1 r0 r1 r2 r3 r4 r5 fr0 fr1 fr2 fr3 fr4 fr5
  obtain ⟨⟨x0, x1, x2, x3, x4, x5⟩, fx0, fx1, fx2, fx3, fx4, fx5⟩ := HX.out.six2
  obtain ⟨⟨v0, v1⟩, -⟩ := HVB.out.two
  obtain ⟨⟨r0, r1, r2, r3, r4, r5⟩, fr0, fr1, fr2, fr3, fr4, fr5⟩ := HR.out.six2
  generalize (belowF bs 5 s25).2 = s26 at *
  generalize (belowF bs 5 s25).1 = z at *
  by_cases hz0 : z = 0
  ·subst hz0
   go_wp2_with fail
   generalize hwp : w28.alloc (.cells #[.int .i64 0, .int .i64 9, .int .i64 (-1)] 3) = wp at *
   have hpl : Below w28.heap.size w28 wp := by rw [← hwp]; exact boxA _ _
   have hrp : Rd wp (some ⟨w28.heap.size, 0, none⟩) 3 3 1 (ints [0, 9, -1]) := by rw [← hwp]; exact lit_rd (news := (ints [0, 9, -1]).toArray) rfl (by decide)
   clear hwp
   have HCp := Lib.hid (HC.out.kept hpl)
   refine (l1PickInt_any a n cap bs g _ _ 3 3 [0, 9, -1] _ HCp.out hrp (fun x hx => by cases hx; have := HC.out.lt; dsimp only; omega) (by omega) (by omega)).mono ?_
   rintro e w29 ⟨rfl, hC1, hG1⟩
   have hgg := (grown_of_below (some g) hpl).trans hG1
   have HC29 := Lib.hid hC1
   have HG29 := Lib.hid (HG.out.trans hgg)
   have HX29 := Lib.hid (HX.out.grown hgg (by simp; omega))
   have HVB29 := Lib.hid (HVB.out.grown hgg (by simp; omega))
   have HR29 := Lib.hid (HR.out.grown hgg (by simp; omega))
   have HV29 := Lib.hid (HV.out.low hgg (fun q hq e => by have := (HV.out.bl q hq).1; have := Option.some.inj e; omega))
   clear hC1 hG1 hgg hrp hpl HCp HC HG HX HVB HR HV
   have HX := Lib.hid HX29.out
   have HV := Lib.hid HV29.out
   have HVB := Lib.hid HVB29.out
   have HR := Lib.hid HR29.out
   have HC := Lib.hid HC29.out
   have HG := Lib.hid HG29.out
   clear HX29 HV29 HVB29 HR29 HC29 HG29
   clear x0 x1 x2 x3 x4 x5 fx0 fx1 fx2 fx3 fx4 fx5 v0 v1 r0 r1 r2 r3 r4 r5 fr0 fr1 fr2 fr3 fr4 fr5
   obtain ⟨⟨x0, x1, x2, x3, x4, x5⟩, fx0, fx1, fx2, fx3, fx4, fx5⟩ := HX.out.six2
   obtain ⟨⟨v0, v1⟩, -⟩ := HVB.out.two
   obtain ⟨⟨r0, r1, r2, r3, r4, r5⟩, fr0, fr1, fr2, fr3, fr4, fr5⟩ := HR.out.six2
   simp only at HC ⊢
   generalize ([0, 9, -1] : List Int).getD _ 0 = pv at *
   generalize (belowF bs 3 s26).2 = s27 at *
   go_upto_region 27 with fail
   clear x0 x1 x2 x3 x4 x5 fx0 fx1 fx2 fx3 fx4 fx5 v0 v1 r0 r1 r2 r3 r4 r5 fr0 fr1 fr2 fr3 fr4 fr5
   have HC30 := Lib.hid (HC.out.grown (setCell_grown2 w29 xb 0 (.int .i64 pv)) (fun q hq => by cases hq; omega))
   have HG30 := Lib.hid (grown_trans HG.out (setCell_grown2 w29 xb 0 (.int .i64 pv)) (fun q hq => .inr (by cases hq; omega)))
   have HX30 := Lib.hid (HX.out.set 0 (.int .i64 pv))
   have HVB30 := Lib.hid (HVB.out.far (g := xb) (j := 0) (u := .int .i64 pv) (by omega))
   have HR30 := Lib.hid (HR.out.far (g := xb) (j := 0) (u := .int .i64 pv) (by omega))
   have HV30 := Lib.hid (HV.out.low (setCell_grown2 w29 xb 0 (.int .i64 pv)) (fun q hq e => hbne q hq (Option.some.inj e).symm))
   clear HC HG HX HVB HR HV
   have HX := Lib.hid HX30.out
   have HV := Lib.hid HV30.out
   have HVB := Lib.hid HVB30.out
   have HR := Lib.hid HR30.out
   have HC := Lib.hid HC30.out
   have HG := Lib.hid HG30.out
   clear HX30 HV30 HVB30 HR30 HC30 HG30
   generalize (w29.setCell ⟨xb, 0, none⟩ (.int .i64 pv)) = w30 at *
   obtain ⟨⟨x0, x1, x2, x3, x4, x5⟩, fx0, fx1, fx2, fx3, fx4, fx5⟩ := HX.out.six2
   obtain ⟨⟨v0, v1⟩, -⟩ := HVB.out.two
   obtain ⟨⟨r0, r1, r2, r3, r4, r5⟩, fr0, fr1, fr2, fr3, fr4, fr5⟩ := HR.out.six2
   have HRX := Lib.hid (HR.out)
   go_wp2
   exact ret_l6Call (cs_res6c HR.out _ _ _ _ _ _) (by rfl) (by rfl) ⟨_, _, _, _, _, _, _, rfl, (by omega), (by omega), (by omega), cur_res6c HC.out (by omega) _ _ _ _ _ _, grown_res6c HG.out (by omega) _ _ _ _ _ _⟩
  by_cases hz1 : z = 1
  ·subst hz1
   go_wp2_with fail
   generalize hwp : w28.alloc (.cells #[.int .i64 (-1), .int .i64 0, .int .i64 99, .int .i64 100001] 3) = wp at *
   have hpl : Below w28.heap.size w28 wp := by rw [← hwp]; exact boxA _ _
   have hrp : Rd wp (some ⟨w28.heap.size, 0, none⟩) 4 4 1 (ints [-1, 0, 99, 100001]) := by rw [← hwp]; exact lit_rd (news := (ints [-1, 0, 99, 100001]).toArray) rfl (by decide)
   clear hwp
   have HCp := Lib.hid (HC.out.kept hpl)
   refine (l1PickInt_any a n cap bs g _ _ 4 4 [-1, 0, 99, 100001] _ HCp.out hrp (fun x hx => by cases hx; have := HC.out.lt; dsimp only; omega) (by omega) (by omega)).mono ?_
   rintro e w31 ⟨rfl, hC1, hG1⟩
   have hgg := (grown_of_below (some g) hpl).trans hG1
   have HC31 := Lib.hid hC1
   have HG31 := Lib.hid (HG.out.trans hgg)
   have HX31 := Lib.hid (HX.out.grown hgg (by simp; omega))
   have HVB31 := Lib.hid (HVB.out.grown hgg (by simp; omega))
   have HR31 := Lib.hid (HR.out.grown hgg (by simp; omega))
   have HV31 := Lib.hid (HV.out.low hgg (fun q hq e => by have := (HV.out.bl q hq).1; have := Option.some.inj e; omega))
   clear hC1 hG1 hgg hrp hpl HCp HC HG HX HVB HR HV
   have HX := Lib.hid HX31.out
   have HV := Lib.hid HV31.out
   have HVB := Lib.hid HVB31.out
   have HR := Lib.hid HR31.out
   have HC := Lib.hid HC31.out
   have HG := Lib.hid HG31.out
   clear HX31 HV31 HVB31 HR31 HC31 HG31
   clear x0 x1 x2 x3 x4 x5 fx0 fx1 fx2 fx3 fx4 fx5 v0 v1 r0 r1 r2 r3 r4 r5 fr0 fr1 fr2 fr3 fr4 fr5
   obtain ⟨⟨x0, x1, x2, x3, x4, x5⟩, fx0, fx1, fx2, fx3, fx4, fx5⟩ := HX.out.six2
   obtain ⟨⟨v0, v1⟩, -⟩ := HVB.out.two
   obtain ⟨⟨r0, r1, r2, r3, r4, r5⟩, fr0, fr1, fr2, fr3, fr4, fr5⟩ := HR.out.six2
   simp only at HC ⊢
   generalize ([-1, 0, 99, 100001] : List Int).getD _ 0 = pv at *
   generalize (belowF bs 4 s26).2 = s27 at *
   go_upto_region 27 with fail
   clear x0 x1 x2 x3 x4 x5 fx0 fx1 fx2 fx3 fx4 fx5 v0 v1 r0 r1 r2 r3 r4 r5 fr0 fr1 fr2 fr3 fr4 fr5
   have HC32 := Lib.hid (HC.out.grown (setCell_grown2 w31 xb 1 (.int .i64 pv)) (fun q hq => by cases hq; omega))
   have HG32 := Lib.hid (grown_trans HG.out (setCell_grown2 w31 xb 1 (.int .i64 pv)) (fun q hq => .inr (by cases hq; omega)))
   have HX32 := Lib.hid (HX.out.set 1 (.int .i64 pv))
   have HVB32 := Lib.hid (HVB.out.far (g := xb) (j := 1) (u := .int .i64 pv) (by omega))
   have HR32 := Lib.hid (HR.out.far (g := xb) (j := 1) (u := .int .i64 pv) (by omega))
   have HV32 := Lib.hid (HV.out.low (setCell_grown2 w31 xb 1 (.int .i64 pv)) (fun q hq e => hbne q hq (Option.some.inj e).symm))
   clear HC HG HX HVB HR HV
   have HX := Lib.hid HX32.out
   have HV := Lib.hid HV32.out
   have HVB := Lib.hid HVB32.out
   have HR := Lib.hid HR32.out
   have HC := Lib.hid HC32.out
   have HG := Lib.hid HG32.out
   clear HX32 HV32 HVB32 HR32 HC32 HG32
   generalize (w31.setCell ⟨xb, 1, none⟩ (.int .i64 pv)) = w32 at *
   obtain ⟨⟨x0, x1, x2, x3, x4, x5⟩, fx0, fx1, fx2, fx3, fx4, fx5⟩ := HX.out.six2
   obtain ⟨⟨v0, v1⟩, -⟩ := HVB.out.two
   obtain ⟨⟨r0, r1, r2, r3, r4, r5⟩, fr0, fr1, fr2, fr3, fr4, fr5⟩ := HR.out.six2
   have HRX := Lib.hid (HR.out)
   go_wp2
   exact ret_l6Call (cs_res6c HR.out _ _ _ _ _ _) (by rfl) (by rfl) ⟨_, _, _, _, _, _, _, rfl, (by omega), (by omega), (by omega), cur_res6c HC.out (by omega) _ _ _ _ _ _, grown_res6c HG.out (by omega) _ _ _ _ _ _⟩
  by_cases hz2 : z = 2
  ·subst hz2
   go_wp2_with fail
   generalize hwp : w28.alloc (.cells #[.int .i64 (-1), .int .i64 1, .int .i64 99] 3) = wp at *
   have hpl : Below w28.heap.size w28 wp := by rw [← hwp]; exact boxA _ _
   have hrp : Rd wp (some ⟨w28.heap.size, 0, none⟩) 3 3 1 (ints [-1, 1, 99]) := by rw [← hwp]; exact lit_rd (news := (ints [-1, 1, 99]).toArray) rfl (by decide)
   clear hwp
   have HCp := Lib.hid (HC.out.kept hpl)
   refine (l1PickInt_any a n cap bs g _ _ 3 3 [-1, 1, 99] _ HCp.out hrp (fun x hx => by cases hx; have := HC.out.lt; dsimp only; omega) (by omega) (by omega)).mono ?_
   rintro e w33 ⟨rfl, hC1, hG1⟩
   have hgg := (grown_of_below (some g) hpl).trans hG1
   have HC33 := Lib.hid hC1
   have HG33 := Lib.hid (HG.out.trans hgg)
   have HX33 := Lib.hid (HX.out.grown hgg (by simp; omega))
   have HVB33 := Lib.hid (HVB.out.grown hgg (by simp; omega))
   have HR33 := Lib.hid (HR.out.grown hgg (by simp; omega))
   have HV33 := Lib.hid (HV.out.low hgg (fun q hq e => by have := (HV.out.bl q hq).1; have := Option.some.inj e; omega))
   clear hC1 hG1 hgg hrp hpl HCp HC HG HX HVB HR HV
   have HX := Lib.hid HX33.out
   have HV := Lib.hid HV33.out
   have HVB := Lib.hid HVB33.out
   have HR := Lib.hid HR33.out
   have HC := Lib.hid HC33.out
   have HG := Lib.hid HG33.out
   clear HX33 HV33 HVB33 HR33 HC33 HG33
   clear x0 x1 x2 x3 x4 x5 fx0 fx1 fx2 fx3 fx4 fx5 v0 v1 r0 r1 r2 r3 r4 r5 fr0 fr1 fr2 fr3 fr4 fr5
   obtain ⟨⟨x0, x1, x2, x3, x4, x5⟩, fx0, fx1, fx2, fx3, fx4, fx5⟩ := HX.out.six2
   obtain ⟨⟨v0, v1⟩, -⟩ := HVB.out.two
   obtain ⟨⟨r0, r1, r2, r3, r4, r5⟩, fr0, fr1, fr2, fr3, fr4, fr5⟩ := HR.out.six2
   simp only at HC ⊢
   generalize ([-1, 1, 99] : List Int).getD _ 0 = pv at *
   generalize (belowF bs 3 s26).2 = s27 at *
   go_upto_region 27 with fail
   clear x0 x1 x2 x3 x4 x5 fx0 fx1 fx2 fx3 fx4 fx5 v0 v1 r0 r1 r2 r3 r4 r5 fr0 fr1 fr2 fr3 fr4 fr5
   have HC34 := Lib.hid (HC.out.grown (setCell_grown2 w33 xb 3 (.int .i64 pv)) (fun q hq => by cases hq; omega))
   have HG34 := Lib.hid (grown_trans HG.out (setCell_grown2 w33 xb 3 (.int .i64 pv)) (fun q hq => .inr (by cases hq; omega)))
   have HX34 := Lib.hid (HX.out.set 3 (.int .i64 pv))
   have HVB34 := Lib.hid (HVB.out.far (g := xb) (j := 3) (u := .int .i64 pv) (by omega))
   have HR34 := Lib.hid (HR.out.far (g := xb) (j := 3) (u := .int .i64 pv) (by omega))
   have HV34 := Lib.hid (HV.out.low (setCell_grown2 w33 xb 3 (.int .i64 pv)) (fun q hq e => hbne q hq (Option.some.inj e).symm))
   clear HC HG HX HVB HR HV
   have HX := Lib.hid HX34.out
   have HV := Lib.hid HV34.out
   have HVB := Lib.hid HVB34.out
   have HR := Lib.hid HR34.out
   have HC := Lib.hid HC34.out
   have HG := Lib.hid HG34.out
   clear HX34 HV34 HVB34 HR34 HC34 HG34
   generalize (w33.setCell ⟨xb, 3, none⟩ (.int .i64 pv)) = w34 at *
   obtain ⟨⟨x0, x1, x2, x3, x4, x5⟩, fx0, fx1, fx2, fx3, fx4, fx5⟩ := HX.out.six2
   obtain ⟨⟨v0, v1⟩, -⟩ := HVB.out.two
   obtain ⟨⟨r0, r1, r2, r3, r4, r5⟩, fr0, fr1, fr2, fr3, fr4, fr5⟩ := HR.out.six2
   have HRX := Lib.hid (HR.out)
   go_wp2
   exact ret_l6Call (cs_res6c HR.out _ _ _ _ _ _) (by rfl) (by rfl) ⟨_, _, _, _, _, _, _, rfl, (by omega), (by omega), (by omega), cur_res6c HC.out (by omega) _ _ _ _ _ _, grown_res6c HG.out (by omega) _ _ _ _ _ _⟩
  by_cases hz3 : z = 3
  ·subst hz3
   go_upto_region 27 with fail
   clear x0 x1 x2 x3 x4 x5 fx0 fx1 fx2 fx3 fx4 fx5 v0 v1 r0 r1 r2 r3 r4 r5 fr0 fr1 fr2 fr3 fr4 fr5
   have HC35 := Lib.hid (HC.out.grown (setCell_grown2 w28 xb 4 (.string ((n4 ++ ⟨#[120]⟩)))) (fun q hq => by cases hq; omega))
   have HG35 := Lib.hid (grown_trans HG.out (setCell_grown2 w28 xb 4 (.string ((n4 ++ ⟨#[120]⟩)))) (fun q hq => .inr (by cases hq; omega)))
   have HX35 := Lib.hid (HX.out.set 4 (.string ((n4 ++ ⟨#[120]⟩))))
   have HVB35 := Lib.hid (HVB.out.far (g := xb) (j := 4) (u := .string ((n4 ++ ⟨#[120]⟩))) (by omega))
   have HR35 := Lib.hid (HR.out.far (g := xb) (j := 4) (u := .string ((n4 ++ ⟨#[120]⟩))) (by omega))
   have HV35 := Lib.hid (HV.out.low (setCell_grown2 w28 xb 4 (.string ((n4 ++ ⟨#[120]⟩)))) (fun q hq e => hbne q hq (Option.some.inj e).symm))
   clear HC HG HX HVB HR HV
   have HX := Lib.hid HX35.out
   have HV := Lib.hid HV35.out
   have HVB := Lib.hid HVB35.out
   have HR := Lib.hid HR35.out
   have HC := Lib.hid HC35.out
   have HG := Lib.hid HG35.out
   clear HX35 HV35 HVB35 HR35 HC35 HG35
   generalize (w28.setCell ⟨xb, 4, none⟩ (.string ((n4 ++ ⟨#[120]⟩)))) = w35 at *
   obtain ⟨⟨x0, x1, x2, x3, x4, x5⟩, fx0, fx1, fx2, fx3, fx4, fx5⟩ := HX.out.six2
   obtain ⟨⟨v0, v1⟩, -⟩ := HVB.out.two
   obtain ⟨⟨r0, r1, r2, r3, r4, r5⟩, fr0, fr1, fr2, fr3, fr4, fr5⟩ := HR.out.six2
   have HRX := Lib.hid (HR.out)
   go_wp2
   exact ret_l6Call (cs_res6c HR.out _ _ _ _ _ _) (by rfl) (by rfl) ⟨_, _, _, _, _, _, _, rfl, (by omega), (by rw [ByteArray.size_append]; have hq1 : (⟨#[120]⟩ : ByteArray).size = 1 := rfl; have hq2 : (⟨#[121]⟩ : ByteArray).size = 1 := rfl; have hq3 : (⟨#[]⟩ : ByteArray).size = 0 := rfl; omega), (by omega), cur_res6c HC.out (by omega) _ _ _ _ _ _, grown_res6c HG.out (by omega) _ _ _ _ _ _⟩
  have hz4 : (z == 0) = false ∧ (z == 1) = false ∧ (z == 2) = false ∧ (z == 3) = false := by simp [hz0, hz1, hz2, hz3]
  obtain ⟨hz5, hz6, hz7, hz8⟩ := hz4
  go_upto_region 27 with fail
  clear x0 x1 x2 x3 x4 x5 fx0 fx1 fx2 fx3 fx4 fx5 v0 v1 r0 r1 r2 r3 r4 r5 fr0 fr1 fr2 fr3 fr4 fr5
  have HC36 := Lib.hid (HC.out.grown (setCell_grown2 w28 xb 5 (.string ((t5 ++ ⟨#[121]⟩)))) (fun q hq => by cases hq; omega))
  have HG36 := Lib.hid (grown_trans HG.out (setCell_grown2 w28 xb 5 (.string ((t5 ++ ⟨#[121]⟩)))) (fun q hq => .inr (by cases hq; omega)))
  have HX36 := Lib.hid (HX.out.set 5 (.string ((t5 ++ ⟨#[121]⟩))))
  have HVB36 := Lib.hid (HVB.out.far (g := xb) (j := 5) (u := .string ((t5 ++ ⟨#[121]⟩))) (by omega))
  have HR36 := Lib.hid (HR.out.far (g := xb) (j := 5) (u := .string ((t5 ++ ⟨#[121]⟩))) (by omega))
  have HV36 := Lib.hid (HV.out.low (setCell_grown2 w28 xb 5 (.string ((t5 ++ ⟨#[121]⟩)))) (fun q hq e => hbne q hq (Option.some.inj e).symm))
  clear HC HG HX HVB HR HV
  have HX := Lib.hid HX36.out
  have HV := Lib.hid HV36.out
  have HVB := Lib.hid HVB36.out
  have HR := Lib.hid HR36.out
  have HC := Lib.hid HC36.out
  have HG := Lib.hid HG36.out
  clear HX36 HV36 HVB36 HR36 HC36 HG36
  generalize (w28.setCell ⟨xb, 5, none⟩ (.string ((t5 ++ ⟨#[121]⟩)))) = w36 at *
  obtain ⟨⟨x0, x1, x2, x3, x4, x5⟩, fx0, fx1, fx2, fx3, fx4, fx5⟩ := HX.out.six2
  obtain ⟨⟨v0, v1⟩, -⟩ := HVB.out.two
  obtain ⟨⟨r0, r1, r2, r3, r4, r5⟩, fr0, fr1, fr2, fr3, fr4, fr5⟩ := HR.out.six2
  have HRX := Lib.hid (HR.out)
  go_wp2
  exact ret_l6Call (cs_res6c HR.out _ _ _ _ _ _) (by rfl) (by rfl) ⟨_, _, _, _, _, _, _, rfl, (by omega), (by omega), (by rw [ByteArray.size_append]; have hq1 : (⟨#[120]⟩ : ByteArray).size = 1 := rfl; have hq2 : (⟨#[121]⟩ : ByteArray).size = 1 := rfl; have hq3 : (⟨#[]⟩ : ByteArray).size = 0 := rfl; omega), cur_res6c HC.out (by omega) _ _ _ _ _ _, grown_res6c HG.out (by omega) _ _ _ _ _ _⟩
end Go.Proofs.Ytlkfabkkjfmnmaa
