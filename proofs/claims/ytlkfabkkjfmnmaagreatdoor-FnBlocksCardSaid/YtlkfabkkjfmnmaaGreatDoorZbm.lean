import Derived.Test.YtlkfabkkjfmnmaaGreatDoorZbi
import Derived.Test.YtlkfabkkjfmnmaaGreatDoorZbj
import Derived.Test.YtlkfabkkjfmnmaaGreatDoorZbl
import Derived.Deep.CutRange
namespace Go.Proofs.YtlkfabkkjfmnmaaGreatDoor
open Go.RowKit
set_option linter.all false
set_option maxRecDepth 1000000
set_option maxHeartbeats 6000000
def qb:InoP:=⟨⟨1,2,1,⟨#[]⟩,[]⟩,none,0⟩
theorem nR (w:World):Calls Tryz.prog 72 #[] w fun e w' => ∃(g:Nat) (c:Nat),e=.returned (.agg #[.int .i64 2,.slice (some ⟨g,0,none⟩) 1 c])/\VolOwn w.heap.size w (some ⟨g,0,none⟩) c [qb] w':=by
 go_enter Tryz.func72,Tryz.ntmps72
 go_wp2;have h:=Own.lit (e:=45) (size:=5) (n:=1) (az w (.cells #[.int .i64 2,.slice (some ⟨w.heap.size+1,0,none⟩) 1 1] 26)) (by simp) #[.int .i64 1,.int .i64 2,.int .i64 1,.string ⟨#[]⟩,.slice none 0 0] rfl (by decide);have e:(w.alloc (.cells #[.int .i64 2,.slice (some ⟨w.heap.size+1,0,none⟩) 1 1] 26)).heap.size=w.heap.size+1:=by simp
 rw[e] at h;have HH:=zH h;clear h e;refine bodyPost_ret (v:=.agg #[.int .i64 2,.slice (some ⟨w.heap.size+1,0,none⟩) 1 1]) (by simp[results,Tryz.results72,go_sem]) rfl ?_;refine⟨w.heap.size+1,1,rfl,HH.out,fun y hy=>?_,List.pairwise_singleton ..⟩;rw[List.mem_singleton] at hy;subst hy;exact fx HH.out.below HH.out.base
def tu (a:Option Addr)(n cap:Nat)(bs:List Int)(g:Nat)(w:World)(e:Ending)(w':World):Prop:=
 ∃(next:Int) (va:Option Addr) (vc:Nat) (m:List InoP) (cs:CS),e=.returned (.agg #[.int .i64 next,.slice va m.length vc])/\Inv d0 next (xs m)/\VolOwn w.heap.size w' va vc m w'/\CurAt a n cap bs g cs w'/\w.grownBy w' (some g)
theorem qG {Post:Ending->World->Prop}{a:Act}{wf:World}{R:Nat}{u0:Int}{u1:Value}(hc:Cs wf R [.int .i64 u0,u1])(h2:a.tmps[4]?.getD undef=.pointer (some ⟨R,0,none⟩))(hd:a.defers = [])
  (hp:Post (.returned (.agg #[.int .i64 u0,u1])) wf):bodyPost Tryz.prog Tryz.f44 Post Exit.ret a wf:=by
 obtain⟨⟨r0,r1⟩,-⟩:=hc.two;exact bodyPost_ret (v:=.agg #[.int .i64 u0,u1]) (by simp[results,Tryz.results44,go_sem,h2,r0,r1]) hd hp
theorem l7 (a:Option Addr)(n cap:Nat)(bs:List Int)(g:Nat)(s:CS)(most:Int)(w:World)(hC:CurAt a n cap bs g s w)(hm0:1<=most)(hm:most<=900) :
  Calls Tryz.prog 44 #[.pointer (some ⟨g,0,none⟩),.int .i64 most] w (tu a n cap bs g w):=by
 have hgl:=hC.lt;have Fh:=zH (hC.alloc (.cells #[.int .i64 0,.slice none 0 0] 26));have wC:=zH (ar w 26 #[.int .i64 0,.slice none 0 0]);have LH:=zH (World.grownBy_alloc w (.cells #[.int .i64 0,.slice none 0 0] 26) (some g));have hz1:w.heap.size<(w.alloc (.cells #[.int .i64 0,.slice none 0 0] 26)).heap.size:=by simp
 clear hC;go_enter Tryz.func44,Tryz.ntmps44
 go_wp2_with fail
 generalize w.alloc (.cells #[.int .i64 0,.slice none 0 0] 26)=w1 at *;refine(nR _).mono ?_;rintro e w2 ⟨g1,c1,rfl,hv⟩;obtain⟨vb,hvb⟩:∃vb,vb=w2.heap.size:=⟨_,rfl⟩;have hb2:=hv.below;have hz2:w.heap.size<w2.heap.size:=Nat.lt_of_lt_of_le hz1 hb2.size;have Il:Hid (VolOwn w.heap.size (w2.alloc (.cells #[.int .i64 2,.slice (some ⟨g1,0,none⟩) 1 c1] 26)) (some ⟨g1,0,none⟩) c1 [qb] (w2.alloc (.cells #[.int .i64 2,.slice (some ⟨g1,0,none⟩) 1 c1] 26))):=zH (cf (hv.alloc _) (by omega) zB (by simp;omega));have LJ:Hid (∀q,au (some ⟨g1,0,none⟩) c1 [qb] q->q≠vb/\q≠w.heap.size):=zH (fun q hq=>by have:=hv.bl q hq;omega);have HX0:Hid (Cs (w2.alloc (.cells #[.int .i64 2,.slice (some ⟨g1,0,none⟩) 1 c1] 26)) vb [.int .i64 2,.slice (some ⟨g1,0,none⟩) 1 c1]):=zH (by rw[hvb];exact ar w2 26 #[.int .i64 2,.slice (some ⟨g1,0,none⟩) 1 c1]);have LK:=zH ((wC.out.below hb2).alloc (.cells #[.int .i64 2,.slice (some ⟨g1,0,none⟩) 1 c1] 26));have yO:=zH ((Fh.out.kept hb2).alloc (.cells #[.int .i64 2,.slice (some ⟨g1,0,none⟩) 1 c1] 26));have Ak:=zH ((LH.out.trans (aA (some g) hb2)).trans (World.grownBy_alloc w2 (.cells #[.int .i64 2,.slice (some ⟨g1,0,none⟩) 1 c1] 26) (some g)));clear hv hb2 Fh wC LH;go_wp2_with fail
 rw[←hvb];generalize w2.alloc (.cells #[.int .i64 2,.slice (some ⟨g1,0,none⟩) 1 c1] 26)=w3 at *;have hvw:w.heap.size<vb:=by omega
 clear hvb hz1 hz2;refine(aH a n cap bs g _ most _ yO.out (by omega)).mono ?_;rintro e w4 ⟨rfl,ve,hG2⟩;have hr2:=aJ bs most s (by omega);have wI:=zH ve;have HG2:=zH (Ak.out.trans hG2);have xR:=zH (HX0.out.grown hG2 (by simp;omega));have x9:=zH (LK.out.grown hG2 (by simp;omega));have yT:=zH (Il.out.low hG2 (fun q hq e=>by have:=(Il.out.bl q hq).1;have:=Option.some.inj e;omega));clear ve hG2 yO Ak HX0 LK Il;simp only at wI ⊢;generalize (aj bs most s).2=s2 at *;generalize (aj bs most s).1=k2 at *;obtain⟨hk0,hk1⟩:=hr2;obtain⟨K,rfl⟩:=Int.eq_ofNat_of_zero_le hk0;clear hk0;go_wp2;go_loopg [6] K (fun gg i wr => ∃(next:Int) (va:Option Addr) (vc:Nat) (m:List InoP) (cs:CS),i=.int .i64 (gg:Nat)/\gg<=K/\Hid (Inv d0 next (xs m))/\Hid (VolOwn w.heap.size wr va vc m wr)/\Hid (Cs wr vb [.int .i64 next,.slice va m.length vc])/\Hid (Cs wr w.heap.size [.int .i64 0,.slice none 0 0])/\Hid (CurAt a n cap bs g cs wr)/\Hid (w.grownBy wr (some g))/\Hid (∀q,au va vc m q->q≠vb/\q≠w.heap.size))
 case atStart=>exact⟨2,some ⟨g1,0,none⟩,c1,[qb],s2,rfl,zN,zH tm,yT,xR,x9,wI,HG2,LJ⟩
 case round =>
  clear yT xR x9 wI HG2 LJ;obtain⟨next,va,vc,m,cs,rfl,PS,HI,HV,vo,y7,HC,HG,wY⟩:=hrel;have hwr:=HG.out.size;cases gk with
  | zero =>
   obtain⟨⟨v0,v1⟩,-⟩:=vo.out.two;have hsm:=bC HI.out;go_wp2_with fail
   refine(bL next va vc m _ HV.out.p (by have:=hsm.1;omega) (fun y hy=>by have:=(hsm.2 y hy).1;omega)).mono ?_;rintro e w5 ⟨a9,c9,m9,rfl,Pf,Pg,He⟩;have LM:=zH (y7.out.below He.below);have Bb:=y7.out.lt;have wX:=zH ((LM.out.set 0 (.int .i64 next)).set 1 (.slice a9 m.length c9));have Fs:=zH (cf (W1:=((w5.setCell ⟨w.heap.size,0,none⟩ (.int .i64 next)).setCell ⟨w.heap.size,1,none⟩ (.slice a9 m.length c9))) (B':=w.heap.size) (He.res2l w.heap.size (fun q hq=>by have:=(He.bl q hq).1;omega) (.int .i64 next) (.slice a9 m.length c9)) (by omega) zB (by have:=He.below.size;simp[World.setCell];omega));have IK:=zH (((HC.out.kept He.below).grown (ae _ w.heap.size 0 (.int .i64 next)) (fun q hq=>by cases hq;omega)).grown (ae _ w.heap.size 1 (.slice a9 m.length c9)) (fun q hq=>by cases hq;omega));have Qy:=zH (dd (HG.out.trans (aA (some g) He.below)) w.heap.size zN (.int .i64 next) (.slice a9 m.length c9));have AU:Hid (Inv d0 next (xs m9)):=zH (by rw[Pg];exact HI.out);have EO:=zH Pf;clear He Pg Pf hsm v0 v1;have r0:=LM.out.two;go_wp2;exact qG wX.out (by rfl) (by rfl) ⟨next,a9,c9,m9,cs,by rw[EO.out],AU.out,Fs.out,IK.out,Qy.out⟩
  | succ gq =>
   have Qv:(0:Int)<((gq+1:Nat):Int):=by omega
   go_upto_region 5 with fail
   have Au:=zH ((HV.out.drew).self);have ET:=zH vo.out.drew;have Hf:=zH y7.out.drew;have Ct:=zH HC.out.drew;have Cu:=zH (aS HG.out);have hvl:=vo.out.lt;clear HV vo y7 HC HG;obtain⟨⟨v0,v1⟩,-⟩:=ET.out.two;refine wp_region_held_drew (S:=(fun _=>True)) (by kernel_rfl) ?_ (fun uQ=>?_)
   ·(try dsimp only);all_goals trivial
   change wpAnyH _ _ _ _ _ 9 #[false,false,false,false,false,false,false,false,false] _ _;refine tkI [1] ?_;(iterate 1 (refine tkS rfl (by kernel_rfl) (fun _ _ _=>id) (by rfl) (by intro w h;(try dsimp only at h);go_simp;try rfl) uQ ?_;try simp only[Act.put,tkA,tk0,tk1]));refine tkE ?_;refine wpAnyH_ready (rs:=[0,2]) (by kernel_rfl) (by simp) ?_;refine AllReadyH.cons rfl (fun K hK=>?_) (AllReadyH.cons rfl (fun K hK=>?_) AllReadyH.nil)
   ·(try dsimp only at uQ);go_simp;refine hK.out _ _ trivial (fun uS=>?_);clear hK K uQ;have uQ:=uS;clear uS;refine wR 2 rfl (by kernel_rfl) (fun K hK=>?_);(try dsimp only at uQ);go_simp;skip
    refine hK.out _ _ ?_ ?_
    ·(try dsimp only);all_goals trivial
    clear hK K uQ;intro uQ;refine wR 3 rfl (by kernel_rfl) (fun K hK=>?_);(try dsimp only at uQ);go_simp;(go_at_call 74;refine(it a n cap bs g cs w.heap.size _ next va vc m _ Ct.out Au.out hgl HI.out).mono ?_;rintro e w2 ⟨kd,dir,nm,tt,sa,dt,cs2,rfl,hz1,hz2,hz3,hC2,hG2⟩)
    refine hK.out _ _ ?_ ?_
    ·(try dsimp only);all_goals trivial
    clear hK K uQ;intro uQ;have yT:=zH (Au.out.low hG2 (fun q hq e=>by have:=(Au.out.bl q hq).1;have:=Option.some.inj e;omega));have yz:=zH (ET.out.grown hG2 (by simp;omega));have x9:=zH (Hf.out.grown hG2 (by simp;omega));have wI:=zH hC2;have HG2:=zH (Cu.out.trans hG2);clear hC2 hG2 v0 v1;obtain⟨⟨v0,v1⟩,fv0,fv1⟩:=yz.out.two;refine wR 4 rfl (by kernel_rfl) (fun K hK=>?_);(try dsimp only at uQ);go_simp;(go_at_call 73;refine(j7 w.heap.size next va vc m kd dir nm tt sa dt _ yT.out HI.out (by unfold maxLen;omega) (by unfold maxLen;omega) (by unfold maxLen;omega)).mono ?_;rintro e w3 ⟨nx,a9,c9,m9,u0,u1,u2,u3,rfl,zo,zq,yw,zt⟩)
    refine hK.out _ _ ?_ ?_
    ·(try dsimp only);all_goals trivial
    clear hK K uQ;intro uQ;have BH:=zH (yz.out.below yw);have El:=zH (x9.out.below yw);have xm:=zH (wI.out.kept yw);have xI:=zH (HG2.out.trans (aA (some g) yw));have Ae:Hid (∀q,au a9 c9 m9 q->q≠vb/\q≠w.heap.size):=zH (fun q hq=>by
     rcases zt q hq with h|h
     ·exact wY.out q h
     ·have:=yz.out.lt;have:=x9.out.lt;omega)
    have EL:=zH zo;have wZ:=zH zq;clear zo zq yw zt v0 v1 fv0 fv1 yT yz x9 wI HG2;obtain⟨⟨v0,v1⟩,fv0,fv1⟩:=BH.out.two;refine tkI [5,6,7] ?_;(iterate 3 (refine tkS rfl (by kernel_rfl) (fun _ _ _=>id) (by rfl) (by intro w h;(try dsimp only at h);go_simp;try rfl) uQ ?_;try simp only[Act.put,tkA,tk0,tk1]));refine tkE ?_;refine wR 8 rfl (by kernel_rfl) (fun K hK=>?_);(try dsimp only at uQ);go_simp;skip
    refine hK.out _ _ ?_ ?_
    ·(try dsimp only);all_goals trivial
    clear hK K uQ;intro uQ;refine wpAnyH_done (by kernel_rfl) ?_ _;(try dsimp only at uQ);clear uQ;go_wp2;go_roundg gq
    case measure=>omega
    case rel=>exact⟨nx,a9,c9,m9,cs2,by go_num,by omega,EL,zH (cf (B':=w.heap.size) (W1:=(w3.setCell ⟨vb,0,none⟩ (.int .i64 nx)).setCell ⟨vb,1,none⟩ (.slice a9 m9.length c9)) (wZ.out.res2l vb (fun q hq=>(Ae.out q hq).1) (.int .i64 nx) (.slice a9 m9.length c9)) zN zB (wZ.out.res2l vb (fun q hq=>(Ae.out q hq).1) (.int .i64 nx) (.slice a9 m9.length c9)).top.base),zH ((BH.out.set 0 _).set 1 _),zH ((El.out.far (g:=vb) (j:=0) (u:=.int .i64 nx) (by omega)).far (g:=vb) (j:=1) (u:=.slice a9 m9.length c9) (by omega)),zH ((xm.out.grown (ae _ vb 0 _) (fun q hq=>by cases hq;omega)).grown (ae _ vb 1 _) (fun q hq=>by cases hq;omega)),zH (dd xI.out vb (by omega) _ _),Ae⟩
   ·(try dsimp only at uQ);go_simp;refine hK.out _ _ trivial (fun uS=>?_);clear hK K uQ;have uQ:=uS;clear uS;refine wpAnyH_ready (rs:=[0,3]) (by kernel_rfl) (by simp) ?_;refine AllReadyH.cons rfl (fun K hK=>?_) (AllReadyH.cons rfl (fun K hK=>?_) AllReadyH.nil)
    ·(try dsimp only at uQ);go_simp;refine hK.out _ _ trivial (fun uS=>?_);clear hK K uQ;have uQ:=uS;clear uS;refine wR 3 rfl (by kernel_rfl) (fun K hK=>?_);(try dsimp only at uQ);go_simp;(go_at_call 74;refine(it a n cap bs g cs w.heap.size _ next va vc m _ Ct.out Au.out hgl HI.out).mono ?_;rintro e w2 ⟨kd,dir,nm,tt,sa,dt,cs2,rfl,hz1,hz2,hz3,hC2,hG2⟩)
     refine hK.out _ _ ?_ ?_
     ·(try dsimp only);all_goals trivial
     clear hK K uQ;intro uQ;have yT:=zH (Au.out.low hG2 (fun q hq e=>by have:=(Au.out.bl q hq).1;have:=Option.some.inj e;omega));have yz:=zH (ET.out.grown hG2 (by simp;omega));have x9:=zH (Hf.out.grown hG2 (by simp;omega));have wI:=zH hC2;have HG2:=zH (Cu.out.trans hG2);clear hC2 hG2 v0 v1;obtain⟨⟨v0,v1⟩,fv0,fv1⟩:=yz.out.two;refine wR 4 rfl (by kernel_rfl) (fun K hK=>?_);(try dsimp only at uQ);go_simp;(go_at_call 73;refine(j7 w.heap.size next va vc m kd dir nm tt sa dt _ yT.out HI.out (by unfold maxLen;omega) (by unfold maxLen;omega) (by unfold maxLen;omega)).mono ?_;rintro e w3 ⟨nx,a9,c9,m9,u0,u1,u2,u3,rfl,zo,zq,yw,zt⟩)
     refine hK.out _ _ ?_ ?_
     ·(try dsimp only);all_goals trivial
     clear hK K uQ;intro uQ;have BH:=zH (yz.out.below yw);have El:=zH (x9.out.below yw);have xm:=zH (wI.out.kept yw);have xI:=zH (HG2.out.trans (aA (some g) yw));have Ae:Hid (∀q,au a9 c9 m9 q->q≠vb/\q≠w.heap.size):=zH (fun q hq=>by
      rcases zt q hq with h|h
      ·exact wY.out q h
      ·have:=yz.out.lt;have:=x9.out.lt;omega)
     have EL:=zH zo;have wZ:=zH zq;clear zo zq yw zt v0 v1 fv0 fv1 yT yz x9 wI HG2;obtain⟨⟨v0,v1⟩,fv0,fv1⟩:=BH.out.two;refine tkI [5,6,7] ?_;(iterate 3 (refine tkS rfl (by kernel_rfl) (fun _ _ _=>id) (by rfl) (by intro w h;(try dsimp only at h);go_simp;try rfl) uQ ?_;try simp only[Act.put,tkA,tk0,tk1]));refine tkE ?_;refine wR 8 rfl (by kernel_rfl) (fun K hK=>?_);(try dsimp only at uQ);go_simp;skip
     refine hK.out _ _ ?_ ?_
     ·(try dsimp only);all_goals trivial
     clear hK K uQ;intro uQ;refine wpAnyH_done (by kernel_rfl) ?_ _;(try dsimp only at uQ);clear uQ;go_wp2;go_roundg gq
     case measure=>omega
     case rel=>exact⟨nx,a9,c9,m9,cs2,by go_num,by omega,EL,zH (cf (B':=w.heap.size) (W1:=(w3.setCell ⟨vb,0,none⟩ (.int .i64 nx)).setCell ⟨vb,1,none⟩ (.slice a9 m9.length c9)) (wZ.out.res2l vb (fun q hq=>(Ae.out q hq).1) (.int .i64 nx) (.slice a9 m9.length c9)) zN zB (wZ.out.res2l vb (fun q hq=>(Ae.out q hq).1) (.int .i64 nx) (.slice a9 m9.length c9)).top.base),zH ((BH.out.set 0 _).set 1 _),zH ((El.out.far (g:=vb) (j:=0) (u:=.int .i64 nx) (by omega)).far (g:=vb) (j:=1) (u:=.slice a9 m9.length c9) (by omega)),zH ((xm.out.grown (ae _ vb 0 _) (fun q hq=>by cases hq;omega)).grown (ae _ vb 1 _) (fun q hq=>by cases hq;omega)),zH (dd xI.out vb (by omega) _ _),Ae⟩
    ·(try dsimp only at uQ);go_simp;(go_at_call 74;refine(it a n cap bs g cs w.heap.size _ next va vc m _ Ct.out Au.out hgl HI.out).mono ?_;rintro e w2 ⟨kd,dir,nm,tt,sa,dt,cs2,rfl,hz1,hz2,hz3,hC2,hG2⟩)
     refine hK.out _ _ trivial (fun uS=>?_);clear hK K uQ;have uQ:=uS;clear uS;have yT:=zH (Au.out.low hG2 (fun q hq e=>by have:=(Au.out.bl q hq).1;have:=Option.some.inj e;omega));have yz:=zH (ET.out.grown hG2 (by simp;omega));have x9:=zH (Hf.out.grown hG2 (by simp;omega));have wI:=zH hC2;have HG2:=zH (Cu.out.trans hG2);clear hC2 hG2 v0 v1;obtain⟨⟨v0,v1⟩,fv0,fv1⟩:=yz.out.two;refine wR 0 rfl (by kernel_rfl) (fun K hK=>?_);(try dsimp only at uQ);go_simp;skip
     refine hK.out _ _ ?_ ?_
     ·(try dsimp only);all_goals trivial
     clear hK K uQ;intro uQ;refine wR 4 rfl (by kernel_rfl) (fun K hK=>?_);(try dsimp only at uQ);go_simp;(go_at_call 73;refine(j7 w.heap.size next va vc m kd dir nm tt sa dt _ yT.out HI.out (by unfold maxLen;omega) (by unfold maxLen;omega) (by unfold maxLen;omega)).mono ?_;rintro e w3 ⟨nx,a9,c9,m9,u0,u1,u2,u3,rfl,zo,zq,yw,zt⟩)
     refine hK.out _ _ ?_ ?_
     ·(try dsimp only);all_goals trivial
     clear hK K uQ;intro uQ;have BH:=zH (yz.out.below yw);have El:=zH (x9.out.below yw);have xm:=zH (wI.out.kept yw);have xI:=zH (HG2.out.trans (aA (some g) yw));have Ae:Hid (∀q,au a9 c9 m9 q->q≠vb/\q≠w.heap.size):=zH (fun q hq=>by
      rcases zt q hq with h|h
      ·exact wY.out q h
      ·have:=yz.out.lt;have:=x9.out.lt;omega)
     have EL:=zH zo;have wZ:=zH zq;clear zo zq yw zt v0 v1 fv0 fv1 yT yz x9 wI HG2;obtain⟨⟨v0,v1⟩,fv0,fv1⟩:=BH.out.two;refine tkI [5,6,7] ?_;(iterate 3 (refine tkS rfl (by kernel_rfl) (fun _ _ _=>id) (by rfl) (by intro w h;(try dsimp only at h);go_simp;try rfl) uQ ?_;try simp only[Act.put,tkA,tk0,tk1]));refine tkE ?_;refine wR 8 rfl (by kernel_rfl) (fun K hK=>?_);(try dsimp only at uQ);go_simp;skip
     refine hK.out _ _ ?_ ?_
     ·(try dsimp only);all_goals trivial
     clear hK K uQ;intro uQ;refine wpAnyH_done (by kernel_rfl) ?_ _;(try dsimp only at uQ);clear uQ;go_wp2;go_roundg gq
     case measure=>omega
     case rel=>exact⟨nx,a9,c9,m9,cs2,by go_num,by omega,EL,zH (cf (B':=w.heap.size) (W1:=(w3.setCell ⟨vb,0,none⟩ (.int .i64 nx)).setCell ⟨vb,1,none⟩ (.slice a9 m9.length c9)) (wZ.out.res2l vb (fun q hq=>(Ae.out q hq).1) (.int .i64 nx) (.slice a9 m9.length c9)) zN zB (wZ.out.res2l vb (fun q hq=>(Ae.out q hq).1) (.int .i64 nx) (.slice a9 m9.length c9)).top.base),zH ((BH.out.set 0 _).set 1 _),zH ((El.out.far (g:=vb) (j:=0) (u:=.int .i64 nx) (by omega)).far (g:=vb) (j:=1) (u:=.slice a9 m9.length c9) (by omega)),zH ((xm.out.grown (ae _ vb 0 _) (fun q hq=>by cases hq;omega)).grown (ae _ vb 1 _) (fun q hq=>by cases hq;omega)),zH (dd xI.out vb (by omega) _ _),Ae⟩
theorem th:∀(l:List EntL) (k:Nat) (hk:k<l.length) (j:Nat) (_:j<4) (v:Value) (x':EntL) (_:en1 x'=(en1 l[k]).set j v),(ens l).set (k*4+j) v=ens (l.set k x'):=by
 intro l;induction l with
 | nil=>intro k hk;simp at hk
 | cons y l ih =>
  intro k hk j hj v x' hx;cases k with
  | zero =>
   show (en1 y++ens l).set (0*4+j) v=en1 x'++ens l;rw[Nat.zero_mul,Nat.zero_add,List.set_append_left _ _ (by rw[fm];exact hj)];rw[hx];rfl
  | succ k =>
   show (en1 y++ens l).set ((k+1)*4+j) v=en1 y++ens (l.set k x');rw[List.set_append_right _ _ (by rw[fm];omega),fm,show (k+1)*4+j - 4=k*4+j from by omega];rw[ih k (by simpa using hk) j hj v x' (by simpa using hx)]
theorem oA {a:Option Addr}{n cap:Nat}{bs:List Int}{g:Nat}{s:CS}{w wr:World}{l:List EntL}{g' cv:Nat}(HO:wr.ownsRow w.heap.size 74 4 (.slice (some ⟨g',0,none⟩) l.length cv) l.length (ens l))(hC:CurAt a n cap bs g s wr)(hg:g<w.heap.size)(hG:w.grownBy wr (some g))
  (hP:∀x∈l,dq x) (hl:l.length<=901) (k:Nat) (hk:k<l.length) (j:Nat) (hj:j<4) (v:Value) (x':EntL) (hx:en1 x'=(en1 l[k]).set j v) (hsm:dq x') :
  kX a n cap bs g w 901 (.returned (.slice (some ⟨g',0,none⟩) l.length cv)) (wr.setCell ⟨g',k*4+j,none⟩ v):=by
 have hlt:=HO.lt g' rfl;have O:=(Own.set (W0:=wr) ⟨HO,zB,hG.size⟩ (k*4+j) v);rw[th l k hk j hj v x' hx] at O;refine⟨l.set k x',s,some ⟨g',0,none⟩,cv,by rw[List.length_set],by rw[List.length_set];exact hl,?_,?_,?_,?_⟩
 ·intro x h;rcases List.mem_or_eq_of_mem_set h with h|h
  ·exact hP x h
  ·rw[h];exact hsm
 ·rw[List.length_set];exact O.row
 ·exact hC.grown (eA wr g' _ _) (fun q hq=>by cases hq;omega)
 ·exact aq hG (eA wr g' _ _) (fun q hq=>by cases hq;exact .inr hlt.1)
theorem qO (a:Option Addr)(n cap:Nat)(bs:List Int)(g:Nat)(s:CS)(most:Int)(w:World)(hC:CurAt a n cap bs g s w)(hm0:1<=most)(hm:most<=900) :
  Calls Tryz.prog 66 #[.pointer (some ⟨g,0,none⟩),.int .i64 most] w (kX a n cap bs g w 901):=by
 have HC:=zH hC;have hg:=hC.lt;clear hC;go_enter Tryz.func66,Tryz.ntmps66
 go_wp2_with fail
 refine(qn a n cap bs g _ most _ HC.out hm0 hm).mono ?_;rintro e w2 ⟨l,s2,av,cv,rfl,hl,hP,hO,hC2,hG2⟩;have HP:=zH hP;have xK:=zH hO;have wI:=zH hC2;have HG2:=zH hG2;clear hP hO hC2 hG2 HC;by_cases hl0:l.length=0
 ·have Ru:=zH hl0;have hz:((l.length:Int)==0)=true:=by simp[hl0]
  clear hl0;go_wp2;go_ret;exact⟨l,s2,av,cv,rfl,by omega,HP.out,xK.out,wI.out,HG2.out⟩
 ·have hz:((l.length:Int)==0)=false:=by rw[beq_eq_false_iff_ne];omega
  have hlp:0<l.length:=by omega
  clear hl0;go_wp2_with fail
  refine(bo a n cap bs g s2 10 _ wI.out (by omega)).mono ?_;rintro e w3 ⟨rfl,ve,hG1⟩;have xm:=zH ve;have xI:=zH (HG2.out.trans hG1);have yj:=zH (dY xK.out hG1 hg);clear ve hG1 wI HG2 xK;simp only at xm ⊢;generalize (aj bs 10 s2).2=s3 at *;generalize ((aj bs 10 s2).1==0)=t3 at *;cases t3 with
  | false =>
   go_wp2;go_ret;exact⟨l,s3,av,cv,rfl,by omega,HP.out,yj.out,xm.out,xI.out⟩
  | true =>
   go_wp2_with fail
   refine(aH a n cap bs g _ l.length _ xm.out (by omega)).mono ?_;rintro e w4 ⟨rfl,ve,hG1⟩;have hr:=aJ bs l.length s3 (by omega);have xQ:=zH ve;have zk:=zH (xI.out.trans hG1);have BF:=zH (dY yj.out hG1 hg);clear ve hG1 xm xI yj;generalize (aj bs l.length s3).2=s4 at *;generalize (aj bs l.length s3).1=k4 at *;obtain⟨hk0,hk1⟩:=hr;obtain⟨k,rfl⟩:=Int.eq_ofNat_of_zero_le hk0;have hk:k<l.length:=by omega
   simp only at xQ ⊢;go_wp2_with fail
   refine(aH a n cap bs g _ 5 _ xQ.out (by omega)).mono ?_;rintro e w5 ⟨rfl,ve,hG1⟩;have hr:=aJ bs 5 s4 (by omega);have Aj:=zH ve;have AB:=zH (zk.out.trans hG1);have xY:=zH (dY BF.out hG1 hg);clear ve hG1 xQ zk BF;generalize (aj bs 5 s4).2=s5 at *;generalize (aj bs 5 s4).1=q at *;simp only at Aj ⊢;have hwb:=AB.out.size;obtain⟨g',cv',he,hg'⟩:=(show Own 74 4 w.heap.size w5 (.slice av l.length cv) l.length (ens l) w5 from ⟨xY.out,zB,hwb⟩).shape1 hlp;cases he;have yE:Own 74 4 w.heap.size w5 (.slice (some ⟨g',0,none⟩) l.length cv) l.length (ens l) w5:=⟨xY.out,zB,hwb⟩;have HOW:=zH yE;obtain⟨b',off',e',hbs,d0,d1,d2,d3⟩:=ay yE.rd k hk;cases e';have f0:=yE.free (k*4);have f1:=yE.free (k*4+1);have f2:=yE.free (k*4+2);have f3:=yE.free (k*4+3);rw[Nat.zero_add] at d0 d1 d2 d3;have HST:=zH (fun (wq:World) (sq:CS) (h1:wq.ownsRow w.heap.size 74 4 (.slice (some ⟨g',0,none⟩) l.length cv) l.length (ens l)) (h2:CurAt a n cap bs g sq wq) (h3:w.grownBy wq (some g))=>oA h1 h2 hg h3 HP.out (by omega) k hk);have LP:=zH (HP.out l[k] (List.getElem_mem hk));clear yE;by_cases q0:q=0
   ·subst q0;go_wp2;go_ret;exact HST.out _ _ xY.out Aj.out AB.out 0 (by omega) _ ⟨_,l[k].index,l[k].name,l[k].id⟩ rfl LP.out
   ·by_cases q1:q=1
    ·subst q1;clear d0 d1 d2 d3 f0 f1 f2 f3 q0;go_wp2_with fail
     refine(bU a n cap bs g s5 _ 4 4 [-1,3,12,13] _ (Aj.out.alloc _) (by exact aM (news:=(aE [-1,3,12,13]).toArray) rfl (by decide)) (fun x hx=>by cases hx;have:=Aj.out.lt;show w5.heap.size≠g;omega) (by omega) (by omega)).mono ?_;rintro e w6 ⟨rfl,ve,hG1⟩;have Bg:=zH ve;have CG:=zH ((AB.out.trans (World.grownBy_alloc _ _ _)).trans hG1);have yA:=zH (dY (xY.out.alloc (.cells #[.int .i64 (-1),.int .i64 3,.int .i64 12,.int .i64 13] 3)) hG1 hg);clear ve hG1;have yG:=CG.out.size;have zI:Own 74 4 w.heap.size w6 (.slice (some ⟨g',0,none⟩) l.length cv) l.length (ens l) w6:=⟨yA.out,zB,yG⟩;obtain⟨b',off',e',LQ,d0,d1,d2,d3⟩:=ay zI.rd k hk;cases e';rw[Nat.zero_add] at d0 d1 d2 d3;have f0:=zI.free (k*4);have f1:=zI.free (k*4+1);have f2:=zI.free (k*4+2);have f3:=zI.free (k*4+3);clear zI;simp only at Bg ⊢;generalize List.getD [-1,3,12,13] (aj bs 4 s5).1.toNat 0=z at *;go_wp2;go_ret;exact HST.out _ _ yA.out Bg.out CG.out 1 (by omega) _ ⟨l[k].hash,z,l[k].name,l[k].id⟩ rfl LP.out
    ·by_cases q2:q=2
     ·subst q2;clear d0 d1 d2 d3 f0 f1 f2 f3 q0 q1;go_wp2_with fail
      refine(da a n cap bs g s5 _ Aj.out).mono ?_;rintro e w6 ⟨⟨nm,s6⟩,hnm,rfl,ve,hG1⟩;simp only at hnm;have Bg:=zH ve;have CG:=zH (AB.out.trans hG1);have yA:=zH (dY (xY.out) hG1 hg);clear ve hG1;have yG:=CG.out.size;have zI:Own 74 4 w.heap.size w6 (.slice (some ⟨g',0,none⟩) l.length cv) l.length (ens l) w6:=⟨yA.out,zB,yG⟩;obtain⟨b',off',e',LQ,d0,d1,d2,d3⟩:=ay zI.rd k hk;cases e';rw[Nat.zero_add] at d0 d1 d2 d3;have f0:=zI.free (k*4);have f1:=zI.free (k*4+1);have f2:=zI.free (k*4+2);have f3:=zI.free (k*4+3);clear zI;simp only at Bg ⊢;go_wp2;go_ret;exact HST.out _ _ yA.out Bg.out CG.out 2 (by omega) _ ⟨l[k].hash,l[k].index,nm,l[k].id⟩ rfl (by show nm.size<=1073741824;omega)
     ·by_cases q3:q=3
      ·subst q3;clear d0 d1 d2 d3 f0 f1 f2 f3 q0 q1 q2;go_wp2_with fail
       refine(bU a n cap bs g s5 _ 3 3 [0,100000,100001] _ (Aj.out.alloc _) (by exact aM (news:=(aE [0,100000,100001]).toArray) rfl (by decide)) (fun x hx=>by cases hx;have:=Aj.out.lt;show w5.heap.size≠g;omega) (by omega) (by omega)).mono ?_;rintro e w6 ⟨rfl,ve,hG1⟩;have Bg:=zH ve;have CG:=zH ((AB.out.trans (World.grownBy_alloc _ _ _)).trans hG1);have yA:=zH (dY (xY.out.alloc (.cells #[.int .i64 0,.int .i64 100000,.int .i64 100001] 3)) hG1 hg);clear ve hG1;have yG:=CG.out.size;have zI:Own 74 4 w.heap.size w6 (.slice (some ⟨g',0,none⟩) l.length cv) l.length (ens l) w6:=⟨yA.out,zB,yG⟩;obtain⟨b',off',e',LQ,d0,d1,d2,d3⟩:=ay zI.rd k hk;cases e';rw[Nat.zero_add] at d0 d1 d2 d3;have f0:=zI.free (k*4);have f1:=zI.free (k*4+1);have f2:=zI.free (k*4+2);have f3:=zI.free (k*4+3);clear zI;simp only at Bg ⊢;generalize List.getD [0,100000,100001] (aj bs 3 s5).1.toNat 0=z at *;go_wp2;go_ret;exact HST.out _ _ yA.out Bg.out CG.out 3 (by omega) _ ⟨l[k].hash,l[k].index,l[k].name,[0,100000,100001][(aj bs 3 s5).1.toNat]?.getD 0⟩ rfl LP.out
      ·have e0:(q==0)=false:=by simp[q0]
       have e1:(q==1)=false:=by simp[q1]
       have e2:(q==2)=false:=by simp[q2]
       have e3:(q==3)=false:=by simp[q3]
       clear q0 q1 q2 q3 hr f0 f1 f2 f3;have xS:Hid (ens (l ++ [l[k]])=ens l++ens [l[k]]):=zH (a5 _ _);have IV:=zH (ea HP.out LP.out);clear HST LP;generalize l[k]=x at *;obtain⟨xh,xi,xn,xd⟩:=x;try simp only at d0 d1 d2 d3
       go_wp2_with (at_builtin;go_loud (refine dj rfl _ _ 43 rfl 74 (.agg #[.int .i64 0,.int .i64 0,.string ByteArray.empty,.int .i64 0]) 4 40 Tryz.underlying43 bG rfl (by decide) _ _ _ _ _ (by rfl) (by exact HOW.out) _ _ _ (by rfl) (by first|rfl|simp) (by rfl) (by intro u hu;simp at hu;rcases hu with rfl|rfl|rfl|rfl <;> rfl) (by omega) (by unfold maxLen;omega) ?_);intro a9 c9 w9 vQ vZ wO;have xy:=zH vQ;have IP:=zH vZ;clear vZ wO vQ)
       go_ret;exact⟨l ++ [⟨xh,xi,xn,xd⟩],s5,a9,c9,by rw[List.length_append];rfl,by rw[List.length_append];simp;omega,IV.out,by rw[xS.out,List.length_append];exact xy.out.row,Aj.out.grown IP.out (fun q hq=>by cases hq;dsimp only;omega),aq AB.out IP.out (fun q hq=>by cases hq;exact .inr (by dsimp only;omega))⟩
end Go.Proofs.YtlkfabkkjfmnmaaGreatDoor
