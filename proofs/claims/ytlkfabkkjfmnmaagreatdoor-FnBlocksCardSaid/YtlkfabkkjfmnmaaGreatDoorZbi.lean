import Derived.Test.YtlkfabkkjfmnmaaGreatDoorZaw
import Derived.Test.YtlkfabkkjfmnmaaGreatDoorZax
import Derived.Test.YtlkfabkkjfmnmaaGreatDoorZay
import Derived.Test.YtlkfabkkjfmnmaaGreatDoorZaz
import Derived.Test.YtlkfabkkjfmnmaaGreatDoorZba
import Derived.Test.YtlkfabkkjfmnmaaGreatDoorZbb
import Derived.Test.YtlkfabkkjfmnmaaGreatDoorZbc
import Derived.Test.YtlkfabkkjfmnmaaGreatDoorZbd
import Derived.Test.YtlkfabkkjfmnmaaGreatDoorZbe
import Derived.Test.YtlkfabkkjfmnmaaGreatDoorZbf
import Derived.Test.YtlkfabkkjfmnmaaGreatDoorZbg
import Derived.Test.YtlkfabkkjfmnmaaGreatDoorZbh
import Derived.Deep.CutRange
namespace Go.Proofs.YtlkfabkkjfmnmaaGreatDoor
open Go.RowKit
set_option linter.all false
set_option maxRecDepth 1000000
set_option maxHeartbeats 6000000
theorem mn (B:Nat)(next:Int)(a:Option Addr)(cap:Nat)(m:List InoP)(kd dir:Int)(nm:ByteArray)(tt:Int)(sa dt:ByteArray)(k1:Nat)(Y1:InoL)(ya1:Option Addr)(yc1:Nat)(k2:Nat)(Y2:InoL)(ya2:Option Addr)(yc2:Nat)(kx:Nat)(X:InoL)(xa:Option Addr)(xc:Nat)(j:Nat)(hj:j<Y1.ents.length)(w:World)(h:VolOwn B w a cap m w)(hi:Inv d0 next (xs m))
  (hy1:m[k1]? = some ⟨Y1,ya1,yc1⟩) (xx:atF (xs m) dir=(k1:Int)) (hy2:m[k2]? = some ⟨Y2,ya2,yc2⟩) (vH:atF (xs m) tt=(k2:Int)) (vW:Y2.kind=2) (hyx:m[kx]? = some ⟨X,xa,xc⟩) (vz:atF (xs m) X.id=(kx:Int)) (wz:X.id=Y1.ents[j].id) (hj1:(Y1.ents.take j).any (fun x=>RQ x.name nm)=false) (hj2:RQ Y1.ents[j].name nm=true) (wm:aI nm=true) (vM:aI sa=true) :
  Calls Tryz.prog 127 #[.agg #[.int .i64 next,.slice a m.length cap],.agg #[.int .i64 kd,.int .i64 dir,.string nm,.int .i64 tt,.string sa,.string dt],.agg #[.int .i64 X.id,.int .i64 X.kind,.int .i64 X.links,.string X.data,.slice xa X.ents.length xc]] w (a6 B (au a cap m) w):=by
 by_cases hxk:X.kind=2
 ·rcases sH Y2.ents (fun x=>RQ x.name sa) with hno|⟨q,hq,hq1,hq2⟩
  ·exact n7 B next a cap m kd dir nm tt sa dt k1 Y1 ya1 yc1 k2 Y2 ya2 yc2 kx X xa xc j hj w h hi hy1 xx hy2 vH vW hyx vz wz hj1 hj2 wm vM hxk hno
  ·by_cases yt:Y2.ents[q].id=X.id
   ·exact nW B next a cap m kd dir nm tt sa dt k1 Y1 ya1 yc1 k2 Y2 ya2 yc2 kx X xa xc j hj w h hi hy1 xx hy2 vH vW hyx vz wz hj1 hj2 wm vM hxk q hq hq1 hq2 yt
   ·exact ns B next a cap m kd dir nm tt sa dt k1 Y1 ya1 yc1 k2 Y2 ya2 yc2 kx X xa xc j hj w h hi hy1 xx hy2 vH vW hyx vz wz hj1 hj2 wm vM hxk q hq hq1 hq2 yt
 ·rcases sH Y2.ents (fun x=>RQ x.name sa) with hno|⟨q,hq,hq1,hq2⟩
  ·exact mT B next a cap m kd dir nm tt sa dt k1 Y1 ya1 yc1 k2 Y2 ya2 yc2 kx X xa xc j hj w h hi hy1 xx hy2 vH vW hyx vz wz hj1 hj2 wm vM hxk hno
  ·by_cases yt:Y2.ents[q].id=X.id
   ·exact ng B next a cap m kd dir nm tt sa dt k1 Y1 ya1 yc1 k2 Y2 ya2 yc2 kx X xa xc j hj w h hi hy1 xx hy2 vH vW hyx vz wz hj1 hj2 wm vM hxk q hq hq1 hq2 yt
   ·exact nX B next a cap m kd dir nm tt sa dt k1 Y1 ya1 yc1 k2 Y2 ya2 yc2 kx X xa xc j hj w h hi hy1 xx hy2 vH vW hyx vz wz hj1 hj2 wm vM hxk q hq hq1 hq2 yt
theorem qz (B:Nat)(next:Int)(a:Option Addr)(cap:Nat)(m:List InoP)(dir:Int)(nm:ByteArray)(tt:Int)(sa dt:ByteArray)(k:Nat)(Y:InoL)(ya:Option Addr)(yc:Nat)(w:World)(h:VolOwn B w a cap m w)(hi:Inv d0 next (xs m))(hy:m[k]? = some ⟨Y,ya,yc⟩)(hat:atF (xs m) dir=(k:Int))(hkd:Y.kind=2)(hnb:aI nm=true)(k2:Nat)(Y2:InoL)(ya2:Option Addr)(yc2:Nat)(hy2:m[k2]? = some ⟨Y2,ya2,yc2⟩)(vH:atF (xs m) tt=(k2:Int))(vW:Y2.kind=2)(vM:aI sa=true) :
  Calls Tryz.prog 100 #[.agg #[.int .i64 next,.slice a m.length cap],.agg #[.int .i64 6,.int .i64 dir,.string nm,.int .i64 tt,.string sa,.string dt]] w (a6 B (au a cap m) w):=by
 have hsm:=bC hi;have hBw:=h.top.base;have hm:=bj h.p;have hns:nm.size<=24:=aL nm hnb;have hmem:=List.mem_of_getElem? hy;have hye:=hsm.2 _ hmem;(try dsimp only at hye);have hkl:k<m.length:=(List.getElem?_eq_some_iff.1 hy).1;obtain⟨bv,ov,rfl,zQ,-,-,-,-,-,-⟩:=aC h.p hy;have HP:=zH h.p;have HOW:=zH h;have HI:=zH hi;have wW:=zH (And.intro hy hat);have uY:=zH (gp w next (some ⟨bv,ov,none⟩) m.length cap 6 dir nm tt sa dt);have u6:Hid (∀W,Bx w next (some ⟨bv,ov,none⟩) m.length cap 6 dir nm tt sa dt W->∀(v0 v1:Int) (v2 v3:ByteArray),a6 B (au (some ⟨bv,ov,none⟩) cap m) w (.returned (.tuple #[.agg #[.int .i64 next,.slice (some ⟨bv,ov,none⟩) m.length cap],.agg #[.int .i64 v0,.int .i64 v1,.string v2,.string v3]])) _):=zH (fun W hb v0 v1 v2 v3=>hb.same h hi v0 v1 v2 v3);have xS:Hid (∀W,Below w.heap.size w W->Calls Tryz.prog 124 #[.agg #[.int .i64 next,.slice (some ⟨bv,ov,none⟩) m.length cap],.int .i64 dir] W fun e w'=>e=.returned (.slice ya Y.ents.length yc)/\Below W.heap.size W w'):=zH (fun W hW=>aF next (some ⟨bv,ov,none⟩) m.length cap m dir k ⟨Y,ya,yc⟩ W (HP.out.step hW) hy hat);have Ap:Hid (∀W,Below w.heap.size w W->Rd W ya Y.ents.length yc 4 (ens Y.ents)):=zH (fun W hW=>((HP.out.step hW).2 _ hmem));have vJ:Hid (∀e∈Y.ents,e.name.size<=1073741824):=zH hye.2;have h12:Y.ents.length<=12:=hye.1;have h16:=hsm.1;have zF:Hid (∀W,Below w.heap.size w W->Calls Tryz.prog 75 #[.agg #[.int .i64 next,.slice (some ⟨bv,ov,none⟩) m.length cap]] W (cG next m W)):=zH (fun W hW=>bL next (some ⟨bv,ov,none⟩) cap m W (HP.out.step hW) (by omega) (fun z hz=>by have:=(hsm.2 z hz).1;omega));have Cb:sa.size<=24:=aL sa vM;have vK:=List.mem_of_getElem? hy2;have vO:=hsm.2 _ vK;(try dsimp only at vO);have xG:=zH (And.intro hy2 vH);have yo:=zH vM;have yU:=zH vW;have ww:Hid (∀W,Below w.heap.size w W->Calls Tryz.prog 124 #[.agg #[.int .i64 next,.slice (some ⟨bv,ov,none⟩) m.length cap],.int .i64 tt] W fun e w'=>e=.returned (.slice ya2 Y2.ents.length yc2)/\Below W.heap.size W w'):=zH (fun W hW=>aF next (some ⟨bv,ov,none⟩) m.length cap m tt k2 ⟨Y2,ya2,yc2⟩ W (HP.out.step hW) hy2 vH)
 have wT:Hid (∀W,Below w.heap.size w W->Rd W ya2 Y2.ents.length yc2 4 (ens Y2.ents)):=zH (fun W hW=>((HP.out.step hW).2 _ vK));have xV:Hid (∀e∈Y2.ents,e.name.size<=1073741824):=zH vO.2;have h122:Y2.ents.length<=12:=vO.1;clear hy2 vH vW vM vO vK;have MR:=zH hnb;clear h hi hy hat hnb hye hsm hmem hkd;go_enter Tryz.func100,Tryz.ntmps100
 go_wp2;generalize (((w.alloc (.cells #[.int .i64 next,.slice (some ⟨bv,ov,none⟩) m.length cap] 26)).alloc (.cells #[.int .i64 6,.int .i64 dir,.string nm,.int .i64 tt,.string sa,.string dt] 94)).alloc (.cells #[.int .i64 0,.slice none 0 0] 26)).alloc (.cells #[.int .i64 0,.int .i64 0,.string ⟨#[]⟩,.string ⟨#[]⟩] 90)=w1 at *;have uR:Hid (∀W,Below w1.heap.size w1 W->(W.cell? ⟨w.heap.size,0,none⟩=some (.int .i64 next)/\W.cell? ⟨w.heap.size,1,none⟩=some (.slice (some ⟨bv,ov,none⟩) m.length cap)/\W.cell? ⟨w.heap.size+1,1,none⟩=some (.int .i64 dir)/\W.cell? ⟨w.heap.size+1,2,none⟩=some (.string nm)/\Below w1.heap.size w1 W)):=zH (fun W hW=>⟨(uY.out.below hW).v.two.1.1,(uY.out.below hW).v.two.1.2,(uY.out.below hW).c.six.2.1,(uY.out.below hW).c.six.2.2.1,hW⟩);have hB0:=Below.refl w1.heap.size w1;refine tkB uR 8 rfl (by kernel_rfl) (by first|exact zB|assumption) (fun uQ=>?_);simp only[List.replicate];clear hB0;refine tkI [0,1,2,4,5] ?_;(iterate 5 (refine tkS rfl (by kernel_rfl) (fun _ _ _=>id) (by rfl) (by intro w h;(try dsimp only at h);go_simp;try rfl) uQ ?_;try simp only[Act.put,tkA,tk0,tk1]));refine tkE ?_;refine wR 3 rfl (by kernel_rfl) (fun K hK=>?_);(try dsimp only at uQ);go_simp;(go_at_call 124;refine(xS.out _ (ac uY.out.b uQ.2.2.2.2)).mono ?_;rintro e w7 ⟨rfl,hbk⟩)
 refine hK.out _ _ ?_ ?_
 ·(try dsimp only);(go_split_ands;first|exact uR.out _ (by assumption)|exact uR.out _ (Below.drew (by assumption))|exact uR.out _ (ac (by assumption) (by assumption)))
 clear hK K uQ;intro uQ;clear hbk;refine wR 6 rfl (by kernel_rfl) (fun K hK=>?_);(try dsimp only at uQ);go_simp;(go_at_call 123;refine(bM ya _ yc Y.ents nm _ (Ap.out _ (ac uY.out.b uQ.2.2.2.2)) vJ.out (by omega)).mono ?_;rintro e w2 ⟨r,rfl,hE,hbk⟩)
 refine hK.out _ _ ?_ ?_
 ·(try dsimp only);(go_split_ands;first|exact uR.out _ (by assumption)|exact uR.out _ (Below.drew (by assumption))|exact uR.out _ (ac (by assumption) (by assumption)))
 clear hK K uQ;intro uQ;clear hbk;refine tkI [7] ?_;(iterate 1 (refine tkS rfl (by kernel_rfl) (fun _ _ _=>id) (by rfl) (by intro w h;(try dsimp only at h);go_simp;try rfl) uQ ?_;try simp only[Act.put,tkA,tk0,tk1]));refine tkE ?_;refine wpAnyH_done (by kernel_rfl) ?_ _;(try dsimp only at uQ);have uU:=zH (uY.out.below uQ.2.2.2.2);clear uQ uR uY;obtain⟨⟨v0,v1⟩,fv0,fv1⟩:=uU.out.v.two;have c0:=uU.out.c.six;have r0:=uU.out.r.two;have s0:=uU.out.s.four;have hz2:=uU.out.size;rcases hE with ⟨rfl,-⟩|⟨j,hj,rfl,hj1,hj2⟩
 ·have hneg:(-1:Int)<0:=by omega
  go_wp2;exact bE (uU.out.out _ _ _ _ _ _).1 (by rfl) (by rfl) (by rfl) (u6.out _ uU.out _ _ _ _)
 have hjp:(0:Int)<=(j:Int):=by omega
 have hjn:¬(j:Int)<0:=by omega
 have hjl:(j:Int)<(Y.ents.length:Int):=by omega
 have Bp:Hid (∀a c W,Rd W a Y.ents.length c 4 (ens Y.ents)->Calls Tryz.prog 118 #[.slice a Y.ents.length c,.string nm] W (fZ Y.ents j W)):=zH (fun a c W hr=>cn a c Y.ents nm j hj W hr vJ.out (by omega) (by omega) hj1 hj2);obtain⟨kx,⟨X,xa,xc⟩,hyx,vz,hidx,hx1,zR,zS⟩:=eD HI.out wW.out.1 (List.getElem_mem hj);try dsimp only at vz hidx hx1 zR zS
 have HX0:=zH (And.intro hyx vz);have xL:=zH hidx;have zT:kx<m.length:=(List.getElem?_eq_some_iff.1 hyx).1;have yl:Hid (∀W,Below w.heap.size w W->Calls Tryz.prog 69 #[.agg #[.int .i64 next,.slice (some ⟨bv,ov,none⟩) m.length cap],.int .i64 X.id] W fun e w'=>e=.returned (.int .i64 (kx:Int))/\Below W.heap.size W w'):=zH (fun W hW=>by rw[←vz];exact aT next (some ⟨bv,ov,none⟩) m.length cap (xs m) X.id W (HP.out.step hW).rd);have Qo:Hid (∀W,VolOwn B W (some ⟨bv,ov,none⟩) cap m W->Calls Tryz.prog 127 #[.agg #[.int .i64 next,.slice (some ⟨bv,ov,none⟩) m.length cap],.agg #[.int .i64 6,.int .i64 dir,.string nm,.int .i64 tt,.string sa,.string dt],.agg #[.int .i64 X.id,.int .i64 X.kind,.int .i64 X.links,.string X.data,.slice xa X.ents.length xc]] W (a6 B (au (some ⟨bv,ov,none⟩) cap m) W)):=zH (fun W hv=>mn B next (some ⟨bv,ov,none⟩) cap m 6 dir nm tt sa dt k Y ya yc k2 Y2 ya2 yc2 kx X xa xc j hj W hv HI.out wW.out.1 wW.out.2 xG.out.1 xG.out.2 yU.out hyx vz hidx hj1 hj2 MR.out yo.out);clear hj1 hj2;have hxg:=bD HI.out hyx;have zU:=dO HI.out hyx hx1;try dsimp only at hxg zU
 have DI:=zH hxg;have I1:X.ents.length<=12:=hxg.len;clear hyx vz hxg;go_wp2_with fail
 refine(xS.out _ uU.out.b).mono ?_;rintro e w3 ⟨rfl,hb⟩;have uV:=zH (uU.out.below hb);clear v0 v1 fv0 fv1 c0 r0 s0;clear hb uU;obtain⟨⟨v0,v1⟩,fv0,fv1⟩:=uV.out.v.two;have c0:=uV.out.c.six;have r0:=uV.out.r.two;have s0:=uV.out.s.four;have hz3:=uV.out.size;obtain⟨be,oe,rfl,hbe,e0,e1,e2,e3⟩:=ay (Ap.out _ uV.out.b) j hj;rw[←hidx] at e3;clear hidx;generalize Y.ents[j].hash=eh at *;generalize Y.ents[j].index=ei at *;generalize Y.ents[j].name=en at *;have zl:=zH (ar w3 74 #[.int .i64 eh,.int .i64 ei,.string en,.int .i64 X.id]);have vw:=zH (uV.out.below (az w3 (.cells #[.int .i64 eh,.int .i64 ei,.string en,.int .i64 X.id] 74)));have Bl:w3.heap.size<(w3.alloc (.cells #[.int .i64 eh,.int .i64 ei,.string en,.int .i64 X.id] 74)).heap.size:=by simp
 go_upto_region 5 with fail
 clear v0 v1 fv0 fv1 c0 r0 s0;clear e0 e1 e2 e3 uV;generalize w3.alloc (.cells #[.int .i64 eh,.int .i64 ei,.string en,.int .i64 X.id] 74)=w4 at *;obtain⟨b2,o2,e',-,d0',d1',d2',d3',d4',-⟩:=aC (HP.out.step vw.out.b) HX0.out.1;cases e';try dsimp only at d0' d1' d2' d3' d4'
 have uR:Hid (∀W,Below w4.heap.size w4 W->(W.cell? ⟨w.heap.size,0,none⟩=some (.int .i64 next)/\W.cell? ⟨w.heap.size,1,none⟩=some (.slice (some ⟨bv,ov,none⟩) m.length cap)/\W.cell? ⟨w3.heap.size,3,none⟩=some (.int .i64 X.id)/\W.cell? ⟨bv,ov+kx*5,none⟩=some (.int .i64 X.id)/\W.cell? ⟨bv,ov+kx*5+1,none⟩=some (.int .i64 X.kind)/\W.cell? ⟨bv,ov+kx*5+2,none⟩=some (.int .i64 X.links)/\W.cell? ⟨bv,ov+kx*5+3,none⟩=some (.string X.data)/\W.cell? ⟨bv,ov+kx*5+4,none⟩=some (.slice xa X.ents.length xc)/\Below w4.heap.size w4 W)):=zH (fun W hW=>⟨(vw.out.below hW).v.two.1.1,(vw.out.below hW).v.two.1.2,(zl.out.below hW).four.1.2.2.2,af d0' hW,af d1' hW,af d2' hW,af d3' hW,af d4' hW,hW⟩);clear d0' d1' d2' d3' d4';have hxi:(kx:Int)<(m.length:Int):=by omega
 have DJ:(0:Int)<=(kx:Int):=by omega
 go_cut [8] from 33 to 40 (fun p wx => ∃xb:Nat,p=.pointer (some ⟨xb,0,none⟩)/\w4.heap.size<=xb/\Hid (Cs wx xb [.int .i64 X.id,.int .i64 X.kind,.int .i64 X.links,.string X.data,.slice xa X.ents.length xc])/\Hid (Below w4.heap.size w4 wx))
 case first =>
  refine tkB uR 10 rfl (by kernel_rfl) (by first|exact zB|assumption) (fun uQ=>?_);simp only[List.replicate];refine tkI [0,1,2,3,4] ?_;(iterate 5 (refine tkS rfl (by kernel_rfl) (fun _ _ _=>id) (by rfl) (by intro w h;(try dsimp only at h);go_simp;try rfl) uQ ?_;try simp only[Act.put,tkA,tk0,tk1]));refine tkE ?_;refine wpAnyH_ready (rs:=[5,8]) (by kernel_rfl) (by simp) ?_;refine AllReadyH.cons rfl (fun K hK=>?_) (AllReadyH.cons rfl (fun K hK=>?_) AllReadyH.nil)
  ·(try dsimp only at uQ);go_simp;(go_at_call 69;refine(yl.out _ (ac vw.out.b zB.drew)).mono ?_;rintro e w5 ⟨rfl,hbk⟩)
   have vg:=zH (ac zB.drew hbk);clear hbk;refine hK.out _ _ (by exact uR.out _ vg.out) (fun uS=>?_);clear hK K uQ;have uQ:=uS;clear uS;refine tkI [6,7] ?_;(iterate 2 (refine tkS rfl (by kernel_rfl) (fun _ _ _=>id) (by rfl) (by intro w h;(try dsimp only at h);go_simp;try rfl) uQ ?_;try simp only[Act.put,tkA,tk0,tk1]));refine tkE ?_;refine wR 8 rfl (by kernel_rfl) (fun K hK=>?_);(try dsimp only at uQ);go_simp;skip
   refine hK.out _ _ ?_ ?_
   ·(try dsimp only);exact uR.out _ (ac vg.out (az _ _))
   clear hK K uQ;intro uQ;have y9:=vg.out.size;refine wR 9 rfl (by kernel_rfl) (fun K hK=>?_);(try dsimp only at uQ);go_simp;skip
   refine hK.out _ _ ?_ ?_
   ·(try dsimp only);exact uR.out _ (ac vg.out (az _ _))
   clear hK K uQ;intro uQ;refine wpAnyH_done (by kernel_rfl) ?_ _;(try dsimp only at uQ);clear uQ uR;go_wp2_with fail
   go_meet;exact⟨w5.heap.size,rfl,y9,zH (ar w5 45 #[.int .i64 X.id,.int .i64 X.kind,.int .i64 X.links,.string X.data,.slice xa X.ents.length xc]),zH (ac vg.out (az _ _))⟩
  ·(try dsimp only at uQ);go_simp;refine hK.out _ _ (by exact uR.out _ (ac zB.drew (az _ _))) (fun uS=>?_);clear hK K uQ;have uQ:=uS;clear uS;have HZ:Hid (Cs (w4.drew.alloc (.cells #[.int .i64 0,.int .i64 0,.int .i64 0,.string ⟨#[]⟩,.slice none 0 0] 45)) w4.heap.size [.int .i64 0,.int .i64 0,.int .i64 0,.string ⟨#[]⟩,.slice none 0 0]):=zH (ar w4.drew 45 #[.int .i64 0,.int .i64 0,.int .i64 0,.string ⟨#[]⟩,.slice none 0 0]);have xu:=zH (ac (Below.refl w4.heap.size w4).drew (az w4.drew (.cells #[.int .i64 0,.int .i64 0,.int .i64 0,.string ⟨#[]⟩,.slice none 0 0] 45)));refine wR 5 rfl (by kernel_rfl) (fun K hK=>?_);(try dsimp only at uQ);go_simp;(go_at_call 69;refine(yl.out _ (ac vw.out.b xu.out)).mono ?_;rintro e w5 ⟨rfl,hbk⟩)
   refine hK.out _ _ ?_ ?_
   ·(try dsimp only);exact uR.out _ (ac xu.out hbk)
   clear hK K uQ;intro uQ;have vg:=zH (ac xu.out hbk);have ym:=zH (HZ.out.below hbk);have y9:w4.heap.size<w5.heap.size:=ym.out.lt;clear hbk HZ xu;refine tkI [6,7] ?_;(iterate 2 (refine tkS rfl (by kernel_rfl) (fun _ _ _=>id) (by rfl) (by intro w h;(try dsimp only at h);go_simp;try rfl) uQ ?_;try simp only[Act.put,tkA,tk0,tk1]));refine tkE ?_;have z0:=ym.out.five;refine wR 9 rfl (by kernel_rfl) (fun K hK=>?_);(try dsimp only at uQ);go_simp;skip
   refine hK.out _ _ ?_ ?_
   ·(try dsimp only);exact uR.out _ (vg.out.trans (aX w5 w4.heap.size _ _ _ _ _))
   clear hK K uQ;intro uQ;refine wpAnyH_done (by kernel_rfl) ?_ _;(try dsimp only at uQ);clear uQ uR;go_wp2_with fail
   go_meet;exact⟨w4.heap.size,rfl,zN,zH (bm ym.out _ _ _ _ _),zH (vg.out.trans (aX w5 w4.heap.size _ _ _ _ _))⟩
 case rest =>
 obtain⟨xb,rfl,hxb,wM,wu⟩:=hcut;clear uR;obtain⟨w6,yG⟩:∃x:World,x=wc:=⟨_,rfl⟩;subst yG;have uW:=zH (vw.out.below wu.out);have Ay:=zH (zl.out.below wu.out);have DK:xb<w6.heap.size:=wM.out.lt;clear zl vw wu;obtain⟨⟨v0,v1⟩,fv0,fv1⟩:=uW.out.v.two;have c0:=uW.out.c.six;have r0:=uW.out.r.two;have s0:=uW.out.s.four;have x0:=wM.out.five;have xA:w.heap.size+4<=w6.heap.size:=by omega
 go_wp2_with fail
 refine(zF.out _ uW.out.b).mono ?_;rintro e w7 ⟨a',c',m',rfl,vU,uZ,hv⟩;obtain⟨g,hg⟩:∃g,a'=some ⟨g,0,none⟩:=by
  obtain⟨g,cp,e,_⟩:=hv.top.shape1 (by omega);exact⟨g,by cases e;rfl⟩
 subst hg;have zV:w6.heap.size<=g/\g<w7.heap.size:=hv.top.blk g rfl;have wE:=hv.below;clear v0 v1 fv0 fv1 c0 r0 s0;clear x0;have xw:=zH (ar w7 26 #[.int .i64 next,.slice (some ⟨g,0,none⟩) m.length c']);have vC:=zH ((uW.out.below wE).below (az w7 (.cells #[.int .i64 next,.slice (some ⟨g,0,none⟩) m.length c'] 26)));have zD:=zH ((wM.out.below wE).below (az w7 (.cells #[.int .i64 next,.slice (some ⟨g,0,none⟩) m.length c'] 26)));have zm:=zH ((Ay.out.below wE).below (az w7 (.cells #[.int .i64 next,.slice (some ⟨g,0,none⟩) m.length c'] 26)));have xH:=zH (hv.alloc (.cells #[.int .i64 next,.slice (some ⟨g,0,none⟩) m.length c'] 26));have xO:=zH (fun q hq=>hv.bl q hq);have wJ:=zH vU;have zW:=zH uZ;have CZ:w7.heap.size<(w7.alloc (.cells #[.int .i64 next,.slice (some ⟨g,0,none⟩) m.length c'] 26)).heap.size:=by simp
 have CF:w6.heap.size<=w7.heap.size:=wE.size;have vR:Hid (Inv d0 next (xs m')):=zH (by rw[uZ];exact HI.out);have AL:Hid (atF (xs m') dir=(k:Int)):=zH (by rw[uZ];exact wW.out.2);have AO:Hid (atF (xs m') X.id=(kx:Int)):=zH (by rw[uZ];exact HX0.out.2);obtain⟨za,zc,hz'⟩:=aK uZ wW.out.1;obtain⟨ua,uc,hu'⟩:=aK uZ HX0.out.1;try dsimp only at hz' hu'
 have Ca:=zH hz';have BO:=zH hu';clear hv wE vU uZ wM Ay hz' hu';have hwk:(w.heap.size<w7.heap.size)/\(w.heap.size+1<w7.heap.size)/\(w.heap.size+2<w7.heap.size)/\(w.heap.size+3<w7.heap.size)/\w3.heap.size<w7.heap.size/\xb<w7.heap.size:=by omega
 obtain⟨hq0,hq1,hq2,hq3,hq4,Gu⟩:=hwk;go_upto_region 8 with fail
 generalize w7.alloc (.cells #[.int .i64 next,.slice (some ⟨g,0,none⟩) m.length c'] 26)=wS at *;obtain⟨⟨v0,v1⟩,fv0,fv1⟩:=vC.out.v.two;have c0:=vC.out.c.six;have r0:=vC.out.r.two;have s0:=vC.out.s.four;have x0:=zD.out.five;have y0:=xw.out.two;obtain⟨⟨e0,e1,e2,e3⟩,fe0,fe1,fe2,fe3⟩:=zm.out.four;go_cut [47] from 15 to 46 (fun q wx=>q=.int .i64 6/\wS=wx)
 case first =>
  go_wp2_with fail
  go_meet;exact⟨rfl,rfl⟩
 case rest =>
 obtain⟨rfl,rfl⟩:=hcut;have BQ:=zH ((HOW.out.kept vC.out.b).self);go_wp2_with fail
 refine(Qo.out _ BQ.out).mono ?_;rintro e w9 ⟨nx,a9,c9,m9,u0,u1,u2,u3,rfl,zo,zq,yw,zt⟩;have vB:=zH (vC.out.below yw);have vv:=zH (vB.out.pass vC.out.size HOW.out zq zo zt u0 u1 u2 u3);clear zo zq yw zt;clear v0 v1 fv0 fv1 c0 r0 s0 x0 y0 e0 e1 e2 e3 fe0 fe1 fe2 fe3;obtain⟨⟨v0,v1⟩,fv0,fv1⟩:=vB.out.v.two;have c0:=vB.out.c.six;have r0:=vB.out.r.two;have s0:=vB.out.s.four;go_wp2;exact bE (vB.out.out _ _ _ _ _ _).1 (by rfl) (by rfl) (by rfl) vv.out
theorem qX (B:Nat)(next:Int)(a:Option Addr)(cap:Nat)(m:List InoP)(kd dir:Int)(nm:ByteArray)(tt:Int)(sa dt:ByteArray)(k:Nat)(Y:InoL)(ya:Option Addr)(yc:Nat)(w:World)(h:VolOwn B w a cap m w)(hi:Inv d0 next (xs m))(hy:m[k]? = some ⟨Y,ya,yc⟩)(hat:atF (xs m) dir=(k:Int))(hkd:Y.kind=2)(hnb:aI nm=true)(hdt:dt.size<=1000)(h5:kd≠5)(h6:kd≠6) :
  Calls Tryz.prog 100 #[.agg #[.int .i64 next,.slice a m.length cap],.agg #[.int .i64 kd,.int .i64 dir,.string nm,.int .i64 tt,.string sa,.string dt]] w (a6 B (au a cap m) w):=by
 by_cases h3:kd=3
 ·subst h3;exact rc B next a cap m dir nm tt sa dt k Y ya yc w h hi hy hat hkd hnb
 by_cases h4:kd=4
 ·subst h4;exact rf B next a cap m dir nm tt sa dt k Y ya yc w h hi hy hat hkd hnb
 by_cases h7:kd=7
 ·subst h7;exact qm B next a cap m dir nm tt sa dt k Y ya yc w h hi hy hat hkd hnb hdt
 exact rg B next a cap m kd dir nm tt sa dt k Y ya yc w h hi hy hat hkd hnb h3 h4 h5 h6 h7
theorem j7 (B:Nat)(next:Int)(a:Option Addr)(cap:Nat)(m:List InoP)(kd dir:Int)(nm:ByteArray)(tt:Int)(sa dt:ByteArray)(w:World)(h:VolOwn B w a cap m w)(hi:Inv d0 next (xs m))(hs1:nm.size<=maxLen)(hs2:sa.size<=maxLen)(hs3:dt.size<=maxLen) :
  Calls Tryz.prog 73 #[.agg #[.int .i64 next,.slice a m.length cap],.agg #[.int .i64 kd,.int .i64 dir,.string nm,.int .i64 tt,.string sa,.string dt]] w (a6 B (au a cap m) w):=by
 have HOW:=zH h;have HI:=zH hi;have HP:=zH h.p;have uY:=zH (gp w next a m.length cap kd dir nm tt sa dt);have u6:Hid (∀W,Bx w next a m.length cap kd dir nm tt sa dt W->∀(v0 v1:Int) (v2 v3:ByteArray),a6 B (au a cap m) w (.returned (.tuple #[.agg #[.int .i64 next,.slice a m.length cap],.agg #[.int .i64 v0,.int .i64 v1,.string v2,.string v3]])) _):=zH (fun W hb v0 v1 v2 v3=>hb.same h hi v0 v1 v2 v3);have Qr:Hid (∀W,Calls Tryz.prog 97 #[.agg #[.int .i64 kd,.int .i64 dir,.string nm,.int .i64 tt,.string sa,.string dt]] W fun e w'=>e=.returned (.bool (aW kd dir nm tt sa dt))/\Below W.heap.size W w'):=zH (fun W=>kq kd dir tt nm sa dt hs1 hs2 hs3 W);have Hd:Hid (∀W,Below w.heap.size w W->Calls Tryz.prog 69 #[.agg #[.int .i64 next,.slice a m.length cap],.int .i64 dir] W fun e w'=>e=.returned (.int .i64 (atF (xs m) dir))/\Below W.heap.size W w'):=zH (fun W hW=>aT next a m.length cap (xs m) dir W (HP.out.step hW).rd);have Jk:Hid (∀W,Below w.heap.size w W->Calls Tryz.prog 69 #[.agg #[.int .i64 next,.slice a m.length cap],.int .i64 tt] W fun e w'=>e=.returned (.int .i64 (atF (xs m) tt))/\Below W.heap.size W w'):=zH (fun W hW=>aT next a m.length cap (xs m) tt W (HP.out.step hW).rd);have HD1:Hid (∀W,Below w.heap.size w W->Calls Tryz.prog 98 #[.agg #[.int .i64 next,.slice a m.length cap],.int .i64 dir] W (oP m dir W)):=zH (fun W hW=>jl next a m.length cap m dir W (HP.out.step hW));have HD2:Hid (∀W,Below w.heap.size w W->Calls Tryz.prog 98 #[.agg #[.int .i64 next,.slice a m.length cap],.int .i64 tt] W (oP m tt W)):=zH (fun W hW=>jl next a m.length cap m tt W (HP.out.step hW));clear h hi hs1 hs2 hs3;go_enter Tryz.func73,Tryz.ntmps73
 go_wp2_with fail
 generalize (((w.alloc (.cells #[.int .i64 next,.slice a m.length cap] 26)).alloc (.cells #[.int .i64 kd,.int .i64 dir,.string nm,.int .i64 tt,.string sa,.string dt] 94)).alloc (.cells #[.int .i64 0,.slice none 0 0] 26)).alloc (.cells #[.int .i64 0,.int .i64 0,.string ⟨#[]⟩,.string ⟨#[]⟩] 90)=w1 at *;refine(Qr.out _).mono ?_;rintro e w2 ⟨rfl,hb⟩;have uU:=zH (uY.out.below hb);clear hb uY;obtain⟨⟨v0,v1⟩,fv0,fv1⟩:=uU.out.v.two;have c0:=uU.out.c.six;have r0:=uU.out.r.two;have s0:=uU.out.s.four;generalize hck:aW kd dir nm tt sa dt=ck at *;cases ck with
 | false =>
  go_wp2;exact bz (uU.out.out _ _ _ _ _ _).1 (by rfl) (by rfl) (by rfl) (u6.out _ uU.out _ _ _ _)
 | true =>
  unfold aW at hck;obtain⟨⟨hkl,hkh⟩,-,-,hnl,hsl,hdl,-⟩:=of_decide_eq_true hck;have Dj:Hid (∀W,Calls Tryz.prog 93 #[.string nm] W fun e w'=>e=.returned (.bool (aI nm))/\Below W.heap.size W w'):=zH (fun W=>cB nm W (by omega));have yf:Hid (∀W,Calls Tryz.prog 93 #[.string sa] W fun e w'=>e=.returned (.bool (aI sa))/\Below W.heap.size W w'):=zH (fun W=>cB sa W (by omega));clear hck;by_cases h5:kd=5
  ·subst h5;go_wp2_with fail
   refine(Hd.out _ uU.out.b).mono ?_;rintro e w3 ⟨rfl,hb⟩;have uV:=zH (uU.out.below hb);clear hb uU;clear v0 v1 fv0 fv1 c0 r0 s0;obtain⟨⟨v0,v1⟩,fv0,fv1⟩:=uV.out.v.two;have c0:=uV.out.c.six;have r0:=uV.out.r.two;have s0:=uV.out.s.four;generalize hr1:atF (xs m) dir=i1 at *;have HR1:=zH hr1;clear hr1;by_cases hn1:i1<0
   ·go_wp2;exact bz (uV.out.out _ _ _ _ _ _).1 (by rfl) (by rfl) (by rfl) (u6.out _ uV.out _ _ _ _)
   go_wp2_with fail
   refine(Jk.out _ uV.out.b).mono ?_;rintro e w4 ⟨rfl,hb⟩;have vw:=zH (uV.out.below hb);clear hb uV;clear v0 v1 fv0 fv1 c0 r0 s0;obtain⟨⟨v0,v1⟩,fv0,fv1⟩:=vw.out.v.two;have c0:=vw.out.c.six;have r0:=vw.out.r.two;have s0:=vw.out.s.four;generalize hr2:atF (xs m) tt=i2 at *;have HR2:=zH hr2;clear hr2;by_cases hn2:i2<0
   ·go_wp2;exact bz (vw.out.out _ _ _ _ _ _).1 (by rfl) (by rfl) (by rfl) (u6.out _ vw.out _ _ _ _)
   go_wp2_with fail
   refine(HD1.out _ vw.out.b).mono ?_;rintro e w5 ⟨b1,rfl,hd1,hb⟩;have BB:=zH hd1;clear hd1;have A8:=zH (vw.out.below hb);clear hb vw;clear v0 v1 fv0 fv1 c0 r0 s0;obtain⟨⟨v0,v1⟩,fv0,fv1⟩:=A8.out.v.two;have c0:=A8.out.c.six;have r0:=A8.out.r.two;have s0:=A8.out.s.four;cases b1 with
   | false =>
    go_wp2;exact bz (A8.out.out _ _ _ _ _ _).1 (by rfl) (by rfl) (by rfl) (u6.out _ A8.out _ _ _ _)
   | true =>
    obtain⟨k,⟨Y,ya,yc⟩,hy,hat,hkd⟩:=BB.out rfl;have BC:=zH (And.intro hy (And.intro hat hkd));clear hy hat hkd BB;go_wp2_with fail
    refine(HD2.out _ A8.out.b).mono ?_;rintro e w6 ⟨b2,rfl,hd2,hb⟩;have Ee:=zH hd2;clear hd2;have uW:=zH (A8.out.below hb);clear hb A8;clear v0 v1 fv0 fv1 c0 r0 s0;obtain⟨⟨v0,v1⟩,fv0,fv1⟩:=uW.out.v.two;have c0:=uW.out.c.six;have r0:=uW.out.r.two;have s0:=uW.out.s.four;cases b2 with
    | false =>
     go_wp2;exact bz (uW.out.out _ _ _ _ _ _).1 (by rfl) (by rfl) (by rfl) (u6.out _ uW.out _ _ _ _)
    | true =>
     obtain⟨k2,⟨Y2,ya2,yc2⟩,hy2,vH,vW⟩:=Ee.out rfl;have Cq:=zH (And.intro hy2 (And.intro vH vW));clear hy2 vH vW Ee;go_wp2_with fail
     refine(Dj.out _).mono ?_;rintro e w7 ⟨rfl,hb⟩;have BD:=zH (uW.out.below hb);clear hb uW;clear v0 v1 fv0 fv1 c0 r0 s0;obtain⟨⟨v0,v1⟩,fv0,fv1⟩:=BD.out.v.two;have c0:=BD.out.c.six;have r0:=BD.out.r.two;have s0:=BD.out.s.four;generalize wm:aI nm=nb1 at *;have Cr:=zH wm;clear wm;cases nb1 with
     | false =>
      go_wp2;exact bz (BD.out.out _ _ _ _ _ _).1 (by rfl) (by rfl) (by rfl) (u6.out _ BD.out _ _ _ _)
     | true =>
      go_wp2_with fail
      refine(yf.out _).mono ?_;rintro e w8 ⟨rfl,hb⟩;have A9:=zH (BD.out.below hb);clear hb BD;clear v0 v1 fv0 fv1 c0 r0 s0;obtain⟨⟨v0,v1⟩,fv0,fv1⟩:=A9.out.v.two;have c0:=A9.out.c.six;have r0:=A9.out.r.two;have s0:=A9.out.s.four;generalize vM:aI sa=nb2 at *;have yo:=zH vM;clear vM;cases nb2 with
      | false =>
       go_wp2;exact bz (A9.out.out _ _ _ _ _ _).1 (by rfl) (by rfl) (by rfl) (u6.out _ A9.out _ _ _ _)
      | true =>
       have BQ:=zH ((HOW.out.kept A9.out.b).self);go_wp2_with fail
       refine(qj B next a cap m dir nm tt sa dt k Y ya yc _ BQ.out HI.out BC.out.1 BC.out.2.1 BC.out.2.2 Cr.out k2 Y2 ya2 yc2 Cq.out.1 Cq.out.2.1 Cq.out.2.2 yo.out).mono ?_;rintro e w9 ⟨nx,a9,c9,m9,u0,u1,u2,u3,rfl,zo,zq,yw,zt⟩;have vB:=zH (A9.out.below yw);have vv:=zH (vB.out.pass A9.out.size HOW.out zq zo zt u0 u1 u2 u3);clear zo zq yw zt BQ;clear v0 v1 fv0 fv1 c0 r0 s0;obtain⟨⟨v0,v1⟩,fv0,fv1⟩:=vB.out.v.two;have c0:=vB.out.c.six;have r0:=vB.out.r.two;have s0:=vB.out.s.four;go_wp2;exact bz (vB.out.out _ _ _ _ _ _).1 (by rfl) (by rfl) (by rfl) vv.out
  by_cases h6:kd=6
  ·subst h6;go_wp2_with fail
   refine(Hd.out _ uU.out.b).mono ?_;rintro e w10 ⟨rfl,hb⟩;have yX:=zH (uU.out.below hb);clear hb uU;clear v0 v1 fv0 fv1 c0 r0 s0;obtain⟨⟨v0,v1⟩,fv0,fv1⟩:=yX.out.v.two;have c0:=yX.out.c.six;have r0:=yX.out.r.two;have s0:=yX.out.s.four;generalize hr1:atF (xs m) dir=i1 at *;have HR1:=zH hr1;clear hr1;by_cases hn1:i1<0
   ·go_wp2;exact bz (yX.out.out _ _ _ _ _ _).1 (by rfl) (by rfl) (by rfl) (u6.out _ yX.out _ _ _ _)
   go_wp2_with fail
   refine(Jk.out _ yX.out.b).mono ?_;rintro e w11 ⟨rfl,hb⟩;have yY:=zH (yX.out.below hb);clear hb yX;clear v0 v1 fv0 fv1 c0 r0 s0;obtain⟨⟨v0,v1⟩,fv0,fv1⟩:=yY.out.v.two;have c0:=yY.out.c.six;have r0:=yY.out.r.two;have s0:=yY.out.s.four;generalize hr2:atF (xs m) tt=i2 at *;have HR2:=zH hr2;clear hr2;by_cases hn2:i2<0
   ·go_wp2;exact bz (yY.out.out _ _ _ _ _ _).1 (by rfl) (by rfl) (by rfl) (u6.out _ yY.out _ _ _ _)
   go_wp2_with fail
   refine(HD1.out _ yY.out.b).mono ?_;rintro e w12 ⟨b1,rfl,hd1,hb⟩;have BB:=zH hd1;clear hd1;have wN:=zH (yY.out.below hb);clear hb yY;clear v0 v1 fv0 fv1 c0 r0 s0;obtain⟨⟨v0,v1⟩,fv0,fv1⟩:=wN.out.v.two;have c0:=wN.out.c.six;have r0:=wN.out.r.two;have s0:=wN.out.s.four;cases b1 with
   | false =>
    go_wp2;exact bz (wN.out.out _ _ _ _ _ _).1 (by rfl) (by rfl) (by rfl) (u6.out _ wN.out _ _ _ _)
   | true =>
    obtain⟨k,⟨Y,ya,yc⟩,hy,hat,hkd⟩:=BB.out rfl;have BC:=zH (And.intro hy (And.intro hat hkd));clear hy hat hkd BB;go_wp2_with fail
    refine(HD2.out _ wN.out.b).mono ?_;rintro e w13 ⟨b2,rfl,hd2,hb⟩;have Ee:=zH hd2;clear hd2;have zu:=zH (wN.out.below hb);clear hb wN;clear v0 v1 fv0 fv1 c0 r0 s0;obtain⟨⟨v0,v1⟩,fv0,fv1⟩:=zu.out.v.two;have c0:=zu.out.c.six;have r0:=zu.out.r.two;have s0:=zu.out.s.four;cases b2 with
    | false =>
     go_wp2;exact bz (zu.out.out _ _ _ _ _ _).1 (by rfl) (by rfl) (by rfl) (u6.out _ zu.out _ _ _ _)
    | true =>
     obtain⟨k2,⟨Y2,ya2,yc2⟩,hy2,vH,vW⟩:=Ee.out rfl;have Cq:=zH (And.intro hy2 (And.intro vH vW));clear hy2 vH vW Ee;go_wp2_with fail
     refine(Dj.out _).mono ?_;rintro e w14 ⟨rfl,hb⟩;have zw:=zH (zu.out.below hb);clear hb zu;clear v0 v1 fv0 fv1 c0 r0 s0;obtain⟨⟨v0,v1⟩,fv0,fv1⟩:=zw.out.v.two;have c0:=zw.out.c.six;have r0:=zw.out.r.two;have s0:=zw.out.s.four;generalize wm:aI nm=nb1 at *;have Cr:=zH wm;clear wm;cases nb1 with
     | false =>
      go_wp2;exact bz (zw.out.out _ _ _ _ _ _).1 (by rfl) (by rfl) (by rfl) (u6.out _ zw.out _ _ _ _)
     | true =>
      go_wp2_with fail
      refine(yf.out _).mono ?_;rintro e w15 ⟨rfl,hb⟩;have yZ:=zH (zw.out.below hb);clear hb zw;clear v0 v1 fv0 fv1 c0 r0 s0;obtain⟨⟨v0,v1⟩,fv0,fv1⟩:=yZ.out.v.two;have c0:=yZ.out.c.six;have r0:=yZ.out.r.two;have s0:=yZ.out.s.four;generalize vM:aI sa=nb2 at *;have yo:=zH vM;clear vM;cases nb2 with
      | false =>
       go_wp2;exact bz (yZ.out.out _ _ _ _ _ _).1 (by rfl) (by rfl) (by rfl) (u6.out _ yZ.out _ _ _ _)
      | true =>
       have BQ:=zH ((HOW.out.kept yZ.out.b).self);go_wp2_with fail
       refine(qz B next a cap m dir nm tt sa dt k Y ya yc _ BQ.out HI.out BC.out.1 BC.out.2.1 BC.out.2.2 Cr.out k2 Y2 ya2 yc2 Cq.out.1 Cq.out.2.1 Cq.out.2.2 yo.out).mono ?_;rintro e w16 ⟨nx,a9,c9,m9,u0,u1,u2,u3,rfl,zo,zq,yw,zt⟩;have vB:=zH (yZ.out.below yw);have vv:=zH (vB.out.pass yZ.out.size HOW.out zq zo zt u0 u1 u2 u3);clear zo zq yw zt BQ;clear v0 v1 fv0 fv1 c0 r0 s0;obtain⟨⟨v0,v1⟩,fv0,fv1⟩:=vB.out.v.two;have c0:=vB.out.c.six;have r0:=vB.out.r.two;have s0:=vB.out.s.four;go_wp2;exact bz (vB.out.out _ _ _ _ _ _).1 (by rfl) (by rfl) (by rfl) vv.out
  have hk5:(kd==5)=false:=by simp[h5]
  have MQ:(kd==6)=false:=by simp[h6]
  have wY:=zH (And.intro h5 h6);go_wp2_with fail
  refine(Hd.out _ uU.out.b).mono ?_;rintro e w17 ⟨rfl,hb⟩;have y5:=zH (uU.out.below hb);clear hb uU;clear v0 v1 fv0 fv1 c0 r0 s0;obtain⟨⟨v0,v1⟩,fv0,fv1⟩:=y5.out.v.two;have c0:=y5.out.c.six;have r0:=y5.out.r.two;have s0:=y5.out.s.four;generalize hr1:atF (xs m) dir=i1 at *;have HR1:=zH hr1;clear hr1;by_cases hn1:i1<0
  ·go_wp2;exact bz (y5.out.out _ _ _ _ _ _).1 (by rfl) (by rfl) (by rfl) (u6.out _ y5.out _ _ _ _)
  go_wp2_with fail
  refine(HD1.out _ y5.out.b).mono ?_;rintro e w18 ⟨b1,rfl,hd1,hb⟩;have BB:=zH hd1;clear hd1;have zx:=zH (y5.out.below hb);clear hb y5;clear v0 v1 fv0 fv1 c0 r0 s0;obtain⟨⟨v0,v1⟩,fv0,fv1⟩:=zx.out.v.two;have c0:=zx.out.c.six;have r0:=zx.out.r.two;have s0:=zx.out.s.four;cases b1 with
  | false =>
   go_wp2;exact bz (zx.out.out _ _ _ _ _ _).1 (by rfl) (by rfl) (by rfl) (u6.out _ zx.out _ _ _ _)
  | true =>
   obtain⟨k,⟨Y,ya,yc⟩,hy,hat,hkd⟩:=BB.out rfl;have BC:=zH (And.intro hy (And.intro hat hkd));clear hy hat hkd BB;go_wp2_with fail
   refine(Dj.out _).mono ?_;rintro e w19 ⟨rfl,hb⟩;have xD:=zH (zx.out.below hb);clear hb zx;clear v0 v1 fv0 fv1 c0 r0 s0;obtain⟨⟨v0,v1⟩,fv0,fv1⟩:=xD.out.v.two;have c0:=xD.out.c.six;have r0:=xD.out.r.two;have s0:=xD.out.s.four;generalize wm:aI nm=nb1 at *;have Cr:=zH wm;clear wm;cases nb1 with
   | false =>
    go_wp2;exact bz (xD.out.out _ _ _ _ _ _).1 (by rfl) (by rfl) (by rfl) (u6.out _ xD.out _ _ _ _)
   | true =>
    by_cases h1:kd=1
    ·have hk1:(kd==1)=true:=by simp[h1]
     clear h1;have BQ:=zH ((HOW.out.kept xD.out.b).self);go_wp2_with fail
     refine(ku B next a cap m kd dir nm tt sa dt k ⟨Y,ya,yc⟩ _ BQ.out HI.out BC.out.1 BC.out.2.1 BC.out.2.2 Cr.out).mono ?_;rintro e w20 ⟨nx,a9,c9,m9,u0,u1,u2,u3,rfl,zo,zq,yw,zt⟩;have vB:=zH (xD.out.below yw);have vv:=zH (vB.out.pass xD.out.size HOW.out zq zo zt u0 u1 u2 u3);clear zo zq yw zt BQ;clear v0 v1 fv0 fv1 c0 r0 s0;obtain⟨⟨v0,v1⟩,fv0,fv1⟩:=vB.out.v.two;have c0:=vB.out.c.six;have r0:=vB.out.r.two;have s0:=vB.out.s.four;go_wp2;exact bz (vB.out.out _ _ _ _ _ _).1 (by rfl) (by rfl) (by rfl) vv.out
    by_cases h2:kd=2
    ·have hk2:(kd==2)=true/\(kd==1)=false:=by simp[h2]
     obtain⟨Qs,Qt⟩:=hk2;clear h2;have BQ:=zH ((HOW.out.kept xD.out.b).self);go_wp2_with fail
     refine(ku B next a cap m kd dir nm tt sa dt k ⟨Y,ya,yc⟩ _ BQ.out HI.out BC.out.1 BC.out.2.1 BC.out.2.2 Cr.out).mono ?_;rintro e w21 ⟨nx,a9,c9,m9,u0,u1,u2,u3,rfl,zo,zq,yw,zt⟩;have vB:=zH (xD.out.below yw);have vv:=zH (vB.out.pass xD.out.size HOW.out zq zo zt u0 u1 u2 u3);clear zo zq yw zt BQ;clear v0 v1 fv0 fv1 c0 r0 s0;obtain⟨⟨v0,v1⟩,fv0,fv1⟩:=vB.out.v.two;have c0:=vB.out.c.six;have r0:=vB.out.r.two;have s0:=vB.out.s.four;go_wp2;exact bz (vB.out.out _ _ _ _ _ _).1 (by rfl) (by rfl) (by rfl) vv.out
    have hk1:(kd==1)=false:=by simp[h1]
    have hk2:(kd==2)=false:=by simp[h2]
    have BQ:=zH ((HOW.out.kept xD.out.b).self);go_wp2_with fail
    refine(qX B next a cap m kd dir nm tt sa dt k Y ya yc _ BQ.out HI.out BC.out.1 BC.out.2.1 BC.out.2.2 Cr.out (by omega) wY.out.1 wY.out.2).mono ?_;rintro e w22 ⟨nx,a9,c9,m9,u0,u1,u2,u3,rfl,zo,zq,yw,zt⟩;have vB:=zH (xD.out.below yw);have vv:=zH (vB.out.pass xD.out.size HOW.out zq zo zt u0 u1 u2 u3);clear zo zq yw zt BQ;clear v0 v1 fv0 fv1 c0 r0 s0;obtain⟨⟨v0,v1⟩,fv0,fv1⟩:=vB.out.v.two;have c0:=vB.out.c.six;have r0:=vB.out.r.two;have s0:=vB.out.s.four;go_wp2;exact bz (vB.out.out _ _ _ _ _ _).1 (by rfl) (by rfl) (by rfl) vv.out
end Go.Proofs.YtlkfabkkjfmnmaaGreatDoor
