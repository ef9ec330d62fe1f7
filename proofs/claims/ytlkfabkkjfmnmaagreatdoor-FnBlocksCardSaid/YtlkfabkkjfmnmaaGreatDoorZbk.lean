import Derived.Test.YtlkfabkkjfmnmaaGreatDoorZas
import Derived.Test.YtlkfabkkjfmnmaaGreatDoorZbj
namespace Go.Proofs.YtlkfabkkjfmnmaaGreatDoor
open Go.RowKit
set_option linter.all false
set_option maxRecDepth 1000000
set_option maxHeartbeats 6000000
theorem pG {d:Int->Int}{next:Int}{m:List InoP}(h:Inv d next (xs m)):0<m.length:=by
 rcases Nat.eq_zero_or_pos m.length with h0|h0
 ·have:m = []:=List.eq_nil_of_length_eq_zero h0;subst this;have:=h.root;simp[xs,cu] at this
 ·exact h0
def qR (a:Option Addr)(n cap:Nat)(bs:List Int)(g:Nat)(w:World)(e:Ending)(w':World):Prop:=
 ∃(dir:Int) (t:ByteArray) (cs:CS),e=.returned (.tuple #[.int .i64 dir,.string t])/\t.size<=1073741824/\CurAt a n cap bs g cs w'/\w.grownBy w' (some g)
theorem gr (a:Option Addr)(n cap:Nat)(bs:List Int)(g:Nat)(s:CS)(B:Nat)(W0:World)(next:Int)(va:Option Addr)(vcap:Nat)(m:List InoP)(w:World)(hC:CurAt a n cap bs g s w)(h:VolOwn B W0 va vcap m w)(hgB:g<B)(hpos:0<m.length)(yg:m.length<=100000)
  (hsz:∀y∈m,y.x.ents.length<=100000/\∀e∈y.x.ents,e.name.size<=1073741824) :
  Calls Tryz.prog 101 #[.pointer (some ⟨g,0,none⟩),.agg #[.int .i64 next,.slice va m.length vcap]] w (qR a n cap bs g w):=by
 have vJ:=zH hsz;have hm:=bj h.p;have NW:=hC.lt;have hr:=aJ bs (m.length:Int) s (by omega);obtain⟨K,hK⟩:=Int.eq_ofNat_of_zero_le hr.1;have NB:Hid (∀W,CurAt a n cap bs g s W->Calls Tryz.prog 46 #[.pointer (some ⟨g,0,none⟩),.int .i64 (m.length:Int)] W fun e w' => ∃cs:CS,e=.returned (.int .i64 (K:Int))/\CurAt a n cap bs g cs w'/\W.grownBy w' (some g)):=zH (fun W hc=>(aH a n cap bs g s (m.length:Int) W hc (by omega)).mono (fun e w' ⟨he,hc2,hg2⟩=>⟨_,by rw[he,hK],hc2,hg2⟩));have Qw:K<m.length:=by omega
 clear hr hK;have yO:=zH (hC.alloc (.cells #[.int .i64 next,.slice va m.length vcap] 26));have MS:=zH (h.alloc (.cells #[.int .i64 next,.slice va m.length vcap] 26));have Ak:=zH (World.grownBy_alloc w (.cells #[.int .i64 next,.slice va m.length vcap] 26) (some g));obtain⟨v0,v1⟩:=gZ w 26 (.int .i64 next) (.slice va m.length vcap);have NY:=fun q hq=>(h.bl q hq).1
 obtain⟨bv,cv,hva,Qx⟩:=h.top.shape1 hpos;simp only[Value.slice.injEq] at hva;obtain⟨rfl,-,rfl⟩:=hva;obtain⟨b1,o1,e',hb1,d0,-,-,-,-,-⟩:=aC MS.out.p (List.getElem?_eq_getElem Qw);cases e';simp only[Nat.zero_add] at d0;generalize m[K].x.id=idK at *;have O8:(0:Int)<(m.length:Int):=by omega
 have Rq:(K:Int)<(m.length:Int):=by omega
 have Rs:(0:Int)<=(K:Int):=by omega
 have hz1:w.heap.size<(w.alloc (.cells #[.int .i64 next,.slice (some ⟨bv,0,none⟩) m.length vcap] 26)).heap.size:=by simp
 clear hsz hC h NY;go_enter Tryz.func101,Tryz.ntmps101
 go_wp2;generalize w.alloc (.cells #[.int .i64 next,.slice (some ⟨bv,0,none⟩) m.length vcap] 26)=w1 at *;have uR:Hid (∀W,w1.grownBy W (some g)->(W.cell? ⟨w.heap.size,0,none⟩=some (.int .i64 next)/\W.cell? ⟨w.heap.size,1,none⟩=some (.slice (some ⟨bv,0,none⟩) m.length vcap)/\W.cell? ⟨bv,K*5,none⟩=some (.int .i64 idK))):=zH (fun W hW=>⟨ai v0 hW (by simp;omega),ai v1 hW (by simp;omega),ai d0 hW (by simp;omega)⟩);refine wp_region_held_drew (S:=(fun W=>W.cell? ⟨w.heap.size,0,none⟩=some (.int .i64 next)/\W.cell? ⟨w.heap.size,1,none⟩=some (.slice (some ⟨bv,0,none⟩) m.length vcap)/\W.cell? ⟨bv,K*5,none⟩=some (.int .i64 idK))) (by kernel_rfl) ?_ (fun uQ=>?_)
 ·(try dsimp only);exact uR.out _ (aS (World.grownBy.refl _ _))
 change wpAnyH _ _ _ _ _ 11 #[false,false,false,false,false,false,false,false,false,false,false] _ _;refine tkI [0,1,2,3,4,5] ?_;(iterate 6 (refine tkS rfl (by kernel_rfl) (fun _ _ _=>id) (by rfl) (by intro w h;(try dsimp only at h);go_simp;try rfl) uQ ?_;try simp only[Act.put,tkA,tk0,tk1]));refine tkE ?_;refine wR 6 rfl (by kernel_rfl) (fun K hK=>?_);(try dsimp only at uQ);go_simp;(go_at_call 46;refine(NB.out _ yO.out.drew).mono ?_;rintro e w2 ⟨s2,rfl,hc2,hg2⟩)
 refine hK.out _ _ ?_ ?_
 ·(try dsimp only);exact uR.out _ ((aS (World.grownBy.refl _ _)).trans hg2)
 clear hK K uQ;intro uQ;have hgg:=(aS (World.grownBy.refl w1 (some g))).trans hg2;have wI:=zH hc2;have HG2:=zH (Ak.out.trans hgg);have yT:=zH (MS.out.low hgg (fun q hq e=>by have:=(MS.out.bl q hq).1;have:=Option.some.inj e;omega));clear hc2 hg2 hgg;refine tkI [7,8,9,10] ?_;(iterate 4 (refine tkS rfl (by kernel_rfl) (fun _ _ _=>id) (by rfl) (by intro w h;(try dsimp only at h);go_simp;try rfl) uQ ?_;try simp only[Act.put,tkA,tk0,tk1]));refine tkE ?_;refine wpAnyH_done (by kernel_rfl) ?_ _;(try dsimp only at uQ);obtain⟨v0,v1,d0⟩:=uQ;have hv2:w.heap.size<w2.heap.size:=World.block_lt_of_cell? w2 _ v0;clear uR d0 yO Ak MS;go_wp2_with fail
 refine(jl next (some ⟨bv,0,none⟩) m.length vcap m idK _ yT.out.p).mono ?_;rintro e w3 ⟨b,rfl,-,hb3⟩;have xm:=zH (wI.out.kept hb3);have xI:=zH (HG2.out.trans (aA (some g) hb3));have Ao:=zH ((yT.out.kept hb3).self);replace v0:=af v0 hb3;replace v1:=af v1 hb3;have hv3:w.heap.size<w3.heap.size:=World.block_lt_of_cell? w3 _ v0;clear hb3 wI HG2 yT;cases b with
 | true =>
  go_wp2_with fail
  refine(aT next (some ⟨bv,0,none⟩) m.length vcap (xs m) idK _ Ao.out.p.rd).mono ?_;rintro e wA ⟨rfl,Az⟩;have CJ:=zH (xm.out.kept Az);have CK:=zH (xI.out.trans (aA (some g) Az));have Ef:=zH ((Ao.out.kept Az).self);have hrg:=cL (xs m) idK;rw[cy] at hrg;replace v0:=af v0 Az;replace v1:=af v1 Az;clear Az xm xI Ao;generalize atF (xs m) idK=rA at *;have Eg:Hid (∀(W:World) (s4:CS),CurAt a n cap bs g s4 W->w.grownBy W (some g)->Calls Tryz.prog 92 #[.pointer (some ⟨g,0,none⟩)] W fun e w' => ∃(t:ByteArray) (cs:CS),e=.returned (.string t)/\t.size<=1073741824/\CurAt a n cap bs g cs w'/\w.grownBy w' (some g)):=zH (fun W s4 hc hg=>(da a n cap bs g s4 W hc).mono (fun e w' ⟨⟨t,cs⟩,hnm,he,hc2,hg2⟩=>⟨t,cs,he,by dsimp only at hnm;omega,hc2,hg.trans hg2⟩));by_cases h0:0<=rA
  rotate_left
  ·go_wp2_with fail
   refine(Eg.out _ _ CJ.out CK.out).mono ?_;rintro e wB ⟨t,cs,rfl,ht,hc,hg⟩;have HF:=zH (And.intro ht (And.intro hc hg));clear ht hc hg;go_wp2;go_ret2;exact⟨idK,t,cs,rfl,HF.out.1,HF.out.2.1,HF.out.2.2⟩
  obtain⟨k,rfl⟩:=Int.eq_ofNat_of_zero_le h0;have hkl:k<m.length:=by omega
  have hki:(k:Int)<(m.length:Int):=by omega
  obtain⟨b2,o2,e',hb2,-,-,-,-,d4,hrd⟩:=aC Ef.out.p (List.getElem?_eq_getElem hkl);cases e';simp only[Nat.zero_add] at d4;have hown:=Ef.out.sub m[k] (List.getElem_mem hkl);have hsz:=vJ.out m[k] (List.getElem_mem hkl);generalize m[k]=y at *;by_cases hn0:(0:Int)<(y.x.ents.length:Int)
  rotate_left
  ·clear hown hrd;go_wp2_with fail
   refine(Eg.out _ _ CJ.out CK.out).mono ?_;rintro e wB ⟨t,cs,rfl,ht,hc,hg⟩;have HF:=zH (And.intro ht (And.intro hc hg));clear ht hc hg;go_wp2;go_ret2;exact⟨idK,t,cs,rfl,HF.out.1,HF.out.2.1,HF.out.2.2⟩
  obtain⟨be,ce,he,hbe⟩:=hown.shape1 (by omega);obtain⟨yx,ya,yc⟩:=y;simp only[Value.slice.injEq] at he;obtain⟨rfl,-,rfl⟩:=he;dsimp only at *;have yQ:=zH hrd;have Fu:=zH hsz;clear hown hrd hsz;have hyl:=Fu.out.1;go_wp2_with fail
  refine(bo a n cap bs g _ 2 _ CJ.out (by omega)).mono ?_;rintro e wB ⟨rfl,ve,hG1⟩;have Eh:=zH ve;have Fv:=zH (CK.out.trans hG1);replace v0:=ai v0 hG1 (by simp;omega);replace v1:=ai v1 hG1 (by simp;omega);replace d4:=ai d4 hG1 (by simp;omega);have y7:=zH (yQ.out.grown hG1 (fun x hx _=>by cases hx;simp;omega));have hvB:w.heap.size<wB.heap.size:=World.block_lt_of_cell? wB _ v0;have O9:bv<wB.heap.size:=World.block_lt_of_cell? wB _ d4;clear ve hG1 CJ CK yQ Ef;simp only at Eh ⊢;generalize (aj bs 2 _).2=s5 at *;generalize ((aj bs 2 _).1==0)=t5 at *;cases t5 with
  | false =>
   go_wp2_with fail
   refine(Eg.out _ _ Eh.out Fv.out).mono ?_;rintro e wD ⟨t,cs,rfl,ht,hc,hg⟩;have HF:=zH (And.intro ht (And.intro hc hg));clear ht hc hg;go_wp2;go_ret2;exact⟨idK,t,cs,rfl,HF.out.1,HF.out.2.1,HF.out.2.2⟩
  | true =>
   have EB:=aJ bs (yx.ents.length:Int) s5 (by omega);obtain⟨K2,hK2⟩:=Int.eq_ofNat_of_zero_le EB.1;have vg:Hid (∀W,CurAt a n cap bs g s5 W->Calls Tryz.prog 46 #[.pointer (some ⟨g,0,none⟩),.int .i64 (yx.ents.length:Int)] W fun e w' => ∃cs:CS,e=.returned (.int .i64 (K2:Int))/\CurAt a n cap bs g cs w'/\W.grownBy w' (some g)):=zH (fun W hc=>(aH a n cap bs g s5 (yx.ents.length:Int) W hc (by omega)).mono (fun e w' ⟨he,hc2,hg2⟩=>⟨_,by rw[he,hK2],hc2,hg2⟩));have BG:K2<yx.ents.length:=by omega
   clear EB hK2;obtain⟨b3,o3,e',hb3,-,-,d5,-⟩:=ay y7.out K2 BG;cases e';simp only[Nat.zero_add] at d5;have hnz:=Fu.out.2 yx.ents[K2] (List.getElem_mem BG);generalize yx.ents[K2].name=nmz at *;have Jm:(K2:Int)<(yx.ents.length:Int):=by omega
   have Jn:(0:Int)<=(K2:Int):=by omega
   have uR:Hid (∀W,wB.grownBy W (some g)->(W.cell? ⟨w.heap.size,0,none⟩=some (.int .i64 next)/\W.cell? ⟨w.heap.size,1,none⟩=some (.slice (some ⟨bv,0,none⟩) m.length vcap)/\W.cell? ⟨bv,k*5+4,none⟩=some (.slice (some ⟨be,0,none⟩) yx.ents.length yc)/\W.cell? ⟨be,K2*4+2,none⟩=some (.string nmz))):=zH (fun W hW=>⟨ai v0 hW (by simp;omega),ai v1 hW (by simp;omega),ai d4 hW (by simp;omega),ai d5 hW (by simp;omega)⟩);clear v0 v1 d4 d5;go_wp2;refine wp_region_held_drew (S:=(fun W=>W.cell? ⟨w.heap.size,0,none⟩=some (.int .i64 next)/\W.cell? ⟨w.heap.size,1,none⟩=some (.slice (some ⟨bv,0,none⟩) m.length vcap)/\W.cell? ⟨bv,k*5+4,none⟩=some (.slice (some ⟨be,0,none⟩) yx.ents.length yc)/\W.cell? ⟨be,K2*4+2,none⟩=some (.string nmz))) (by kernel_rfl) ?_ (fun uQ=>?_)
   ·(try dsimp only);exact uR.out _ (aS (World.grownBy.refl _ _))
   change wpAnyH _ _ _ _ _ 21 #[false,false,false,false,false,false,false,false,false,false,false,false,false,false,false,false,false,false,false,false,false] _ _;refine tkI [0,1,2,3,4,5,6,7,8,9,10,11,12,13,14] ?_;(iterate 15 (refine tkS rfl (by kernel_rfl) (fun _ _ _=>id) (by rfl) (by intro w h;(try dsimp only at h);go_simp;try rfl) uQ ?_;try simp only[Act.put,tkA,tk0,tk1]));refine tkE ?_;refine wR 15 rfl (by kernel_rfl) (fun K hK=>?_);(try dsimp only at uQ);go_simp;(go_at_call 46;refine(vg.out _ Eh.out.drew).mono ?_;rintro e w6 ⟨s6,rfl,hc6,zV⟩)
   refine hK.out _ _ ?_ ?_
   ·(try dsimp only);exact uR.out _ ((aS (World.grownBy.refl _ _)).trans zV)
   clear hK K uQ;intro uQ;have HF:=zH (And.intro hc6 (Fv.out.trans ((aS (World.grownBy.refl _ _)).trans zV)));clear hc6 zV;refine tkI [16,17,18,19,20] ?_;(iterate 5 (refine tkS rfl (by kernel_rfl) (fun _ _ _=>id) (by rfl) (by intro w h;(try dsimp only at h);go_simp;try rfl) uQ ?_;try simp only[Act.put,tkA,tk0,tk1]));refine tkE ?_;refine wpAnyH_done (by kernel_rfl) ?_ _;(try dsimp only at uQ);clear uQ uR;go_wp2;go_ret2;exact⟨idK,nmz,s6,rfl,hnz,HF.out.1,HF.out.2⟩
 | false =>
  go_wp2_with fail
  refine(bo a n cap bs g _ 8 _ xm.out (by omega)).mono ?_;rintro e w4 ⟨rfl,ve,hG1⟩;have xQ:=zH ve;have zk:=zH (xI.out.trans hG1);have AZ:=zH (Ao.out.low hG1 (fun q hq e=>by have:=(Ao.out.bl q hq).1;have:=Option.some.inj e;omega));replace v0:=ai v0 hG1 (by simp;omega);replace v1:=ai v1 hG1 (by simp;omega);have hv4:w.heap.size<w4.heap.size:=World.block_lt_of_cell? w4 _ v0;clear ve hG1 xm xI Ao;simp only at xQ ⊢;generalize (aj bs 8 s2).2=s4 at *;generalize ((aj bs 8 s2).1==0)=t4 at *;cases t4 with
  | true =>
   go_wp2_with fail
   refine(aT next (some ⟨bv,0,none⟩) m.length vcap (xs m) idK _ AZ.out.p.rd).mono ?_;rintro e wA ⟨rfl,Az⟩;have CJ:=zH (xQ.out.kept Az);have CK:=zH (zk.out.trans (aA (some g) Az));have Ef:=zH ((AZ.out.kept Az).self);have hrg:=cL (xs m) idK;rw[cy] at hrg;replace v0:=af v0 Az;replace v1:=af v1 Az;clear Az xQ zk AZ;generalize atF (xs m) idK=rA at *;have Eg:Hid (∀(W:World) (s4:CS),CurAt a n cap bs g s4 W->w.grownBy W (some g)->Calls Tryz.prog 92 #[.pointer (some ⟨g,0,none⟩)] W fun e w' => ∃(t:ByteArray) (cs:CS),e=.returned (.string t)/\t.size<=1073741824/\CurAt a n cap bs g cs w'/\w.grownBy w' (some g)):=zH (fun W s4 hc hg=>(da a n cap bs g s4 W hc).mono (fun e w' ⟨⟨t,cs⟩,hnm,he,hc2,hg2⟩=>⟨t,cs,he,by dsimp only at hnm;omega,hc2,hg.trans hg2⟩));by_cases h0:0<=rA
   rotate_left
   ·go_wp2_with fail
    refine(Eg.out _ _ CJ.out CK.out).mono ?_;rintro e wB ⟨t,cs,rfl,ht,hc,hg⟩;have HF:=zH (And.intro ht (And.intro hc hg));clear ht hc hg;go_wp2;go_ret2;exact⟨idK,t,cs,rfl,HF.out.1,HF.out.2.1,HF.out.2.2⟩
   obtain⟨k,rfl⟩:=Int.eq_ofNat_of_zero_le h0;have hkl:k<m.length:=by omega
   have hki:(k:Int)<(m.length:Int):=by omega
   obtain⟨b2,o2,e',hb2,-,-,-,-,d4,hrd⟩:=aC Ef.out.p (List.getElem?_eq_getElem hkl);cases e';simp only[Nat.zero_add] at d4;have hown:=Ef.out.sub m[k] (List.getElem_mem hkl);have hsz:=vJ.out m[k] (List.getElem_mem hkl);generalize m[k]=y at *;by_cases hn0:(0:Int)<(y.x.ents.length:Int)
   rotate_left
   ·clear hown hrd;go_wp2_with fail
    refine(Eg.out _ _ CJ.out CK.out).mono ?_;rintro e wB ⟨t,cs,rfl,ht,hc,hg⟩;have HF:=zH (And.intro ht (And.intro hc hg));clear ht hc hg;go_wp2;go_ret2;exact⟨idK,t,cs,rfl,HF.out.1,HF.out.2.1,HF.out.2.2⟩
   obtain⟨be,ce,he,hbe⟩:=hown.shape1 (by omega);obtain⟨yx,ya,yc⟩:=y;simp only[Value.slice.injEq] at he;obtain⟨rfl,-,rfl⟩:=he;dsimp only at *;have yQ:=zH hrd;have Fu:=zH hsz;clear hown hrd hsz;have hyl:=Fu.out.1;go_wp2_with fail
   refine(bo a n cap bs g _ 2 _ CJ.out (by omega)).mono ?_;rintro e wB ⟨rfl,ve,hG1⟩;have Eh:=zH ve;have Fv:=zH (CK.out.trans hG1);replace v0:=ai v0 hG1 (by simp;omega);replace v1:=ai v1 hG1 (by simp;omega);replace d4:=ai d4 hG1 (by simp;omega);have y7:=zH (yQ.out.grown hG1 (fun x hx _=>by cases hx;simp;omega));have hvB:w.heap.size<wB.heap.size:=World.block_lt_of_cell? wB _ v0;have O9:bv<wB.heap.size:=World.block_lt_of_cell? wB _ d4;clear ve hG1 CJ CK yQ Ef;simp only at Eh ⊢;generalize (aj bs 2 _).2=s5 at *;generalize ((aj bs 2 _).1==0)=t5 at *;cases t5 with
   | false =>
    go_wp2_with fail
    refine(Eg.out _ _ Eh.out Fv.out).mono ?_;rintro e wD ⟨t,cs,rfl,ht,hc,hg⟩;have HF:=zH (And.intro ht (And.intro hc hg));clear ht hc hg;go_wp2;go_ret2;exact⟨idK,t,cs,rfl,HF.out.1,HF.out.2.1,HF.out.2.2⟩
   | true =>
    have EB:=aJ bs (yx.ents.length:Int) s5 (by omega);obtain⟨K2,hK2⟩:=Int.eq_ofNat_of_zero_le EB.1;have vg:Hid (∀W,CurAt a n cap bs g s5 W->Calls Tryz.prog 46 #[.pointer (some ⟨g,0,none⟩),.int .i64 (yx.ents.length:Int)] W fun e w' => ∃cs:CS,e=.returned (.int .i64 (K2:Int))/\CurAt a n cap bs g cs w'/\W.grownBy w' (some g)):=zH (fun W hc=>(aH a n cap bs g s5 (yx.ents.length:Int) W hc (by omega)).mono (fun e w' ⟨he,hc2,hg2⟩=>⟨_,by rw[he,hK2],hc2,hg2⟩));have BG:K2<yx.ents.length:=by omega
    clear EB hK2;obtain⟨b3,o3,e',hb3,-,-,d5,-⟩:=ay y7.out K2 BG;cases e';simp only[Nat.zero_add] at d5;have hnz:=Fu.out.2 yx.ents[K2] (List.getElem_mem BG);generalize yx.ents[K2].name=nmz at *;have Jm:(K2:Int)<(yx.ents.length:Int):=by omega
    have Jn:(0:Int)<=(K2:Int):=by omega
    have uR:Hid (∀W,wB.grownBy W (some g)->(W.cell? ⟨w.heap.size,0,none⟩=some (.int .i64 next)/\W.cell? ⟨w.heap.size,1,none⟩=some (.slice (some ⟨bv,0,none⟩) m.length vcap)/\W.cell? ⟨bv,k*5+4,none⟩=some (.slice (some ⟨be,0,none⟩) yx.ents.length yc)/\W.cell? ⟨be,K2*4+2,none⟩=some (.string nmz))):=zH (fun W hW=>⟨ai v0 hW (by simp;omega),ai v1 hW (by simp;omega),ai d4 hW (by simp;omega),ai d5 hW (by simp;omega)⟩);clear v0 v1 d4 d5;go_wp2;refine wp_region_held_drew (S:=(fun W=>W.cell? ⟨w.heap.size,0,none⟩=some (.int .i64 next)/\W.cell? ⟨w.heap.size,1,none⟩=some (.slice (some ⟨bv,0,none⟩) m.length vcap)/\W.cell? ⟨bv,k*5+4,none⟩=some (.slice (some ⟨be,0,none⟩) yx.ents.length yc)/\W.cell? ⟨be,K2*4+2,none⟩=some (.string nmz))) (by kernel_rfl) ?_ (fun uQ=>?_)
    ·(try dsimp only);exact uR.out _ (aS (World.grownBy.refl _ _))
    change wpAnyH _ _ _ _ _ 21 #[false,false,false,false,false,false,false,false,false,false,false,false,false,false,false,false,false,false,false,false,false] _ _;refine tkI [0,1,2,3,4,5,6,7,8,9,10,11,12,13,14] ?_;(iterate 15 (refine tkS rfl (by kernel_rfl) (fun _ _ _=>id) (by rfl) (by intro w h;(try dsimp only at h);go_simp;try rfl) uQ ?_;try simp only[Act.put,tkA,tk0,tk1]));refine tkE ?_;refine wR 15 rfl (by kernel_rfl) (fun K hK=>?_);(try dsimp only at uQ);go_simp;(go_at_call 46;refine(vg.out _ Eh.out.drew).mono ?_;rintro e w6 ⟨s6,rfl,hc6,zV⟩)
    refine hK.out _ _ ?_ ?_
    ·(try dsimp only);exact uR.out _ ((aS (World.grownBy.refl _ _)).trans zV)
    clear hK K uQ;intro uQ;have HF:=zH (And.intro hc6 (Fv.out.trans ((aS (World.grownBy.refl _ _)).trans zV)));clear hc6 zV;refine tkI [16,17,18,19,20] ?_;(iterate 5 (refine tkS rfl (by kernel_rfl) (fun _ _ _=>id) (by rfl) (by intro w h;(try dsimp only at h);go_simp;try rfl) uQ ?_;try simp only[Act.put,tkA,tk0,tk1]));refine tkE ?_;refine wpAnyH_done (by kernel_rfl) ?_ _;(try dsimp only at uQ);clear uQ uR;go_wp2;go_ret2;exact⟨idK,nmz,s6,rfl,hnz,HF.out.1,HF.out.2⟩
  | false =>
   go_wp2_with fail
   refine(aT next (some ⟨bv,0,none⟩) m.length vcap (xs m) 1 _ AZ.out.p.rd).mono ?_;rintro e wA ⟨rfl,Az⟩;have CJ:=zH (xQ.out.kept Az);have CK:=zH (zk.out.trans (aA (some g) Az));have Ef:=zH ((AZ.out.kept Az).self);have hrg:=cL (xs m) 1;rw[cy] at hrg;replace v0:=af v0 Az;replace v1:=af v1 Az;clear Az xQ zk AZ;generalize atF (xs m) 1=rA at *;have Eg:Hid (∀(W:World) (s4:CS),CurAt a n cap bs g s4 W->w.grownBy W (some g)->Calls Tryz.prog 92 #[.pointer (some ⟨g,0,none⟩)] W fun e w' => ∃(t:ByteArray) (cs:CS),e=.returned (.string t)/\t.size<=1073741824/\CurAt a n cap bs g cs w'/\w.grownBy w' (some g)):=zH (fun W s4 hc hg=>(da a n cap bs g s4 W hc).mono (fun e w' ⟨⟨t,cs⟩,hnm,he,hc2,hg2⟩=>⟨t,cs,he,by dsimp only at hnm;omega,hc2,hg.trans hg2⟩));by_cases h0:0<=rA
   rotate_left
   ·go_wp2_with fail
    refine(Eg.out _ _ CJ.out CK.out).mono ?_;rintro e wB ⟨t,cs,rfl,ht,hc,hg⟩;have HF:=zH (And.intro ht (And.intro hc hg));clear ht hc hg;go_wp2;go_ret2;exact⟨1,t,cs,rfl,HF.out.1,HF.out.2.1,HF.out.2.2⟩
   obtain⟨k,rfl⟩:=Int.eq_ofNat_of_zero_le h0;have hkl:k<m.length:=by omega
   have hki:(k:Int)<(m.length:Int):=by omega
   obtain⟨b2,o2,e',hb2,-,-,-,-,d4,hrd⟩:=aC Ef.out.p (List.getElem?_eq_getElem hkl);cases e';simp only[Nat.zero_add] at d4;have hown:=Ef.out.sub m[k] (List.getElem_mem hkl);have hsz:=vJ.out m[k] (List.getElem_mem hkl);generalize m[k]=y at *;by_cases hn0:(0:Int)<(y.x.ents.length:Int)
   rotate_left
   ·clear hown hrd;go_wp2_with fail
    refine(Eg.out _ _ CJ.out CK.out).mono ?_;rintro e wB ⟨t,cs,rfl,ht,hc,hg⟩;have HF:=zH (And.intro ht (And.intro hc hg));clear ht hc hg;go_wp2;go_ret2;exact⟨1,t,cs,rfl,HF.out.1,HF.out.2.1,HF.out.2.2⟩
   obtain⟨be,ce,he,hbe⟩:=hown.shape1 (by omega);obtain⟨yx,ya,yc⟩:=y;simp only[Value.slice.injEq] at he;obtain⟨rfl,-,rfl⟩:=he;dsimp only at *;have yQ:=zH hrd;have Fu:=zH hsz;clear hown hrd hsz;have hyl:=Fu.out.1;go_wp2_with fail
   refine(bo a n cap bs g _ 2 _ CJ.out (by omega)).mono ?_;rintro e wB ⟨rfl,ve,hG1⟩;have Eh:=zH ve;have Fv:=zH (CK.out.trans hG1);replace v0:=ai v0 hG1 (by simp;omega);replace v1:=ai v1 hG1 (by simp;omega);replace d4:=ai d4 hG1 (by simp;omega);have y7:=zH (yQ.out.grown hG1 (fun x hx _=>by cases hx;simp;omega));have hvB:w.heap.size<wB.heap.size:=World.block_lt_of_cell? wB _ v0;have O9:bv<wB.heap.size:=World.block_lt_of_cell? wB _ d4;clear ve hG1 CJ CK yQ Ef;simp only at Eh ⊢;generalize (aj bs 2 _).2=s5 at *;generalize ((aj bs 2 _).1==0)=t5 at *;cases t5 with
   | false =>
    go_wp2_with fail
    refine(Eg.out _ _ Eh.out Fv.out).mono ?_;rintro e wD ⟨t,cs,rfl,ht,hc,hg⟩;have HF:=zH (And.intro ht (And.intro hc hg));clear ht hc hg;go_wp2;go_ret2;exact⟨1,t,cs,rfl,HF.out.1,HF.out.2.1,HF.out.2.2⟩
   | true =>
    have EB:=aJ bs (yx.ents.length:Int) s5 (by omega);obtain⟨K2,hK2⟩:=Int.eq_ofNat_of_zero_le EB.1;have vg:Hid (∀W,CurAt a n cap bs g s5 W->Calls Tryz.prog 46 #[.pointer (some ⟨g,0,none⟩),.int .i64 (yx.ents.length:Int)] W fun e w' => ∃cs:CS,e=.returned (.int .i64 (K2:Int))/\CurAt a n cap bs g cs w'/\W.grownBy w' (some g)):=zH (fun W hc=>(aH a n cap bs g s5 (yx.ents.length:Int) W hc (by omega)).mono (fun e w' ⟨he,hc2,hg2⟩=>⟨_,by rw[he,hK2],hc2,hg2⟩));have BG:K2<yx.ents.length:=by omega
    clear EB hK2;obtain⟨b3,o3,e',hb3,-,-,d5,-⟩:=ay y7.out K2 BG;cases e';simp only[Nat.zero_add] at d5;have hnz:=Fu.out.2 yx.ents[K2] (List.getElem_mem BG);generalize yx.ents[K2].name=nmz at *;have Jm:(K2:Int)<(yx.ents.length:Int):=by omega
    have Jn:(0:Int)<=(K2:Int):=by omega
    have uR:Hid (∀W,wB.grownBy W (some g)->(W.cell? ⟨w.heap.size,0,none⟩=some (.int .i64 next)/\W.cell? ⟨w.heap.size,1,none⟩=some (.slice (some ⟨bv,0,none⟩) m.length vcap)/\W.cell? ⟨bv,k*5+4,none⟩=some (.slice (some ⟨be,0,none⟩) yx.ents.length yc)/\W.cell? ⟨be,K2*4+2,none⟩=some (.string nmz))):=zH (fun W hW=>⟨ai v0 hW (by simp;omega),ai v1 hW (by simp;omega),ai d4 hW (by simp;omega),ai d5 hW (by simp;omega)⟩);clear v0 v1 d4 d5;go_wp2;refine wp_region_held_drew (S:=(fun W=>W.cell? ⟨w.heap.size,0,none⟩=some (.int .i64 next)/\W.cell? ⟨w.heap.size,1,none⟩=some (.slice (some ⟨bv,0,none⟩) m.length vcap)/\W.cell? ⟨bv,k*5+4,none⟩=some (.slice (some ⟨be,0,none⟩) yx.ents.length yc)/\W.cell? ⟨be,K2*4+2,none⟩=some (.string nmz))) (by kernel_rfl) ?_ (fun uQ=>?_)
    ·(try dsimp only);exact uR.out _ (aS (World.grownBy.refl _ _))
    change wpAnyH _ _ _ _ _ 21 #[false,false,false,false,false,false,false,false,false,false,false,false,false,false,false,false,false,false,false,false,false] _ _;refine tkI [0,1,2,3,4,5,6,7,8,9,10,11,12,13,14] ?_;(iterate 15 (refine tkS rfl (by kernel_rfl) (fun _ _ _=>id) (by rfl) (by intro w h;(try dsimp only at h);go_simp;try rfl) uQ ?_;try simp only[Act.put,tkA,tk0,tk1]));refine tkE ?_;refine wR 15 rfl (by kernel_rfl) (fun K hK=>?_);(try dsimp only at uQ);go_simp;(go_at_call 46;refine(vg.out _ Eh.out.drew).mono ?_;rintro e w6 ⟨s6,rfl,hc6,zV⟩)
    refine hK.out _ _ ?_ ?_
    ·(try dsimp only);exact uR.out _ ((aS (World.grownBy.refl _ _)).trans zV)
    clear hK K uQ;intro uQ;have HF:=zH (And.intro hc6 (Fv.out.trans ((aS (World.grownBy.refl _ _)).trans zV)));clear hc6 zV;refine tkI [16,17,18,19,20] ?_;(iterate 5 (refine tkS rfl (by kernel_rfl) (fun _ _ _=>id) (by rfl) (by intro w h;(try dsimp only at h);go_simp;try rfl) uQ ?_;try simp only[Act.put,tkA,tk0,tk1]));refine tkE ?_;refine wpAnyH_done (by kernel_rfl) ?_ _;(try dsimp only at uQ);clear uQ uR;go_wp2;go_ret2;exact⟨1,nmz,s6,rfl,hnz,HF.out.1,HF.out.2⟩
end Go.Proofs.YtlkfabkkjfmnmaaGreatDoor
