import Derived.Test.YtlkfabkkjfmnmaaGreatDoorZap
namespace Go.Proofs.YtlkfabkkjfmnmaaGreatDoor
open Go.RowKit
set_option linter.all false
set_option maxRecDepth 1000000
set_option maxHeartbeats 6000000
theorem dY {w w':World}{B g:Nat}{e:TypeId}{size:Nat}{v:Value}{n:Nat}{xs:List Value}(h:w.ownsRow B e size v n xs)(hG:w.grownBy w' (some g))(hg:g<B):w'.ownsRow B e size v n xs:=
 h.kept hG (by
  cases hv:Value.ownBlock v with
  | none=>exact .inl rfl
  | some k=>right;have:=(h.lt k hv).1;simp;omega)
def kX (a:Option Addr)(n cap:Nat)(bs:List Int)(g:Nat)(w:World)(most:Nat)(e:Ending)(w':World):Prop:=
 ∃(l:List EntL) (s:CS) (p:Option Addr) (c:Nat),e=.returned (.slice p l.length c)/\l.length<=most/\(∀x∈l,dq x)/\w'.ownsRow w.heap.size 74 4 (.slice p l.length c) l.length (ens l)/\CurAt a n cap bs g s w'/\w.grownBy w' (some g)
theorem qn (a:Option Addr)(n cap:Nat)(bs:List Int)(g:Nat)(s:CS)(most:Int)(w:World)(hC:CurAt a n cap bs g s w)(hm0:1<=most)(hm:most<=900) :
  Calls Tryz.prog 91 #[.pointer (some ⟨g,0,none⟩),.int .i64 most] w (kX a n cap bs g w 900):=by
 have HC:=zH (hC.alloc (.cells #[] 74));have hg:=hC.lt;have HW:=zH (World.grownBy_alloc w (.cells #[] 74) (some g));clear hC;go_enter Tryz.func91,Tryz.ntmps91
 go_wp2_with fail
 refine(aH a n cap bs g _ most _ HC.out (by omega)).mono ?_;rintro e w2 ⟨rfl,ve,hG1⟩;have hr2:=aJ bs most s (by omega);have wI:=zH ve;have HG2:=zH (HW.out.trans hG1);have HR2:Hid (w2.ownsRow w.heap.size 74 4 (.slice (some ⟨w.heap.size,0,none⟩) 0 0) 0 []):=zH (dY (World.ownsRow_lit w #[] 0 (by omega) (by decide) rfl) hG1 hg);clear ve hG1 HC;generalize (aj bs most s).2=s2 at *;generalize (aj bs most s).1=k2 at *;obtain⟨hk0,hk1⟩:=hr2;obtain⟨K,rfl⟩:=Int.eq_ofNat_of_zero_le hk0;clear hk0;go_wp2;go_loopg [5,6] K (fun gg o i wr => ∃(l:List EntL) (sk:CS) (av:Option Addr) (cv:Nat),i=.int .i64 (gg:Nat)/\o=.slice av l.length cv/\l.length+gg<=K/\Hid (∀x∈l,dq x) /\
  Hid (wr.ownsRow w.heap.size 74 4 (.slice av l.length cv) l.length (ens l))/\Hid (CurAt a n cap bs g sk wr)/\Hid (w.grownBy wr (some g)))
 case atStart=>exact⟨[],s2,_,_,rfl,rfl,by simp,zH (by simp),HR2,wI,HG2⟩
 case round =>
  obtain⟨l,sk,av,cv,rfl,rfl,hlen,HP,HO,EK,Dx⟩:=hrel;have hwr:=Dx.out.size;cases gk with
  | zero =>
   go_wp2_with fail
   refine(kH av cv l _ (Own.rd ⟨HO.out,zB,hwr⟩) (by omega)).mono ?_;rintro e w3 ⟨p3,c3,rfl,hO3⟩;have yj:=zH hO3;clear hO3;go_wp2;go_ret;exact⟨l,sk,p3,c3,rfl,by omega,HP.out,iW yj.out.row hwr,EK.out.kept yj.out.below,Dx.out.trans (aA (some g) yj.out.below)⟩
  | succ gq =>
   have hbl:l.length<=1000:=by omega
   have Qv:(0:Int)<((gq+1:Nat):Int):=by omega
   go_wp2_with fail
   refine(bo a n cap bs g sk 5 _ EK.out (by omega)).mono ?_;rintro e w3 ⟨rfl,ve,hG1⟩;have xm:=zH ve;have xI:=zH (Dx.out.trans hG1);have yj:=zH (dY HO.out hG1 hg);clear ve hG1 HO EK Dx;simp only at xm ⊢;generalize (aj bs 5 sk).2=s3 at *;generalize ((aj bs 5 sk).1==0)=t3 at *;cases t3 with
   | true =>
    go_wp2_with fail
    refine(da a n cap bs g s3 _ xm.out).mono ?_;rintro e w4 ⟨⟨nm,s4⟩,hnm,rfl,ve,hG1⟩;have xQ:=zH ve;have zk:=zH (xI.out.trans hG1);have BF:=zH (dY yj.out hG1 hg);have hw4:=zk.out.size;clear ve hG1 yj xm xI;simp only at xQ hnm ⊢;go_wp2_with fail
    refine(oD w.heap.size av cv l nm dq _ BF.out hw4 HP.out (fun x hx=>HP.out x hx) (by omega) (by omega)).mono ?_;rintro e w5 ⟨l5,g5,c5,ok5,rfl,hl5,Jl,yE,hb⟩;have Aj:=zH (xQ.out.kept hb);have AB:=zH (zk.out.trans (aA (some g) hb));have xY:=zH yE;have NV:=zH Jl;clear hb yE Jl;go_wp2;go_roundg gq
    case measure=>omega
    case rel=>exact⟨l5,s4,g5,c5,by go_num,rfl,by omega,NV,xY,Aj,AB⟩
   | false =>
    go_wp2_with fail
    refine(da a n cap bs g s3 _ xm.out).mono ?_;rintro e w4 ⟨⟨nm,s4⟩,hnm,rfl,ve,hG1⟩;have xQ:=zH ve;have zk:=zH (xI.out.trans hG1);have BF:=zH (dY yj.out hG1 hg);clear ve hG1 yj xm xI;simp only at xQ hnm ⊢;go_wp2_with fail
    refine(aH a n cap bs g _ 9 _ xQ.out (by omega)).mono ?_;rintro e w6 ⟨rfl,ve,hG1⟩;have hr:=aJ bs 9 s4 (by omega);have Bg:=zH ve;have CG:=zH (zk.out.trans hG1);have yA:=zH (dY BF.out hG1 hg);have yG:=CG.out.size;clear ve hG1 BF xQ zk;generalize (aj bs 9 s4).2=s6 at *;generalize (aj bs 9 s4).1=k6 at *;obtain⟨hk0,O7⟩:=hr;have Rp:IntKind.i64.wrap (1+k6)=1+k6:=IntWalk.i64_in _ ⟨by omega,by omega⟩;simp only at Bg ⊢;go_wp2_with fail
    refine(qo w.heap.size av cv l nm (1+k6) _ yA.out yG HP.out (by omega) (by omega) (by omega) (by omega)).mono ?_;rintro e w5 ⟨l5,g5,c5,ok5,rfl,hl5,Jl,yE,hb⟩;have Aj:=zH (Bg.out.kept hb);have AB:=zH (CG.out.trans (aA (some g) hb));have xY:=zH yE;have NV:=zH Jl;clear hb yE Jl;go_wp2;go_roundg gq
    case measure=>omega
    case rel=>exact⟨l5,s6,g5,c5,by go_num,rfl,by omega,NV,xY,Aj,AB⟩
end Go.Proofs.YtlkfabkkjfmnmaaGreatDoor
