import Derived.Test.YtlkfabkkjfmnmaaGreatDoorZaa
import Derived.Test.YtlkfabkkjfmnmaaGreatDoorZae
import Derived.Deep.RegionHeld3
import Derived.IntWalk
namespace Go.Proofs.YtlkfabkkjfmnmaaGreatDoor
open Go.RowKit
set_option linter.all false
set_option maxRecDepth 1000000
set_option maxHeartbeats 6000000
theorem oj (c:Int)(h:ap c = [])(n:Nat)(w:World):Calls Tryz.prog 136 #[.int .i64 c] w (dy (aU n c) w):=by
 rw[dh n c h,←dh 1 c h];exact fr 0 (by omega) c (fun x hx=>by rw[h] at hx;simp at hx) w
theorem oV (c:Int)(h:∀x∈ap c,ap x = [])(n:Nat)(w:World):Calls Tryz.prog 136 #[.int .i64 c] w (dy (aU (n+2) c) w):=by
 have e:aU (n+2) c=aU 2 c:=by
  have e2:∀l:List Int,(∀x∈l,ap x = [])->l.flatMap (aU (n+1))=l.flatMap (aU 1):=fun l hl=>by
   induction l with
   | nil=>rfl
   | cons x l ih=>rw[List.flatMap_cons,List.flatMap_cons,ih (fun y hy=>hl y (List.mem_cons_of_mem _ hy)),dh _ x (hl x (List.mem_cons_self ..)),dh _ x (hl x (List.mem_cons_self ..))]
  show (if ap c = [] then [c] else (ap c).flatMap (aU (n+1)))=(if ap c = [] then [c] else (ap c).flatMap (aU 1));rw[e2 _ h]
 rw[e];exact fr 1 (by omega) c (fun x hx W=>oj x (h x hx) 1 W) w
theorem qK (c:Int)(w:World):Calls Tryz.prog 136 #[.int .i64 c] w (dy (dX c) w):=
 fr 2 (by omega) c (fun x hx W=>oV x (fun y hy=>j5 c x y hx hy) 0 W) w
theorem nw (c:Int)(h:ap c = [])(n:Nat)(w:World):Calls Tryz.prog 130 #[.int .i64 c] w (dy (aU n c) w):=by
 rw[dh n c h,←dh 1 c h];exact eR 0 (by omega) c (fun x hx=>by rw[h] at hx;simp at hx) w
theorem m3 (c:Int)(h:∀x∈ap c,ap x = [])(n:Nat)(w:World):Calls Tryz.prog 130 #[.int .i64 c] w (dy (aU (n+2) c) w):=by
 have e:aU (n+2) c=aU 2 c:=by
  have e2:∀l:List Int,(∀x∈l,ap x = [])->l.flatMap (aU (n+1))=l.flatMap (aU 1):=fun l hl=>by
   induction l with
   | nil=>rfl
   | cons x l ih=>rw[List.flatMap_cons,List.flatMap_cons,ih (fun y hy=>hl y (List.mem_cons_of_mem _ hy)),dh _ x (hl x (List.mem_cons_self ..)),dh _ x (hl x (List.mem_cons_self ..))]
  show (if ap c = [] then [c] else (ap c).flatMap (aU (n+1)))=(if ap c = [] then [c] else (ap c).flatMap (aU 1));rw[e2 _ h]
 rw[e];exact eR 1 (by omega) c (fun x hx W=>nw x (h x hx) 1 W) w
theorem oM (c:Int)(w:World):Calls Tryz.prog 130 #[.int .i64 c] w (dy (dX c) w):=
 eR 2 (by omega) c (fun x hx W=>m3 x (fun y hy=>j5 c x y hx hy) 0 W) w
def bub (s:List Int)(x:Int)(A B:List Int):Prop:=cZ s x=cZ A x++B/\s.length=A.length+B.length
theorem nC (A B:List Int)(x y:Int):((aE (A ++ [y]++x::B)).set (A.length+1) (.int .i64 y)).set A.length (.int .i64 x)=aE (A++x::y::B):=by
 simp[aE,List.set_append]
theorem ig (a:Option Addr)(n cap:Nat)(l:List Int)(w:World)(h:Rd w a n cap 1 (aE l))(hn:n<=1048576) :
  Calls Tryz.prog 110 #[.slice a n cap] w fun e w' => ∃a' c',e=.returned (.slice a' (bq l).length c')/\Own 3 1 w.heap.size w (.slice a' (bq l).length c') (bq l).length (aE (bq l)) w':=by
 have hl:l.length=n:=by have:=h.len;simpa using this
 subst hl;go_enter Tryz.func110,Tryz.ntmps110
 go_wp2;go_loopg [3,12] l.length (fun gg o i wr => ∃k:Nat,k+gg=l.length/\i=.int .i64 k/\Own 3 1 w.heap.size w o (bq (l.take k)).length (aE (bq (l.take k))) wr)
 case atStart=>exact⟨0,by omega,rfl,by simpa[bq,cX,aE] using Own.lit (e:=3) (size:=1) (n:=0) (Below.refl w.heap.size w) zN #[] rfl (by decide)⟩
 case round =>
  obtain⟨k,hk,rfl,vN⟩:=hrel;obtain⟨gO,rfl⟩:∃g,g=gk:=⟨_,rfl⟩;obtain⟨av,cv,rfl,_,_⟩:=vN.shape;by_cases hlt:k<l.length
  ·obtain⟨b,off,rfl,hbs,hc⟩:=h.at' (by omega);have hc1:=hc k (by simpa using hlt);rw[←vN.below.cell (p:=⟨b,off+k,none⟩) (by exact hbs),br l k hlt] at hc1;have hS:Hid (bq (l.take (k+1))=(dX l[k]).foldl cZ (bq (l.take k))):=zH (by rw[List.take_succ_eq_append_getElem hlt];unfold bq;rw[List.flatMap_append,ld];simp);have hb1:(bq (l.take k)).length<=28311552:=by have:=dG (l.take k);rw[List.length_take] at this;omega
   have hb2:=jp l[k];clear hc h;generalize bq (l.take k)=pre at *;generalize l[k]=x at *;go_wp2_with fail
   refine(qK x _).mono ?_;rintro e w1 ⟨g1,c1,rfl,hF⟩;have CQ:=vN.kept hF.below;have CR:=hF.rd;have hne0:Hid (∀z,g1=some z->(Value.slice av pre.length cv).ownBlock≠some z.block):=zH (fun z hz e=>by
    have h1:=(vN.row.lt _ e).2;have h2:=(hF.row.lt z.block (by rw[hz];rfl)).1;omega)
   clear hF vN hc1;generalize dX x=t at *;clear hbs;go_wp2;go_loopg [3,19] t.length (fun gg o i wr2 => ∃j:Nat,j+gg=t.length/\i=.int .i64 j/\Own 3 1 w.heap.size w o ((t.take j).foldl cZ pre).length (aE ((t.take j).foldl cZ pre)) wr2/\Rd wr2 g1 t.length c1 1 (aE t)/\Hid (∀z,g1=some z->o.ownBlock≠some z.block))
   case atStart=>exact⟨0,by omega,rfl,CQ,CR,hne0⟩
   case round =>
    obtain⟨j,hj,rfl,hO,hR,hne⟩:=hrel;obtain⟨gP,rfl⟩:∃g,g=gk:=⟨_,rfl⟩;obtain⟨aw,cw,rfl,_,_⟩:=hO.shape;by_cases hlj:j<t.length
    ·obtain⟨bt,ot,rfl,hbt,hct⟩:=hR.at' (by omega);have hc2:=hct j (by simpa using hlj);rw[br t j hlj] at hc2;have hT:Hid ((t.take (j+1)).foldl cZ pre=cZ ((t.take j).foldl cZ pre) t[j]):=zH (by rw[List.take_succ_eq_append_getElem hlj,List.foldl_append];rfl);have PQ:((t.take j).foldl cZ pre).length<=28400000:=by rw[jz,List.length_take];omega
     clear hct CQ CR;generalize (t.take j).foldl cZ pre=s at *;generalize t[j]=y at *;go_wp2_with (at_builtin;go_loud (refine cI rfl _ _ 40 rfl 3 (.int .i64 0) 1 8 Tryz.underlying40 cA rfl (by decide) _ _ _ _ _ (by rfl) (by exact hO) _ _ (by rfl) (by rfl) (by intro u hu;simp at hu;first|(subst hu;rfl)|(rcases hu with rfl|rfl <;> rfl)|(rcases hu with rfl|rfl|rfl <;> rfl)|(rcases hu with rfl|rfl|rfl|rfl <;> rfl)) (by omega) (by unfold maxLen;omega) ?_);intro a2 c2 w2 hO2 hG2 Dq)
     have hR2:=zH (hR.grown hG2 (fun z hz _ e=>hne.out z hz e));have hne2:Hid (∀z,(some (⟨bt,ot,none⟩:Addr))=some z->(Value.slice a2 (s.length+1) c2).ownBlock≠some z.block):=zH (fun z hz e=>by
      cases hz;rcases Dq with h1|⟨q,h1,h2⟩
      ·exact hne.out _ rfl (h1 ▸ e)
      ·rw[h1] at e;cases e;exact absurd hbt (by show ¬bt<wr.heap.size;exact Nat.not_lt.2 h2))
     clear hR hne hO hG2 Dq hne0 hc2;have e1:aE s ++ [Value.int .i64 y]=aE (s ++ [y]):=by simp[aE]
     replace hO2:Own 3 1 w.heap.size w (.slice a2 (s.length+1) c2) (s.length+1) (aE (s ++ [y])) w2:=by rw[←e1];exact hO2
     clear e1;obtain⟨g2,cp2,he,hg2⟩:=hO2.shape1 (by omega);simp only[Value.slice.injEq] at he;obtain⟨rfl,_,rfl⟩:=he;go_wp2;go_loopg [8] s.length (fun gg i wr3 => ∃(q:Nat) (A B:List Int),gg=q/\i=.int .i64 q/\A.length=q/\Hid (bub s y A B)/\Own 3 1 w.heap.size w (.slice (some ⟨g2,0,none⟩) (s.length+1) c2) (s.length+1) (aE (A++y::B)) wr3/\w2.grownBy wr3 (some g2))
     case atStart=>exact⟨s.length,s,[],rfl,by go_num,rfl,zH ⟨by simp,by simp⟩,hO2,World.grownBy.refl _ _⟩
     case round =>
      obtain⟨q,A,B,rfl,rfl,EG,yB,hO3,hG3⟩:=hrel;have hlen:=yB.out.2;have hsl:(0:Int)<(s.length:Int)+1:=by omega
      have Gf:Hid (∀W:World,w2.grownBy W (some g2)->Rd W (some ⟨bt,ot,none⟩) t.length c1 1 (aE t)):=zH (fun W hg=>hR2.out.grown hg (fun z hz _ e=>hne2.out z hz e));rcases List.eq_nil_or_concat A with hA|⟨A',z,hA⟩
      ·subst hA;have HE:Hid (cZ s y=y::B):=zH (by rw[yB.out.1,mM];rfl);have HL:Hid (s.length+1=(cZ s y).length):=zH (iE s y).symm;simp only[List.length_nil,List.nil_append] at EG hO3;subst EG;clear yB hlen;rw[←HE.out] at hO3;go_wp2;go_quiet (fail)
       go_wp2;go_roundg (gP - 1)
       case measure=>omega
       case rel=>exact⟨j+1,by omega,by go_num,by rw[hT.out,←HL.out];exact hO3.drewN _,(Gf.out _ hG3).drewN _,hne2⟩
      ·rw[List.concat_eq_append] at hA;subst hA;have hq:gk=A'.length+1:=by rw[←EG];simp
       subst hq;clear EG;have hcy:wr.cell? ⟨g2,A'.length+1,none⟩=some (.int .i64 y):=by rw[hO3.cell (A'.length+1) (by simp)];simp[aE]
       have hcz:wr.cell? ⟨g2,A'.length,none⟩=some (.int .i64 z):=by rw[hO3.cell A'.length (by simp)];simp[aE]
       have hl2:A'.length+1+B.length=s.length:=by have:=yB.out.2;simp at this;omega
       have hq1:(0:Int)<(A'.length:Int)+1:=by omega
       have hq2:(A'.length:Int)+1<(s.length:Int)+1:=by omega
       have hq3:(A'.length:Int)<(s.length:Int)+1:=by omega
       clear hlen;by_cases hc1:0<bB y
       ·by_cases hc2:bB y<bB z
        ·go_wp2;go_quiet (refine Calls.quiet_of_same ((fv _ _).mono fun e w' h=>⟨h.1,h.2.symm⟩))
         have hO4:=zH (hO3.drewN nq);have hG4:=zH (eB hG3 nq);clear hO3 hG3 hcy hcz;have hcy:(wr.drewN nq).cell? ⟨g2,A'.length+1,none⟩=some (.int .i64 y):=by rw[hO4.out.cell (A'.length+1) (by simp)];simp[aE]
         have hcz:(wr.drewN nq).cell? ⟨g2,A'.length,none⟩=some (.int .i64 z):=by rw[hO4.out.cell A'.length (by simp)];simp[aE]
         have hf1:=hO4.out.free (A'.length+1);have hf2:=hO4.out.free A'.length;generalize wr.drewN nq=W3 at *;have yE:=hO4.out.set (A'.length+1) (.int .i64 z);have OI:=hG4.out.trans (hO4.out.row.stored (A'.length+1) (.int .i64 z)).2;have OJ:=OI.trans (yE.row.stored A'.length (.int .i64 y)).2;have zI:=yE.set A'.length (.int .i64 y);rw[nC A' B y z] at zI;have M9:Hid (bub s y A' (z::B)):=zH ⟨by rw[yB.out.1,qd A' y z ⟨hc1,hc2⟩];simp,by simp;omega⟩;have HO:=zH zI;have HG:=zH OJ;clear hO4 yE zI hG4 OI OJ yB hc1 hc2;go_wp2;go_region;go_wp2;go_roundg A'.length
         case measure=>omega
         case rel=>exact⟨A'.length,A',z::B,rfl,by go_num,rfl,M9,HO.out.drew,aS HG.out⟩
        ·have hd:decide (bB y<bB z)=false:=by simpa using hc2
         have HE:Hid (cZ s y=A' ++ [z]++y::B):=zH (by rw[yB.out.1,gH A' y z (fun h=>hc2 h.2)];simp);have HL:Hid (s.length+1=(cZ s y).length):=zH (iE s y).symm;go_wp2;go_quiet (refine Calls.quiet_of_same ((fv _ _).mono fun e w' h=>⟨h.1,h.2.symm⟩))
         go_wp2;go_roundg (gP - 1)
         case measure=>omega
         case rel=>exact⟨j+1,by omega,by go_num,by rw[hT.out,←HL.out,HE.out];exact hO3.drewN _,(Gf.out _ hG3).drewN _,hne2⟩
       ·have hd:decide (0<bB y)=false:=by simpa using hc1
        have HE:Hid (cZ s y=A' ++ [z]++y::B):=zH (by rw[yB.out.1,gH A' y z (fun h=>hc1 h.1)];simp);have HL:Hid (s.length+1=(cZ s y).length):=zH (iE s y).symm;go_wp2;go_quiet (refine Calls.quiet_of_same ((fv _ _).mono fun e w' h=>⟨h.1,h.2.symm⟩))
        go_wp2;go_roundg (gP - 1)
        case measure=>omega
        case rel=>exact⟨j+1,by omega,by go_num,by rw[hT.out,←HL.out,HE.out];exact hO3.drewN _,(Gf.out _ hG3).drewN _,hne2⟩
    ·have hjl:j=t.length:=by omega
     subst hjl;rw[List.take_length] at hO ⊢;clear hR hne CQ CR;go_wp2;go_roundg (gO - 1)
     case measure=>omega
     case rel=>exact⟨k+1,by omega,by go_num,by rw[hS.out];exact hO⟩
  ·have hkl:k=l.length:=by omega
   subst hkl;rw[List.take_length] at vN ⊢;go_wp2;go_ret;exact⟨_,_,rfl,vN⟩
def ApH (B0:Nat)(w0:World)(g n c:Nat)(A:List Int)(z y:Int)(B:List Int)(W:World):Prop:=Own 3 1 B0 w0 (.slice (some ⟨g,0,none⟩) n c) n (aE (A ++ [z]++y::B)) W
theorem ApH.all {B0:Nat}{w0:World}{g n c:Nat}{A:List Int}{z y:Int}{B:List Int}{W:World}(h:ApH B0 w0 g n c A z y B W) :
  W.cell? ⟨g,A.length+1,none⟩=some (.int .i64 y)/\W.cell? ⟨g,A.length,none⟩=some (.int .i64 z)/\ApH B0 w0 g n c A z y B W:=
 ⟨by rw[Own.cell h (A.length+1) (by simp)];simp[aE],by rw[Own.cell h A.length (by simp)];simp[aE],h⟩
theorem ApH.kept {B0:Nat}{w0:World}{g n c:Nat}{A:List Int}{z y:Int}{B:List Int}{W W':World}(h:ApH B0 w0 g n c A z y B W)(hb:Below W.heap.size W W'):ApH B0 w0 g n c A z y B W':=Own.kept h hb
theorem ApH.drew {B0:Nat}{w0:World}{g n c:Nat}{A:List Int}{z y:Int}{B:List Int}{W:World}(h:ApH B0 w0 g n c A z y B W):ApH B0 w0 g n c A z y B W.drew:=Own.drew h
theorem ia (a:Option Addr)(n cap:Nat)(l:List Int)(w:World)(h:Rd w a n cap 1 (aE l))(hn:n<=1048576) :
  Calls Tryz.prog 105 #[.slice a n cap] w fun e w' => ∃a' c',e=.returned (.slice a' (bq l).length c')/\Own 3 1 w.heap.size w (.slice a' (bq l).length c') (bq l).length (aE (bq l)) w':=by
 have hl:l.length=n:=by have:=h.len;simpa using this
 subst hl;go_enter Tryz.func105,Tryz.ntmps105
 go_wp2;go_loopg [3,4] l.length (fun gg o i wr => ∃k:Nat,k+gg=l.length/\i=.int .i64 k/\Own 3 1 w.heap.size w o ((l.take k).flatMap dX).length (aE ((l.take k).flatMap dX)) wr)
 case atStart=>exact⟨0,by omega,rfl,by simpa[aE] using Own.lit (e:=3) (size:=1) (n:=0) (Below.refl w.heap.size w) zN #[] rfl (by decide)⟩
 case round =>
  obtain⟨k,hk,rfl,vN⟩:=hrel;obtain⟨gO,rfl⟩:∃g,g=gk:=⟨_,rfl⟩;obtain⟨av,cv,rfl,_,_⟩:=vN.shape;by_cases hlt:k<l.length
  ·obtain⟨b,off,rfl,hbs,hc⟩:=h.at' (by omega);have hc1:=hc k (by simpa using hlt);rw[←vN.below.cell (p:=⟨b,off+k,none⟩) (by exact hbs),br l k hlt] at hc1;have hS:Hid ((l.take (k+1)).flatMap dX=(l.take k).flatMap dX++dX l[k]):=zH (by rw[List.take_succ_eq_append_getElem hlt,List.flatMap_append];simp);have hb1:((l.take k).flatMap dX).length<=28311552:=by have:=gx (l.take k);rw[List.length_take] at this;omega
   have hb2:=jp l[k];clear hc h;generalize (l.take k).flatMap dX=pre at *;generalize l[k]=x at *;go_wp2_with fail
   refine(oM x _).mono ?_;rintro e w1 ⟨g1,c1,rfl,hF⟩;have CQ:=vN.kept hF.below;have CR:=hF.rd;go_wp2_with (at_builtin;go_loud (refine eu rfl _ _ 40 rfl 3 (.int .i64 0) 1 8 Tryz.underlying40 cA rfl (by decide) w.heap.size w _ _ _ (by rfl) (by exact CQ) _ _ _ _ (by rfl) (by exact CR) (e8 _) (by omega) (by unfold maxLen;omega) ?_);intro a2 c2 w2 hO2)
   go_wp2;go_roundg (gO - 1)
   case measure=>omega
   case rel=>exact⟨k+1,by omega,by go_num,by rw[hS.out,List.length_append,cm];exact hO2⟩
  ·have hkl:k=l.length:=by omega
   subst hkl;have Re:=gx l;have HF:Hid (cX (l.flatMap dX)=bq l):=zH rfl;have OL:Hid ((l.flatMap dX).length=(bq l).length):=zH (iz _).symm;rw[List.take_length] at vN ⊢;clear h;generalize l.flatMap dX=m at *;go_wp2;go_loopg [5] (m.length+1) (fun gg i wr => ∃q:Nat,q+1+gg=m.length+2/\i=.int .i64 ((q:Int)+1)/\Own 3 1 w.heap.size w (.slice av m.length cv) m.length (aE (cX (m.take (q+1))++m.drop (q+1))) wr)
   case atStart =>
    refine⟨0,by omega,by go_num,?_⟩;have e:cX (m.take 1)++m.drop 1=m:=by
     cases m with
     | nil=>rfl
     | cons x m=>rfl
    rw[e];exact vN
   case round =>
    obtain⟨q,hq,rfl,hO⟩:=hrel;obtain⟨gP,rfl⟩:∃g,g=gk:=⟨_,rfl⟩;by_cases hlq:q+1<m.length
    ·obtain⟨g,cp,he,hg⟩:=hO.shape1 (by omega);simp only[Value.slice.injEq] at he;obtain⟨rfl,_,rfl⟩:=he;have hT:Hid (cX (m.take (q+1+1))=cZ (cX (m.take (q+1))) m[q+1]):=zH (by rw[List.take_succ_eq_append_getElem hlq,nB]);have hD:m.drop (q+1)=m[q+1]::m.drop (q+1+1):=List.drop_eq_getElem_cons hlq;have hsl:(cX (m.take (q+1))).length=q+1:=by rw[iz,List.length_take];omega
     rw[hD] at hO;generalize cX (m.take (q+1))=s at *;obtain⟨R,hR⟩:∃R,R=m.drop (q+1+1):=⟨_,rfl⟩;rw[←hR] at hO;have HR:=zH hR;clear hR;generalize m[q+1]=y at *;have PR:=zH hsl;have hqm:(q:Int)+1<(m.length:Int):=by omega
     clear hD vN hsl;go_wp2;go_loopg [6,7] (q+1) (fun gg i t7 wr => ∃(A B:List Int),i=.int .i64 (gg:Nat)/\gg<=q+1/\Hid (A.length=gg)/\Hid (bub s y A B)/\Own 3 1 w.heap.size w (.slice (some ⟨g,0,none⟩) m.length cv) m.length (aE (A++y::(B++R))) wr)
     case atStart=>exact⟨s,[],by go_num,zN,PR,zH ⟨by simp,by simp⟩,by simpa using hO⟩
     case round =>
      obtain⟨A,B,rfl,PS,EG,yB,hO3⟩:=hrel;rcases List.eq_nil_or_concat A with hA|⟨A',z,hA⟩
      ·subst hA;have HE:Hid (cZ s y=y::B):=zH (by rw[yB.out.1,mM];rfl);have hz:gk=0:=EG.out.symm;subst hz;have yE:Own 3 1 w.heap.size w (.slice (some ⟨g,0,none⟩) m.length cv) m.length (aE (cZ s y++R)) wr:=by rw[HE.out];simpa using hO3
       clear yB hO3 EG hO;go_wp2;go_quiet (fail)
       go_wp2;go_roundg (gP - 1)
       case measure=>omega
       case rel=>exact⟨q+1,by omega,by go_num,by rw[hT.out,←HR.out];exact yE.drewN _⟩
      ·rw[List.concat_eq_append] at hA;subst hA;have hq0:gk=A'.length+1:=by rw[←EG.out];simp
       subst hq0;clear hO EG;have hH:ApH w.heap.size w g m.length cv A' z y (B++R) wr:=hO3;have hcall:=hH.all;have hwr:IntKind.i64.wrap ((A'.length:Int)+1 - 1)=(A'.length:Int):=by rw[IntWalk.i64_in _ (by omega)];omega
       have hwr2:IntKind.i64.wrap (A'.length:Int)=(A'.length:Int):=IntWalk.i64_in _ (by omega);have hq4:(0:Int)<=(A'.length:Int):=by omega
       rw[show ((A'.length+1:Nat):Int)=(A'.length:Int)+1 from by omega];have hq1:(0:Int)<(A'.length:Int)+1:=by omega
       have hq0:(0:Int)<=(A'.length:Int)+1:=by omega
       have hq2:(A'.length:Int)+1<(m.length:Int):=by omega
       have hq3:(A'.length:Int)<(m.length:Int):=by omega
       by_cases hc1:0<bB y
       ·by_cases hc2:bB y<bB z
        ·skip
         clear hO3;go_wp2;refine wp_region_held_drew (S:=(fun W=>W.cell? ⟨g,A'.length+1,none⟩=some (.int .i64 y)/\W.cell? ⟨g,A'.length,none⟩=some (.int .i64 z)/\ApH w.heap.size w g m.length cv A' z y (B++R) W)) (by kernel_rfl) ?_ (fun uQ=>?_)
         ·(try dsimp only);(go_split_ands;first|exact ApH.all (by assumption)|exact ApH.all (ApH.drew (by assumption))|exact ApH.all (ApH.kept (by assumption) (by assumption)))
         change wpAnyH _ _ _ _ _ 24 #[false,false,false,false,false,false,false,false,false,false,false,false,false,false,false,false,false,false,false,false,false,false,false,false] _ _;refine tkI [0,1,2,3,4,5,6] ?_;(iterate 7 (refine tkS rfl (by kernel_rfl) (fun _ _ _=>id) (by rfl) (by intro w h;(try dsimp only at h);go_simp;try rfl) uQ ?_;try simp only[Act.put,tkA,tk0,tk1]));refine tkE ?_;refine wR 7 rfl (by kernel_rfl) (fun K hK=>?_);(try dsimp only at uQ);go_simp;(go_at_call 131;refine(cJ _ _).mono ?_;rintro e w' ⟨rfl,hbk⟩)
         refine hK.out _ _ ?_ ?_
         ·(try dsimp only);(go_split_ands;first|exact ApH.all (by assumption)|exact ApH.all (ApH.drew (by assumption))|exact ApH.all (ApH.kept (by assumption) (by assumption)))
         clear hK K uQ;intro uQ;clear hbk;refine tkI [8,9,10] ?_;(iterate 3 (refine tkS rfl (by kernel_rfl) (fun _ _ _=>id) (by rfl) (by intro w h;(try dsimp only at h);go_simp;try rfl) uQ ?_;try simp only[Act.put,tkA,tk0,tk1]));refine tkE ?_;refine tkI [11,12,13,14,15] ?_;(iterate 5 (refine tkS rfl (by kernel_rfl) (fun _ _ _=>id) (by rfl) (by intro w h;(try dsimp only at h);go_simp;try rfl) uQ ?_;try simp only[Act.put,tkA,tk0,tk1]));refine tkE ?_;refine tkI [17,18,19,20] ?_;(iterate 4 (refine tkS rfl (by kernel_rfl) (fun _ _ _=>id) (by rfl) (by intro w h;(try dsimp only at h);go_simp;try rfl) uQ ?_;try simp only[Act.put,tkA,tk0,tk1]));refine tkE ?_;refine wR 16 rfl (by kernel_rfl) (fun K hK=>?_);(try dsimp only at uQ);go_simp;(go_at_call 131;refine(cJ _ _).mono ?_;rintro e w' ⟨rfl,hbk⟩)
         refine hK.out _ _ ?_ ?_
         ·(try dsimp only);(go_split_ands;first|exact ApH.all (by assumption)|exact ApH.all (ApH.drew (by assumption))|exact ApH.all (ApH.kept (by assumption) (by assumption)))
         clear hK K uQ;intro uQ;clear hbk;refine wR 21 rfl (by kernel_rfl) (fun K hK=>?_);(try dsimp only at uQ);go_simp;(go_at_call 131;refine(cJ _ _).mono ?_;rintro e w' ⟨rfl,hbk⟩)
         refine hK.out _ _ ?_ ?_
         ·(try dsimp only);(go_split_ands;first|exact ApH.all (by assumption)|exact ApH.all (ApH.drew (by assumption))|exact ApH.all (ApH.kept (by assumption) (by assumption)))
         clear hK K uQ;intro uQ;clear hbk;refine tkI [22,23] ?_;(iterate 2 (refine tkS rfl (by kernel_rfl) (fun _ _ _=>id) (by rfl) (by intro w h;(try dsimp only at h);go_simp;try rfl) uQ ?_;try simp only[Act.put,tkA,tk0,tk1]));refine tkE ?_;refine wpAnyH_done (by kernel_rfl) ?_ _;(try dsimp only at uQ);obtain⟨hcy,hcz,hO4⟩:=uQ;have hO4:Own 3 1 w.heap.size w (.slice (some ⟨g,0,none⟩) m.length cv) m.length (aE (A' ++ [z]++y::(B++R))) _:=hO4;have hf1:=hO4.free (A'.length+1);have hf2:=hO4.free A'.length;have yE:=(hO4.set (A'.length+1) (.int .i64 z)).set A'.length (.int .i64 y);rw[nC A' (B++R) y z] at yE;have M9:Hid (bub s y A' (z::B)):=zH ⟨by rw[yB.out.1,qd A' y z ⟨hc1,hc2⟩];simp,by have:=yB.out.2;simp at this ⊢;omega⟩;have HO:=zH yE;clear hO4 yE yB hc1 hc2;go_wp2;go_roundg A'.length
         case measure=>omega
         case rel=>exact⟨A',z::B,rfl,by omega,zH rfl,M9,by simpa using HO.out⟩
        ·have hd:decide (bB z > bB y)=false:=by simpa using hc2
         have hd2:decide (bB y<bB z)=false:=by simpa using hc2
         have HE:Hid (cZ s y=A' ++ [z]++y::B):=zH (by rw[yB.out.1,gH A' y z (fun h=>hc2 h.2)];simp);have hO4:=zH hO3;clear hO3;go_wp2;refine wp_region_held_drew (S:=(fun W=>W.cell? ⟨g,A'.length+1,none⟩=some (.int .i64 y)/\W.cell? ⟨g,A'.length,none⟩=some (.int .i64 z)/\ApH w.heap.size w g m.length cv A' z y (B++R) W)) (by kernel_rfl) ?_ (fun uQ=>?_)
         ·(try dsimp only);(go_split_ands;first|exact ApH.all (by assumption)|exact ApH.all (ApH.drew (by assumption))|exact ApH.all (ApH.kept (by assumption) (by assumption)))
         change wpAnyH _ _ _ _ _ 24 #[false,false,false,false,false,false,false,false,false,false,false,false,false,false,false,false,false,false,false,false,false,false,false,false] _ _;refine tkI [0,1,2,3,4,5,6] ?_;(iterate 7 (refine tkS rfl (by kernel_rfl) (fun _ _ _=>id) (by rfl) (by intro w h;(try dsimp only at h);go_simp;try rfl) uQ ?_;try simp only[Act.put,tkA,tk0,tk1]));refine tkE ?_;refine wR 7 rfl (by kernel_rfl) (fun K hK=>?_);(try dsimp only at uQ);go_simp;(go_at_call 131;refine(cJ _ _).mono ?_;rintro e w' ⟨rfl,hbk⟩)
         refine hK.out _ _ ?_ ?_
         ·(try dsimp only);(go_split_ands;first|exact ApH.all (by assumption)|exact ApH.all (ApH.drew (by assumption))|exact ApH.all (ApH.kept (by assumption) (by assumption)))
         clear hK K uQ;intro uQ;clear hbk;refine tkI [8,9,10] ?_;(iterate 3 (refine tkS rfl (by kernel_rfl) (fun _ _ _=>id) (by rfl) (by intro w h;(try dsimp only at h);go_simp;try rfl) uQ ?_;try simp only[Act.put,tkA,tk0,tk1]));refine tkE ?_;refine tkI [11,12,13,14,15] ?_;(iterate 5 (refine tkS rfl (by kernel_rfl) (fun _ _ _=>id) (by rfl) (by intro w h;(try dsimp only at h);go_simp;try rfl) uQ ?_;try simp only[Act.put,tkA,tk0,tk1]));refine tkE ?_;refine tkI [17,18,19,20] ?_;(iterate 4 (refine tkS rfl (by kernel_rfl) (fun _ _ _=>id) (by rfl) (by intro w h;(try dsimp only at h);go_simp;try rfl) uQ ?_;try simp only[Act.put,tkA,tk0,tk1]));refine tkE ?_;refine wR 16 rfl (by kernel_rfl) (fun K hK=>?_);(try dsimp only at uQ);go_simp;(go_at_call 131;refine(cJ _ _).mono ?_;rintro e w' ⟨rfl,hbk⟩)
         refine hK.out _ _ ?_ ?_
         ·(try dsimp only);(go_split_ands;first|exact ApH.all (by assumption)|exact ApH.all (ApH.drew (by assumption))|exact ApH.all (ApH.kept (by assumption) (by assumption)))
         clear hK K uQ;intro uQ;clear hbk;refine wR 21 rfl (by kernel_rfl) (fun K hK=>?_);(try dsimp only at uQ);go_simp;(go_at_call 131;refine(cJ _ _).mono ?_;rintro e w' ⟨rfl,hbk⟩)
         refine hK.out _ _ ?_ ?_
         ·(try dsimp only);(go_split_ands;first|exact ApH.all (by assumption)|exact ApH.all (ApH.drew (by assumption))|exact ApH.all (ApH.kept (by assumption) (by assumption)))
         clear hK K uQ;intro uQ;clear hbk;refine tkI [22,23] ?_;(iterate 2 (refine tkS rfl (by kernel_rfl) (fun _ _ _=>id) (by rfl) (by intro w h;(try dsimp only at h);go_simp;try rfl) uQ ?_;try simp only[Act.put,tkA,tk0,tk1]));refine tkE ?_;refine wpAnyH_done (by kernel_rfl) ?_ _;(try dsimp only at uQ);obtain⟨-,-,yE⟩:=uQ;replace yE:Own 3 1 w.heap.size w (.slice (some ⟨g,0,none⟩) m.length cv) m.length (aE (A' ++ [z]++y::(B++R))) _:=yE;go_wp2;go_roundg (gP - 1)
         case measure=>omega
         case rel=>exact⟨q+1,by omega,by go_num,by rw[hT.out,←HR.out,HE.out];simpa using yE⟩
       ·have hd:decide (0<bB y)=false:=by simpa using hc1
        have HE:Hid (cZ s y=A' ++ [z]++y::B):=zH (by rw[yB.out.1,gH A' y z (fun h=>hc1 h.1)];simp);have hO4:=zH hO3;clear hO3;go_wp2;refine wp_region_held_drew (S:=(fun W=>W.cell? ⟨g,A'.length+1,none⟩=some (.int .i64 y)/\W.cell? ⟨g,A'.length,none⟩=some (.int .i64 z)/\ApH w.heap.size w g m.length cv A' z y (B++R) W)) (by kernel_rfl) ?_ (fun uQ=>?_)
        ·(try dsimp only);(go_split_ands;first|exact ApH.all (by assumption)|exact ApH.all (ApH.drew (by assumption))|exact ApH.all (ApH.kept (by assumption) (by assumption)))
        change wpAnyH _ _ _ _ _ 24 #[false,false,false,false,false,false,false,false,false,false,false,false,false,false,false,false,false,false,false,false,false,false,false,false] _ _;refine tkI [0,1,2,3,4,5,6] ?_;(iterate 7 (refine tkS rfl (by kernel_rfl) (fun _ _ _=>id) (by rfl) (by intro w h;(try dsimp only at h);go_simp;try rfl) uQ ?_;try simp only[Act.put,tkA,tk0,tk1]));refine tkE ?_;refine wR 7 rfl (by kernel_rfl) (fun K hK=>?_);(try dsimp only at uQ);go_simp;(go_at_call 131;refine(cJ _ _).mono ?_;rintro e w' ⟨rfl,hbk⟩)
        refine hK.out _ _ ?_ ?_
        ·(try dsimp only);(go_split_ands;first|exact ApH.all (by assumption)|exact ApH.all (ApH.drew (by assumption))|exact ApH.all (ApH.kept (by assumption) (by assumption)))
        clear hK K uQ;intro uQ;clear hbk;refine tkI [8,9,10] ?_;(iterate 3 (refine tkS rfl (by kernel_rfl) (fun _ _ _=>id) (by rfl) (by intro w h;(try dsimp only at h);go_simp;try rfl) uQ ?_;try simp only[Act.put,tkA,tk0,tk1]));refine tkE ?_;refine tkI [11,12,13,14,15,16,17,18,19,20,21,22] ?_;(iterate 12 (refine tkO rfl (by kernel_rfl) (fun _ _ _=>id) (by rfl) uQ ?_;try simp only[Act.put,tkA,tk0,tk1]));refine tkE ?_;refine tkI [23] ?_;(iterate 1 (refine tkS rfl (by kernel_rfl) (fun _ _ _=>id) (by rfl) (by intro w h;(try dsimp only at h);go_simp;try rfl) uQ ?_;try simp only[Act.put,tkA,tk0,tk1]));refine tkE ?_;refine wpAnyH_done (by kernel_rfl) ?_ _;(try dsimp only at uQ);obtain⟨-,-,yE⟩:=uQ;replace yE:Own 3 1 w.heap.size w (.slice (some ⟨g,0,none⟩) m.length cv) m.length (aE (A' ++ [z]++y::(B++R))) _:=yE;go_wp2;go_roundg (gP - 1)
        case measure=>omega
        case rel=>exact⟨q+1,by omega,by go_num,by rw[hT.out,←HR.out,HE.out];simpa using yE⟩
    ·have e1:m.take (q+1)=m:=List.take_of_length_le (by omega);have e2:m.drop (q+1) = []:=List.drop_of_length_le (by omega);rw[e1,e2,List.append_nil,HF.out,OL.out] at hO;have HM:=zH OL.out;clear e1 e2 vN;go_wp2;go_ret;rw[HM.out];exact⟨_,_,rfl,hO⟩
theorem eJ (a b:Nat)(ha:a<9223372036854775808)(hb:b<9223372036854775808):bits .xor .i64 (a:Int) (b:Int)=((a ^^^ b:Nat):Int):=by
 have hx:a ^^^ b<2 ^ 63:=Nat.xor_lt_two_pow (by simpa using ha) (by simpa using hb);have ha':a % 2 ^ 64=a:=Nat.mod_eq_of_lt (by omega);have hb':b % 2 ^ 64=b:=Nat.mod_eq_of_lt (by omega);show IntKind.i64.wrap ((BitVec.ofInt 64 (a:Int) ^^^ BitVec.ofInt 64 (b:Int)).toNat:Int)=_;rw[BitVec.ofInt_natCast,BitVec.ofInt_natCast,BitVec.toNat_xor,BitVec.toNat_ofNat,BitVec.toNat_ofNat,ha',hb'];exact cN _ (Int.natCast_nonneg _) (by have:=Int.ofNat_lt.2 hx;simpa using this)
def dk (c:Nat):Nat:=if c % 2=1 then (c / 2) ^^^ 2197175160 else c / 2
def iZ (c:Nat):Nat->Nat
 | 0=>c
 | k+1=>dk (iZ c k)
def gV (bs:List UInt8):Nat:=bs.foldl (fun c b=>iZ (c ^^^ b.toNat) 8) 4294967295
def iu (bs:List UInt8):Int:=4294967295 - (gV bs:Int)
theorem om (c:Nat)(h:c<4294967296):dk c<4294967296:=by
 unfold dk;split
 ·exact Nat.xor_lt_two_pow (n:=32) (by omega) (by decide)
 ·omega
theorem jT (c:Nat)(h:c<4294967296):∀k,iZ c k<4294967296
 | 0=>h
 | k+1=>om _ (jT c h k)
theorem mI (c:Nat)(b:UInt8)(h:c<4294967296):c ^^^ b.toNat<4294967296:=Nat.xor_lt_two_pow (n:=32) h (by have:=b.toNat_lt;omega)
theorem jc (bs:List UInt8)(b:UInt8):gV (bs ++ [b])=iZ (gV bs ^^^ b.toNat) 8:=by simp[gV]
theorem mq (bs:List UInt8):gV bs<4294967296:=by
 suffices h:∀l:List UInt8,gV l.reverse<4294967296 by have:=h bs.reverse;simpa using this
 intro l;induction l with
 | nil=>decide
 | cons b bs ih=>rw[List.reverse_cons,jc];exact jT _ (mI _ _ ih) _
theorem jC (s:ByteArray)(w:World)(hs:s.size<=140737488355328) :
  Calls Tryz.prog 81 #[.string s] w fun e w'=>e=.returned (.int .i64 (iu s.data.toList))/\w=w':=by
 go_enter Tryz.func81,Tryz.ntmps81
 go_wp2;go_loopg [3,4] s.size (fun g c i wr => ∃k:Nat,k+g=s.size/\i=.int .i64 k/\c=.int .i64 (gV (s.data.toList.take k))/\wr=w)
 case atStart=>exact⟨0,by omega,rfl,rfl,rfl⟩
 case round =>
  obtain⟨k,hk,rfl,rfl,rfl⟩:=hrel;have hb:=mq (s.data.toList.take k);obtain⟨gg,rfl⟩:∃g,g=gk:=⟨_,rfl⟩;by_cases hlt:k<s.size
  ·have hb0:=s[k].toNat_lt;have H:Hid (gV (s.data.toList.take (k+1))=iZ (gV (s.data.toList.take k) ^^^ s[k].toNat) 8):=zH (by rw[gT s k hlt,jc]);have hx:=eJ (gV (s.data.toList.take k)) s[k].toNat (by omega) (by omega);have hd:=mI _ s[k] hb;generalize gV (s.data.toList.take k)=c at *;go_wp2;clear hx;generalize c ^^^ s[k].toNat=d at *;go_loopg [3,18] 8 (fun g c i wr2 => ∃j:Nat,j+g=8/\i=.int .i64 j/\c=.int .i64 (iZ d j)/\wr2=wr)
   case atStart=>exact⟨0,by omega,rfl,rfl,rfl⟩
   case round =>
    obtain⟨j,hj,rfl,rfl,rfl⟩:=hrel;by_cases PT:j<8
    ·have he:=jT d hd j;have HS:Hid (iZ d (j+1)=dk (iZ d j)):=rfl;generalize iZ d j=q at *;have h1:=nr (q:Int) (by omega) (by omega);by_cases ho:q % 2=1
     ·have ho':((q:Int) % 2==1)=true:=by simp;omega
      have HS2:Hid (dk q=(q / 2) ^^^ 2197175160):=zH (by unfold dk;rw[if_pos ho]);have hx:=eJ (q / 2) 2197175160 (by omega) (by decide);have hx':bits .xor .i64 ((q:Int) / 2) 2197175160=((q / 2 ^^^ 2197175160:Nat):Int):=by rw[←hx];simp
      clear ho hx;go_wp2;go_roundg (gk - 1)
      case measure=>omega
      case rel=>exact⟨j+1,by omega,by go_num,by rw[HS.out,HS2.out],rfl⟩
     ·have ho':((q:Int) % 2==1)=false:=by simp;omega
      have HS2:Hid (dk q=q / 2):=zH (by unfold dk;rw[if_neg ho]);clear ho;go_wp2;go_roundg (gk - 1)
      case measure=>omega
      case rel=>exact⟨j+1,by omega,by go_num,by rw[HS.out,HS2.out];go_num,rfl⟩
    ·have Gg:j=8:=by omega
     subst Gg;go_wp2;go_roundg (gg - 1)
     case measure=>omega
     case rel=>exact⟨k+1,by omega,by go_num,by rw[H.out],rfl⟩
  ·have hks:k=s.size:=by omega
   subst hks;have hfull:s.data.toList.take s.size=s.data.toList:=List.take_of_length_le (by simp);rw[hfull] at hb ⊢;clear hfull;go_wp2;go_ret;exact⟨rfl,rfl⟩
theorem nZ (s:ByteArray)(w:World)(hs:s.size<=140737488355328) :
  Calls Tryz.prog 79 #[.string s] w fun e w'=>e=.returned (.int .i64 (iu s.data.toList))/\w=w':=by
 go_enter Tryz.func79,Tryz.ntmps79
 go_wp2;go_loopg [3,4] s.size (fun g c i wr => ∃k:Nat,k+g=s.size/\i=.int .i64 k/\c=.int .i64 (gV (s.data.toList.take k))/\wr=w)
 case atStart=>exact⟨0,by omega,rfl,rfl,rfl⟩
 case round =>
  obtain⟨k,hk,rfl,rfl,rfl⟩:=hrel;have hb:=mq (s.data.toList.take k);obtain⟨gg,rfl⟩:∃g,g=gk:=⟨_,rfl⟩;by_cases hlt:k<s.size
  ·have hb0:=s[k].toNat_lt;have H:Hid (gV (s.data.toList.take (k+1))=iZ (gV (s.data.toList.take k) ^^^ s[k].toNat) 8):=zH (by rw[gT s k hlt,jc]);have hx:=eJ (gV (s.data.toList.take k)) s[k].toNat (by omega) (by omega);have hd:=mI _ s[k] hb;generalize gV (s.data.toList.take k)=c at *;go_wp2;clear hx;generalize c ^^^ s[k].toNat=d at *;go_loopg [3,5] 8 (fun g c i wr2 => ∃j:Nat,j+g=8/\i=.int .i64 j/\c=.int .i64 (iZ d j)/\wr2=wr)
   case atStart=>exact⟨0,by omega,rfl,rfl,rfl⟩
   case round =>
    obtain⟨j,hj,rfl,rfl,rfl⟩:=hrel;by_cases PT:j<8
    ·have he:=jT d hd j;have HS:Hid (iZ d (j+1)=dk (iZ d j)):=rfl;generalize iZ d j=q at *;have h1:=nr (q:Int) (by omega) (by omega);by_cases ho:q % 2=1
     ·have ho':((q:Int) % 2==1)=true:=by simp;omega
      have HS2:Hid (dk q=(q / 2) ^^^ 2197175160):=zH (by unfold dk;rw[if_pos ho]);have hx:=eJ (q / 2) 2197175160 (by omega) (by decide);have hx':bits .xor .i64 ((q:Int) / 2) 2197175160=((q / 2 ^^^ 2197175160:Nat):Int):=by rw[←hx];simp
      clear ho hx;go_wp2;go_roundg (gk - 1)
      case measure=>omega
      case rel=>exact⟨j+1,by omega,by go_num,by rw[HS.out,HS2.out],rfl⟩
     ·have ho':((q:Int) % 2==1)=false:=by simp;omega
      have HS2:Hid (dk q=q / 2):=zH (by unfold dk;rw[if_neg ho]);clear ho;go_wp2;go_roundg (gk - 1)
      case measure=>omega
      case rel=>exact⟨j+1,by omega,by go_num,by rw[HS.out,HS2.out];go_num,rfl⟩
    ·have Gg:j=8:=by omega
     subst Gg;go_wp2;go_roundg (gg - 1)
     case measure=>omega
     case rel=>exact⟨k+1,by omega,by go_num,by rw[H.out],rfl⟩
  ·have hks:k=s.size:=by omega
   subst hks;have hfull:s.data.toList.take s.size=s.data.toList:=List.take_of_length_le (by simp);rw[hfull] at hb ⊢;clear hfull;go_wp2;go_ret;exact⟨rfl,rfl⟩
end Go.Proofs.YtlkfabkkjfmnmaaGreatDoor
