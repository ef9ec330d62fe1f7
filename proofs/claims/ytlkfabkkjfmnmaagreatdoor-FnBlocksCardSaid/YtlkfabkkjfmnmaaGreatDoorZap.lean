import Derived.Test.YtlkfabkkjfmnmaaGreatDoorZaa
import Derived.Test.YtlkfabkkjfmnmaaGreatDoorZae
import Derived.Test.YtlkfabkkjfmnmaaGreatDoorZaj
import Derived.Test.YtlkfabkkjfmnmaaGreatDoorZal
import Derived.Test.YtlkfabkkjfmnmaaGreatDoorZao
namespace Go.Proofs.YtlkfabkkjfmnmaaGreatDoor
open Go.RowKit
set_option linter.all false
set_option maxRecDepth 1000000
set_option maxHeartbeats 6000000
def an (n:Int):List UInt8:=if 0<=n/\n<=562949953421311 then cr n.toNat else []
theorem jU (n:Int)(h:n<0∨562949953421311<n):an n = []:=by rw[an,if_neg (by omega)]
theorem eS (n:Nat)(h:n<=562949953421311):an n=cr n:=by rw[an,if_pos (by omega)];simp
theorem aP (n:Int):(an n).length<=7:=by
 unfold an;split
 ·exact gU _ (by omega)
 ·simp
theorem bV (n:Int)(w:World) :
  Calls Tryz.prog 60 #[.int .i64 n] w fun e w'=>e=.returned (.string ⟨(an n).toArray⟩)/\Below w.heap.size w w':=by
 by_cases h0:0<=n
 ·by_cases h1:n<=562949953421311
  ·obtain⟨n,rfl⟩:=Int.eq_ofNat_of_zero_le h0;have H1:=zH (eS n (by omega));have hl:=gU n (by omega);go_enter Tryz.func60,Tryz.ntmps60
   go_wp2_with (go_at_call 51;(first|refine(am _ _ _ _ (by omega) (by omega)).mono ?_|refine(aB _ _ _ _ (by omega)).mono ?_);rintro e w' ⟨rfl,rfl⟩)
   go_loopg [0,3] n (fun g nv o wr => ∃(m:Nat) (pre:List UInt8),m=g/\m<=562949953421311/\nv=.int .i64 m/\pre++cr m=cr n/\Own 5 1 w.heap.size w o pre.length (u8s pre) wr)
   case atStart=>exact⟨n,[],rfl,by omega,rfl,rfl,by simpa[u8s] using Own.lit (e:=5) (size:=1) (n:=0) (Below.refl w.heap.size w) zN #[] rfl (by decide)⟩
   case round =>
    obtain⟨m,pre,rfl,hm,rfl,hpre,vN⟩:=hrel;have hpl:pre.length<=7:=by have:=congrArg List.length hpre;rw[List.length_append] at this;omega
    obtain⟨av,cv,rfl,_,_⟩:=vN.shape;by_cases hlt:m<128
    ·have H2:Hid (pre ++ [lo7 m]=cr n):=zH (by rw[fJ hlt] at hpre;exact hpre);clear hpre;go_wp2_with (at_builtin;go_loud (refine cV rfl _ _ 34 rfl 5 (.int .u8 0) 1 1 Tryz.underlying34 cW rfl (by decide) w.heap.size w _ _ _ (by rfl) (by exact vN) _ _ (by rfl) (by rfl) (by intro u hu;simp at hu;first|(subst hu;rfl)|(rcases hu with rfl|rfl <;> rfl)|(rcases hu with rfl|rfl|rfl <;> rfl)|(rcases hu with rfl|rfl|rfl|rfl <;> rfl)) (by omega) (by unfold maxLen;omega) ?_);intro a2 c2 w2 hO2)
     have hr2:Rd w2 a2 (pre.length+1) c2 1 (u8s (cr n)):=by
      have:=hO2.rd;rw[←H2.out,bS,pS m hlt];exact this
     have hcv:=iU (P:=Tryz.prog) 34 9 5 Tryz.underlying34 Tryz.underlying5 Tryz.underlying9 hr2;go_simp;go_wp2;go_ret;exact⟨by rw[H1.out];rfl,hO2.below⟩
    ·have H2:Hid (pre ++ [Df m]++cr (m / 128)=cr n):=zH (by rw[gN hlt] at hpre;rw[←hpre];simp);clear hpre;have h127:=i64_and127 (m:Int);have hor:bits .or .i64 ((m:Int) % 128) 128=128+(m:Int) % 128:=by
      rw[iQ];exact cP 7 128 _ (by decide) (by decide) (by decide) (by omega) (by omega) (by omega)
     go_wp2_with (at_builtin;go_loud (refine cV rfl _ _ 34 rfl 5 (.int .u8 0) 1 1 Tryz.underlying34 cW rfl (by decide) w.heap.size w _ _ _ (by rfl) (by exact vN) _ _ (by rfl) (by rfl) (by intro u hu;simp at hu;first|(subst hu;rfl)|(rcases hu with rfl|rfl <;> rfl)|(rcases hu with rfl|rfl|rfl <;> rfl)|(rcases hu with rfl|rfl|rfl|rfl <;> rfl)) (by omega) (by unfold maxLen;omega) ?_);intro a2 c2 w2 hO2)
     go_wp2;go_roundg (m / 128)
     case measure=>omega
     case rel =>
      refine⟨m / 128,pre ++ [Df m],rfl,by omega,by go_num,H2.out,?_⟩;rw[bS,List.length_append,pE m];exact hO2
  ·have H1:=zH (jU n (by omega));go_enter Tryz.func60,Tryz.ntmps60
   go_wp2_with (go_at_call 51;(first|refine(am _ _ _ _ (by omega) (by omega)).mono ?_|refine(aB _ _ _ _ (by omega)).mono ?_);rintro e w' ⟨rfl,rfl⟩)
   go_ret;exact⟨by rw[H1.out];rfl,zB⟩
 ·have H1:=zH (jU n (by omega));go_enter Tryz.func60,Tryz.ntmps60
  go_wp2_with (go_at_call 51;(first|refine(am _ _ _ _ (by omega) (by omega)).mono ?_|refine(aB _ _ _ _ (by omega)).mono ?_);rintro e w' ⟨rfl,rfl⟩)
  go_ret;exact⟨by rw[H1.out];rfl,zB⟩
set_option maxRecDepth 100000 in
theorem bX (n:Int)(w:World) :
  Calls Tryz.prog 70 #[.int .i64 n] w fun e w'=>e=.returned (.string ⟨(an n).toArray⟩)/\Below w.heap.size w w':=by
 by_cases h0:0<=n
 ·by_cases h1:n<=562949953421311
  ·obtain⟨n,rfl⟩:=Int.eq_ofNat_of_zero_le h0;have H1:=zH (eS n (by omega));have hl:=gU n (by omega);go_enter Tryz.func70,Tryz.ntmps70
   go_wp2_with (go_at_call 39;(first|refine(ao _ _ _ _ (by omega) (by omega)).mono ?_|refine(aG _ _ _ _ (by omega)).mono ?_);rintro e w' ⟨rfl,rfl⟩)
   go_loopg [0,3] n (fun g nv o wr => ∃(m:Nat) (pre:List UInt8),m=g/\m<=562949953421311/\nv=.int .i64 m/\pre++cr m=cr n/\Own 5 1 w.heap.size w o pre.length (u8s pre) wr)
   case atStart=>exact⟨n,[],rfl,by omega,rfl,rfl,by simpa[u8s] using Own.lit (e:=5) (size:=1) (n:=0) (Below.refl w.heap.size w) zN #[] rfl (by decide)⟩
   case round =>
    obtain⟨m,pre,rfl,hm,rfl,hpre,vN⟩:=hrel;have hpl:pre.length<=7:=by have:=congrArg List.length hpre;rw[List.length_append] at this;omega
    obtain⟨av,cv,rfl,_,_⟩:=vN.shape;by_cases hlt:m<128
    ·have H2:Hid (pre ++ [lo7 m]=cr n):=zH (by rw[fJ hlt] at hpre;exact hpre);clear hpre;go_wp2_with (at_builtin;go_loud (refine cV rfl _ _ 34 rfl 5 (.int .u8 0) 1 1 Tryz.underlying34 cW rfl (by decide) w.heap.size w _ _ _ (by rfl) (by exact vN) _ _ (by rfl) (by rfl) (by intro u hu;simp at hu;first|(subst hu;rfl)|(rcases hu with rfl|rfl <;> rfl)|(rcases hu with rfl|rfl|rfl <;> rfl)|(rcases hu with rfl|rfl|rfl|rfl <;> rfl)) (by omega) (by unfold maxLen;omega) ?_);intro a2 c2 w2 hO2)
     have hr2:Rd w2 a2 (pre.length+1) c2 1 (u8s (cr n)):=by
      have:=hO2.rd;rw[←H2.out,bS,pS m hlt];exact this
     have hcv:=iU (P:=Tryz.prog) 34 9 5 Tryz.underlying34 Tryz.underlying5 Tryz.underlying9 hr2;go_simp;go_wp2;go_ret;exact⟨by rw[H1.out];rfl,hO2.below⟩
    ·have H2:Hid (pre ++ [Df m]++cr (m / 128)=cr n):=zH (by rw[gN hlt] at hpre;rw[←hpre];simp);clear hpre;go_wp2_with (at_builtin;go_loud (refine cV rfl _ _ 34 rfl 5 (.int .u8 0) 1 1 Tryz.underlying34 cW rfl (by decide) w.heap.size w _ _ _ (by rfl) (by exact vN) _ _ (by rfl) (by rfl) (by intro u hu;simp at hu;first|(subst hu;rfl)|(rcases hu with rfl|rfl <;> rfl)|(rcases hu with rfl|rfl|rfl <;> rfl)|(rcases hu with rfl|rfl|rfl|rfl <;> rfl)) (by omega) (by unfold maxLen;omega) ?_);intro a2 c2 w2 hO2)
     go_wp2;go_roundg (m / 128)
     case measure=>omega
     case rel =>
      refine⟨m / 128,pre ++ [Df m],rfl,by omega,by go_num,H2.out,?_⟩;rw[bS,List.length_append,pE m];exact hO2
  ·have H1:=zH (jU n (by omega));go_enter Tryz.func70,Tryz.ntmps70
   go_wp2_with (go_at_call 39;(first|refine(ao _ _ _ _ (by omega) (by omega)).mono ?_|refine(aG _ _ _ _ (by omega)).mono ?_);rintro e w' ⟨rfl,rfl⟩)
   go_ret;exact⟨by rw[H1.out];rfl,zB⟩
 ·have H1:=zH (jU n (by omega));go_enter Tryz.func70,Tryz.ntmps70
  go_wp2_with (go_at_call 39;(first|refine(ao _ _ _ _ (by omega) (by omega)).mono ?_|refine(aG _ _ _ _ (by omega)).mono ?_);rintro e w' ⟨rfl,rfl⟩)
  go_ret;exact⟨by rw[H1.out];rfl,zB⟩
theorem kM (a:Option Addr)(n cap:Nat)(bs:List Int)(g:Nat)(s:CS)(p:Option Addr)(m c:Nat)(l:List ByteArray)(w:World)(hC:CurAt a n cap bs g s w)
  (hl:Rd w p m c 1 (cR l)) (hne:∀x,p=some x->x.block≠g) (hm0:0<m) (hm:m<=1048576) :
  Calls Tryz.prog 120 #[.pointer (some ⟨g,0,none⟩),.slice p m c] w (jR a n cap bs g w (l.getD (aj bs m s).1.toNat ByteArray.empty,(aj bs m s).2)):=by
 have HC:=zH hC;have hlen:l.length=m:=by have:=hl.len;simpa using this
 have hr:=aJ bs m s (by omega);have HL:=zH hl;clear hC hl;have zy:=zH hlen;clear hlen;go_enter Tryz.func120,Tryz.ntmps120
 go_wp2_with fail
 refine(aH a n cap bs g s m _ HC.out (by omega)).mono ?_;rintro e w1 ⟨rfl,ve,hG1⟩;have hL1:=HL.out.grown hG1 (fun x hx _ e=>hne x hx (by simpa using e.symm));have HR:=zH (And.intro ve hG1);obtain⟨b,off,rfl,hbs,hc⟩:=hL1.at' hm0;generalize (aj bs m s).1=x at *;obtain⟨hx0,hx1⟩:=hr;obtain⟨k,rfl⟩:=Int.eq_ofNat_of_zero_le hx0;have hk:k<l.length:=by have:=zy.out;omega
 have hc1:=hc k (by simpa using hk);rw[cE l k hk] at hc1;have HD:Hid (l.getD k ByteArray.empty=l[k]):=zH (by rw[List.getD_eq_getElem?_getD,List.getElem?_eq_getElem hk];rfl);clear ve hG1 hL1 hc hbs;generalize l[k]=y at *;go_wp2;go_ret;refine⟨?_,HR.out.1,HR.out.2⟩;rw[Int.toNat_natCast,HD.out];rfl
def sM (a:Option Addr)(n cap:Nat)(bs:List Int)(g:Nat)(w:World)(b:Nat)(e:Ending)(w':World):Prop := ∃r:ByteArray × CS,r.1.size<=b/\jR a n cap bs g w r e w'
def nameL:List ByteArray:=[⟨#[97]⟩,⟨#[65]⟩,⟨#[98]⟩,⟨#[195,165]⟩,⟨#[97,204,138]⟩,⟨#[226,132,171]⟩,⟨#[65,204,138]⟩,⟨#[225,186,173]⟩,⟨#[97,204,130,204,163]⟩,⟨#[97,204,163,204,130]⟩,⟨#[115,115]⟩,⟨#[195,159]⟩,⟨#[83,83]⟩,⟨#[207,131]⟩,⟨#[207,130]⟩,⟨#[206,163]⟩,⟨#[234,176,129]⟩,⟨#[225,132,128,225,133,161,225,134,168]⟩,⟨#[206,172]⟩,⟨#[206,134]⟩,⟨#[102,105,108,101]⟩,⟨#[70,73,76,69]⟩,⟨#[70,105,108,101]⟩,⟨#[120,49]⟩,⟨#[120,50]⟩,⟨#[120,51]⟩,⟨#[120,52]⟩,⟨#[120,53]⟩,⟨#[108,111,110,103,32,110,97,109,101]⟩]
def nameM:List ByteArray:=[⟨#[]⟩,⟨#[46]⟩,⟨#[46,46]⟩,⟨#[46,46,46]⟩,⟨#[97,47,98]⟩,⟨#[127]⟩,⟨#[97,98,99,100,101,102,103,104,105,106,107,108,109,110,111,112,113,114,115,116,117,118,119,120]⟩,⟨#[97,98,99,100,101,102,103,104,105,106,107,108,109,110,111,112,113,114,115,116,117,118,119,120,121]⟩,⟨#[255]⟩]
theorem lY (l:List ByteArray)(b:Nat)(h:∀x∈l,x.size<=b)(k:Nat):(l.getD k ByteArray.empty).size<=b:=by
 by_cases hk:k<l.length
 ·rw[List.getD_eq_getElem?_getD,List.getElem?_eq_getElem hk];exact h _ (List.getElem_mem hk)
 ·rw[List.getD_eq_getElem?_getD,List.getElem?_eq_none (by omega)];exact Nat.zero_le _
theorem da (a:Option Addr)(n cap:Nat)(bs:List Int)(g:Nat)(s:CS)(w:World)(hC:CurAt a n cap bs g s w) :
  Calls Tryz.prog 92 #[.pointer (some ⟨g,0,none⟩)] w (sM a n cap bs g w 27):=by
 have HC:=zH hC;clear hC;go_enter Tryz.func92,Tryz.ntmps92
 go_wp2_with fail
 refine(kM a n cap bs g s _ 29 29 nameL _ (HC.out.alloc _) (by rw[show nameL=nameL from rfl];exact aM (news:=(cR nameL).toArray) rfl (by decide)) (fun x hx=>by cases hx;have:=HC.out.lt;show w.heap.size≠g;omega) (by omega) (by omega)).mono ?_;rintro e w1 ⟨rfl,ve,hG1⟩;have hk:=lY nameL 27 (by decide) (aj bs 29 s).1.toNat;have yO:=zH ve;have Ak:=zH ((World.grownBy_alloc w _ _).trans hG1);clear ve hG1;simp only at yO ⊢;generalize nameL.getD (aj bs 29 s).1.toNat ByteArray.empty=t at *;generalize (aj bs 29 s).2=s1 at *;go_wp2_with fail
 refine(bo a n cap bs g s1 4 _ yO.out (by omega)).mono ?_;rintro e w2 ⟨rfl,hC2,hG2⟩;have wI:=zH hC2;have HG2:=zH (Ak.out.trans hG2);clear hC2 hG2;simp only at wI ⊢;generalize (aj bs 4 s1).2=s2 at *;generalize ((aj bs 4 s1).1==0)=t1 at *;cases t1 with
 | true =>
  go_wp2_with fail
  refine(oN a n cap bs g s2 4 _ wI.out (by omega) (by omega)).mono ?_;rintro e w3 ⟨l,s3,p,c,rfl,hl,-,hO,Bj,hG3⟩;have xm:=zH Bj;have xI:=zH (HG2.out.trans hG3);have CW:=zH (show Rd w3 p l.length c 1 (aE l) from (Own.rd ⟨hO,zB,hG3.size⟩));have hel:(fp l).length<=27:=by
   have h1:=iI l;unfold fp;split <;> simp <;> omega
  have hl4:l.length<=4:=by omega
  clear hO Bj hG3 hl;go_wp2_with fail
  refine(bK _ _ _ l _ CW.out (by omega)).mono ?_;rintro e w4 ⟨rfl,hb4⟩;have xQ:=zH (xm.out.kept hb4);have zk:=zH (xI.out.trans (aA (some g) hb4));clear hb4;generalize fp l=E at *;have P6:(⟨E.toArray⟩:ByteArray).size<=27:=by simpa[ByteArray.size] using hel
  generalize (⟨E.toArray⟩:ByteArray)=T at *;clear hel;go_wp2;go_ret;exact⟨(T,s3),P6,rfl,xQ.out,zk.out⟩
 | false =>
  go_wp2_with fail
  refine(bo a n cap bs g s2 25 _ wI.out (by omega)).mono ?_;rintro e w3 ⟨rfl,Bj,hG3⟩;have xm:=zH Bj;have xI:=zH (HG2.out.trans hG3);clear Bj hG3;simp only at xm ⊢;generalize (aj bs 25 s2).2=s3 at *;generalize ((aj bs 25 s2).1==0)=t2 at *;cases t2 with
  | true =>
   go_wp2_with fail
   refine(kM a n cap bs g s3 _ 9 9 nameM _ (xm.out.alloc _) (by exact aM (news:=(cR nameM).toArray) rfl (by decide)) (fun x hx=>by cases hx;have:=xm.out.lt;show w3.heap.size≠g;omega) (by omega) (by omega)).mono ?_;rintro e w4 ⟨rfl,Iz,hG4⟩;have hk2:=lY nameM 27 (by decide) (aj bs 9 s3).1.toNat;have xQ:=zH Iz;have zk:=zH ((xI.out.trans (World.grownBy_alloc _ _ _)).trans hG4);clear Iz hG4;go_wp2;go_ret;exact⟨(nameM.getD (aj bs 9 s3).1.toNat ByteArray.empty,(aj bs 9 s3).2),hk2,rfl,xQ.out,zk.out⟩
  | false =>
   go_wp2;go_ret;exact⟨(t,s3),hk,rfl,xm.out,xI.out⟩
theorem ou (a:Option Addr)(n cap:Nat)(w:World)(hn:n<=1048576):Calls Tryz.prog 14 #[.slice a n cap] w fun e w'=>e=.returned (.bool false)/\w=w':=by
 go_enter Tryz.func14,Tryz.ntmps14
 go_wp2;go_ret;exact⟨ah (by simp;omega),rfl⟩
theorem mS (a:Option Addr)(n cap:Nat)(w:World)(hn:1048576<n)(hm:n<=maxLen):Calls Tryz.prog 14 #[.slice a n cap] w fun e w'=>e=.returned (.bool true)/\w=w':=by
 unfold maxLen at hm;go_enter Tryz.func14,Tryz.ntmps14
 go_wp2;go_ret;exact⟨ah (by simp;omega),rfl⟩

section
variable {P:Program}
theorem dj {w0:World}{ops:Array Oper}{rest:List Oper}{o:Oper}{a:Act}{Q:Exit->Act->World->Prop}(hgd:o.guard=none)(s x:Operand)(t:TypeId)
  (ho:o.op=.call { callee:=.builtin .append,args:=#[s,x],argTypes:=#[t,t] })
  (e:TypeId) (z:Value) (size bytes:Nat) (ht:P.underlying t=some (.slice e)) (hi:(P.info? e).map (fun i=>(i.zero,i.size,i.bytes))=some (some z,size,bytes)) (hzs:z.cells.size=size) (hsz:0<size)
  (B:Nat) (W0:World) (v:Value) (n:Nat) (xs:List Value) (hs:a.eval s=v) (hown:Own e size B W0 v n xs w0)
  (m:Nat) (news:Array Value) (b:Nat) (hx:a.eval x=.slice (some ⟨b,0,none⟩) m m) (hb:b=w0.heap.size) (hl:news.size=m*size) (h1:∀u∈news.toList,u.oneCell'=true)
  (hlim:(n+m)*bytes<=140737488355328) (hmax:n+m<=maxLen)
  (h:∀a' cap' w',Own e size B W0 (.slice a' (n+m) cap') (n+m) (xs++news.toList) w'->w0.grownBy w' v.ownBlock->((Value.slice a' (n+m) cap').ownBlock=v.ownBlock∨∃k,(Value.slice a' (n+m) cap').ownBlock=some k/\w0.heap.size<=k) ->
   wpList P ops Q rest (a.put o.dst (.slice a' (n+m) cap')) w'):wpList P ops Q (o::rest) a (w0.alloc (.cells news e)):=by
 subst hb;exact cI hgd s x t ho e z size bytes ht hi hzs hsz B W0 v n xs hs hown m news hx hl h1 hlim hmax h
end
def dq (x:EntL):Prop:=x.name.size<=1073741824
theorem ea {l:List EntL}{x:EntL}(h:∀y∈l,dq y)(hx:dq x):∀y∈l ++ [x],dq y:=by
 intro y hy;rcases List.mem_append.1 hy with h1|h1
 ·exact h y h1
 ·rw[List.mem_singleton] at h1;subst h1;exact hx
theorem qo (B:Nat)(a:Option Addr)(c:Nat)(l:List EntL)(s:ByteArray)(id:Int)(w:World)(h:w.ownsRow B 74 4 (.slice a l.length c) l.length (ens l))(hB:B<=w.heap.size)(hs:∀x∈l,dq x)(hss:s.size<=1073741824)(IB:1<=id)(IC:id<=100000)(hn:l.length<=100000) :
  Calls Tryz.prog 119 #[.slice a l.length c,.string s,.int .i64 id] w (kW B dq (l.length+1) w):=by
 have hO:Own 74 4 B w (.slice a l.length c) l.length (ens l) w:=⟨h,zB,hB⟩;have HO:=zH hO;have H:=zH hO.rd;have vJ:=zH hs;have HQ:Hid (∀W,Own 74 4 B w (.slice a l.length c) l.length (ens l) W->Below w.heap.size w W->kW B dq (l.length+1) w (.returned (.tuple #[.slice a l.length c,.bool false])) W):=zH (fun W h1 h2=>⟨l,a,c,false,rfl,by omega,hs,h1.row,h2⟩);have BM:Hid (∀W,Calls Tryz.prog 93 #[.string s] W fun e w'=>e=.returned (.bool (aI s))/\Below W.heap.size W w'):=zH (fun W=>cB s W hss);clear h hs hO;generalize aI s=nb at *;go_enter Tryz.func119,Tryz.ntmps119
 go_wp2_with fail
 refine(BM.out _).mono ?_;rintro e w1 ⟨rfl,hb⟩;have HB1:=zH hb;have BX:=zH (HO.out.kept hb);clear hb HO;cases nb with
 | false =>
  go_wp2;go_ret2;exact HQ.out _ BX.out HB1.out
 | true =>
  go_wp2_with fail
  refine(bM a _ c l s _ (H.out.below HB1.out zN) vJ.out hss).mono ?_;rintro e w2 ⟨r,rfl,hE,hb⟩;have HB2:=zH (ac HB1.out hb);have xK:=zH (BX.out.kept hb);clear hb BX HB1;rcases hE with ⟨rfl,-⟩|⟨m,hlt,rfl,-,-⟩
  ·by_cases h12:(12:Int)<=(l.length:Int)
   ·go_wp2_with (first|(go_at_call 39;(first|refine(ao _ _ _ _ (by omega) (by omega)).mono ?_|refine(aG _ _ _ _ (by omega)).mono ?_);rintro e w' ⟨rfl,rfl⟩))
    go_ret2;exact HQ.out _ xK.out HB2.out
   ·go_wp2_with (first|(go_at_call 39;(first|refine(ao _ _ _ _ (by omega) (by omega)).mono ?_|refine(aG _ _ _ _ (by omega)).mono ?_);rintro e w' ⟨rfl,rfl⟩)|fail)
    refine(dg s _ hss).mono ?_;rintro e w3 ⟨rfl,hb⟩;have HB3:=zH (ac HB2.out hb);clear hb HQ BM xK;generalize a7 s=hv at *;go_wp2;go_loopg [9,10] l.length (fun gg q i wr => ∃(j:Nat) (z:Int),j+gg=l.length/\i=.int .i64 (j:Int)/\q=.int .i64 z/\0<=z/\z<=(j:Int)/\wr=w3)
    case atStart=>exact⟨0,0,by omega,rfl,rfl,by omega,by omega,rfl⟩
    case round =>
     obtain⟨j,z,hj,rfl,rfl,hz0,hz1,rfl⟩:=hrel;obtain⟨gg,hgg⟩:∃g,g=gk:=⟨_,rfl⟩;by_cases hlt:j<l.length
     ·obtain⟨b,off,rfl,hbs,d0,d1,d2,d3⟩:=ay (H.out.below HB3.out zN) j hlt;have hi:(j:Int)<(l.length:Int):=by omega
      have hi0:(0:Int)<=(j:Int):=by omega
      generalize l[j]=x at *;obtain⟨xh,xi,xn,xd⟩:=x;try simp only at d0 d1 d2 d3
      clear hlt;by_cases he:xh=hv
      ·subst he;by_cases he2:xi=z
       ·subst he2;go_wp2;go_roundg (gk - 1)
        case measure=>omega
        case rel=>exact⟨j+1,xi+1,by omega,by go_num,by go_num,by omega,by omega,rfl⟩
       ·have hne:(xi==z)=false:=by simp[he2]
        clear he2;go_wp2;go_roundg (gk - 1)
        case measure=>omega
        case rel=>exact⟨j+1,z,by omega,by go_num,rfl,by omega,by omega,rfl⟩
      ·have hne:(xh==hv)=false:=by simp[he]
       clear he;go_wp2;go_roundg (gk - 1)
       case measure=>omega
       case rel=>exact⟨j+1,z,by omega,by go_num,rfl,by omega,by omega,rfl⟩
     ·have hjl:j=l.length:=by omega
      subst hjl;rename World=>wo
      have Al:Hid (Below w.heap.size w wo):=zH HB3.out;have yF:=zH (Own.lit (e:=74) (size:=4) (n:=0) (Below.refl wo.heap.size wo) zN #[] rfl (by decide));clear HB3;go_wp2;go_loopg [11,12,13] l.length (fun gg o pt i wr => ∃(j:Nat) (lo:List EntL) (a':Option Addr) (c':Nat) (put:Bool),j+gg=l.length/\i=.int .i64 (j:Int)/\o=.slice a' lo.length c'/\pt=.bool put/\lo.length<=j+(if put=true then 1 else 0)/\Hid (∀x∈lo,dq x)/\Hid (Own 74 4 wo.heap.size wo (.slice a' lo.length c') lo.length (ens lo) wr))
      case atStart=>exact⟨0,[],_,_,false,by omega,rfl,rfl,rfl,by simp,zH (by simp),zH (by exact yF.out)⟩
      case round =>
       obtain⟨j,lo,a',c',put,hj2,rfl,rfl,rfl,hlo,BN,DC⟩:=hrel;have wy:=zH (ac Al.out DC.out.below);by_cases hlt:j<l.length
       ·obtain⟨b,off,rfl,hbs,d0,d1,d2,d3⟩:=ay (H.out.below wy.out zN) j hlt;have hi:(j:Int)<(l.length:Int):=by omega
        have hi0:(0:Int)<=(j:Int):=by omega
        have Iy:=zH (vJ.out l[j] (List.getElem_mem hlt));have IE:Hid (∀W,Below w.heap.size w W->W.cell? ⟨b,off+j*4,none⟩=some (.int .i64 l[j].hash)/\W.cell? ⟨b,off+j*4+1,none⟩=some (.int .i64 l[j].index)/\W.cell? ⟨b,off+j*4+2,none⟩=some (.string l[j].name)/\W.cell? ⟨b,off+j*4+3,none⟩=some (.int .i64 l[j].id)/\b<W.heap.size):=zH (fun W hW=>by
         obtain⟨b',off',e',hb',p0,p1,p2,p3⟩:=ay (H.out.below hW zN) j hlt;cases e';exact⟨p0,p1,p2,p3,hb'⟩)
        generalize l[j]=x at *;obtain⟨xh,xi,xn,xd⟩:=x;try simp only at d0 d1 d2 d3 IE
        have hl12:l.length<12:=by omega
        cases put with
        | true =>
         rw[if_pos rfl] at hlo;have y8:=zH DC.out;go_wp2_with (at_builtin;go_loud (refine dj rfl _ _ 43 rfl 74 (.agg #[.int .i64 0,.int .i64 0,.string ByteArray.empty,.int .i64 0]) 4 40 Tryz.underlying43 bG rfl (by decide) _ _ _ _ _ (by rfl) (by exact y8.out) _ _ _ (by rfl) (by first|rfl|simp) (by rfl) (by intro u hu;simp at hu;rcases hu with rfl|rfl|rfl|rfl <;> rfl) (by omega) (by unfold maxLen;omega) ?_);intro a9 c9 w9 vQ vZ wO;have xy:=zH vQ;clear vZ wO vQ)
         go_roundg (gk - 1)
         case measure=>omega
         case rel=>exact⟨j+1,lo ++ [⟨xh,xi,xn,xd⟩],_,_,true,by omega,by go_num,by rw[List.length_append];rfl,rfl,by rw[List.length_append,if_pos rfl];simp;omega,zH (ea BN.out Iy.out),zH (by rw[List.length_append,a5];exact xy.out)⟩
        | false =>
         rw[if_neg (by decide)] at hlo;have Ey:Hid (∀W,Calls Tryz.prog 94 #[.agg #[.int .i64 xh,.int .i64 xi,.string xn,.int .i64 xd],.int .i64 hv,.int .i64 z] W fun e w'=>e=.returned (.bool (dm xh xi hv z))/\Below W.heap.size W w'):=zH (fun W=>iw ⟨xh,xi,xn,xd⟩ hv z W);generalize dm xh xi hv z=bl at *;go_wp2_with fail
         refine(Ey.out _).mono ?_;rintro e w5 ⟨rfl,hb⟩;have y8:=zH (DC.out.kept hb);replace d0:=af d0 hb;replace d1:=af d1 hb;replace d2:=af d2 hb;replace d3:=af d3 hb;have Gn:b<w5.heap.size:=World.block_lt_of_cell? w5 _ d0;clear hb;cases bl with
         | true =>
          go_wp2_with (at_builtin;go_loud (refine dj rfl _ _ 43 rfl 74 (.agg #[.int .i64 0,.int .i64 0,.string ByteArray.empty,.int .i64 0]) 4 40 Tryz.underlying43 bG rfl (by decide) _ _ _ _ _ (by rfl) (by exact y8.out) _ _ _ (by rfl) (by first|rfl|simp) (by rfl) (by intro u hu;simp at hu;rcases hu with rfl|rfl|rfl|rfl <;> rfl) (by omega) (by unfold maxLen;omega) ?_);intro a9 c9 w9 vQ vZ wO;have xy:=zH vQ;clear vZ wO vQ)
          go_roundg (gk - 1)
          case measure=>omega
          case rel=>exact⟨j+1,lo ++ [⟨xh,xi,xn,xd⟩],_,_,false,by omega,by go_num,by rw[List.length_append];rfl,rfl,by rw[List.length_append,if_neg (by decide)];simp;omega,zH (ea BN.out Iy.out),zH (by rw[List.length_append,a5];exact xy.out)⟩
         | false =>
          have hlo3:lo.length+1<=12:=by omega
          go_wp2_with (first|(at_builtin;go_loud (refine dj rfl _ _ 43 rfl 74 (.agg #[.int .i64 0,.int .i64 0,.string ByteArray.empty,.int .i64 0]) 4 40 Tryz.underlying43 bG rfl (by decide) _ _ _ _ _ (by rfl) (by exact y8.out) _ _ _ (by rfl) (by first|rfl|simp) (by rfl) (by intro u hu;simp at hu;rcases hu with rfl|rfl|rfl|rfl <;> rfl) (by omega) (by unfold maxLen;omega) ?_);intro a9 c9 w9 vQ vZ wO;have xy:=zH vQ;clear vZ wO vQ;obtain⟨e0,e1,e2,e3,e4⟩:=IE.out w9 (ac Al.out xy.out.below))|(at_builtin;go_loud (refine dj rfl _ _ 43 rfl 74 (.agg #[.int .i64 0,.int .i64 0,.string ByteArray.empty,.int .i64 0]) 4 40 Tryz.underlying43 bG rfl (by decide) _ _ _ _ _ (by rfl) (by exact xy.out) _ _ _ (by rfl) (by first|rfl|simp) (by rfl) (by intro u hu;simp at hu;rcases hu with rfl|rfl|rfl|rfl <;> rfl) (by omega) (by unfold maxLen;omega) ?_);intro a8 c8 w8 IG Ii Ij;have Dg:=zH IG;clear Ii Ij IG))
          go_roundg (gk - 1)
          case measure=>omega
          case rel=>exact⟨j+1,(lo ++ [⟨hv,z,s,id⟩]) ++ [⟨xh,xi,xn,xd⟩],_,_,true,by omega,by go_num,by rw[List.length_append,List.length_append];rfl,rfl,by rw[List.length_append,List.length_append,if_pos rfl];simp;omega,zH (ea (ea (x:=⟨hv,z,s,id⟩) BN.out hss) Iy.out),zH (by rw[List.length_append,List.length_append,a5,a5];exact Dg.out)⟩
       ·have BZ:j=l.length:=by omega
        subst BZ;have hl12:l.length<12:=by omega
        cases put with
        | true =>
         rw[if_pos rfl] at hlo;go_wp2;go_ret2;exact⟨lo,a',c',true,rfl,hlo,BN.out,iW DC.out.row (Nat.le_trans hB Al.out.size),wy.out⟩
        | false =>
         rw[if_neg (by decide)] at hlo;have y8:=zH DC.out;go_wp2_with (at_builtin;go_loud (refine dj rfl _ _ 43 rfl 74 (.agg #[.int .i64 0,.int .i64 0,.string ByteArray.empty,.int .i64 0]) 4 40 Tryz.underlying43 bG rfl (by decide) _ _ _ _ _ (by rfl) (by exact y8.out) _ _ _ (by rfl) (by first|rfl|simp) (by rfl) (by intro u hu;simp at hu;rcases hu with rfl|rfl|rfl|rfl <;> rfl) (by omega) (by unfold maxLen;omega) ?_);intro a9 c9 w9 vQ vZ wO;have xy:=zH vQ;clear vZ wO vQ)
         go_ret2;exact⟨lo ++ [⟨hv,z,s,id⟩],a9,c9,true,by rw[List.length_append];rfl,by rw[List.length_append];simp;omega,ea (x:=⟨hv,z,s,id⟩) BN.out hss,by rw[List.length_append,a5];exact iW xy.out.row (Nat.le_trans hB Al.out.size),ac Al.out xy.out.below⟩
  ·have hm0:(0:Int)<=(m:Int):=by omega
   go_wp2;go_ret2;exact HQ.out _ xK.out HB2.out
def l6 (x:EntL):Prop:=x.name.size<=24
structure GoodE (ids:List Int)(e:EntL):Prop where
 tiny:l6 e
 no1:e.id≠1
 mem:e.id∈ids
theorem GoodE.small {ids:List Int}{e:EntL}(h:GoodE ids e):dq e:=by have:=h.tiny;unfold l6 at this;unfold dq;omega
structure GoodI (ids:List Int)(x:InoL):Prop where
 kind:x.kind=1∨x.kind=2
 file:x.kind≠2->x.ents = []
 data:x.data.size<=1000
 len:x.ents.length<=12
 ents:∀e∈x.ents,GoodE ids e
def cu (l:List InoL):List Int:=l.map (·.id)
structure Inv (d:Int->Int)(next:Int)(l:List InoL):Prop where
 lo:2<=next
 hi:next<=100000
 n16:l.length<=16
 ids:(cu l).Nodup
 rng:∀x∈l,1<=x.id/\x.id<next
 root:1∈cu l
 good:∀x∈l,GoodI (cu l) x
 link:∀x∈l,x.id≠1->x.links=(aD l x.id:Int)+d x.id
def d0:Int->Int:=fun _=>0
def d1 (i:Int):Int->Int:=fun j=>if j=i then 1 else 0
theorem kY {l:List InoL}(h:(cu l).Nodup)(k:Nat)(hk:k<l.length):atF l l[k].id=(k:Int):=by
 refine iO l _ k hk rfl (fun j hj e=>?_);have hp:=List.pairwise_iff_getElem.1 h j k (by simp[cu];omega) (by simp[cu];omega) hj;simp[cu] at hp;exact hp e
theorem tD (l:List InoL)(i:Int):0<=atF l i ↔ i∈cu l:=by
 rw[pU];unfold cu;rw[List.mem_map]
theorem sg {l:List InoL}{k:Nat}(hk:k<l.length):l[k].id∈cu l:=List.mem_map_of_mem (List.getElem_mem hk)
theorem kD {l:List InoL}{k:Nat}(hk:k<l.length){x:InoL}(hx:x.id=l[k].id):cu (l.set k x)=cu l:=by
 unfold cu;rw[List.map_set,hx];refine List.ext_getElem (by simp) fun i h1 h2=>?_
 rw[List.getElem_set];split
 ·next h=>subst h;simp
 ·rfl
theorem rm {l l':List InoL}(h:cu l=cu l')(i:Int):atF l i=atF l' i:=by
 have e:∀q:List InoL,atK q i=(cu q).findIdx (fun y=>y==i):=fun q=>by
  unfold atK cu;rw[List.findIdx_map];rfl
 have e2:l.length=l'.length:=by have:=congrArg List.length h;simpa[cu] using this
 unfold atF;rw[e,e,h,e2]
theorem qL (es:List EntL)(i:Int)(h:∀e∈es,e.id≠i):bT es i=0:=by
 unfold bT;rw[List.countP_eq_zero];intro e he;simpa using h e he
theorem ru (es:List EntL)(i:Int)(h:bT es i=0):∀e∈es,e.id≠i:=by
 unfold bT at h;rw[List.countP_eq_zero] at h;intro e he;simpa using h e he
theorem fu (a b:List InoL)(i:Int):aD (a++b) i=aD a i+aD b i:=by unfold aD;rw[List.map_append,List.sum_append]
theorem cS (x:InoL)(b:List InoL)(i:Int):aD (x::b) i=bT x.ents i+aD b i:=by unfold aD;rw[List.map_cons,List.sum_cons]
theorem m5:∀(l:List InoL) (i:Int),(∀x∈l,∀e∈x.ents,e.id≠i)->aD l i=0:=by
 intro l i;induction l with
 | nil=>intro _;rfl
 | cons x l ih =>
  intro h;rw[cS,qL _ _ (h x List.mem_cons_self),ih (fun y hy=>h y (List.mem_cons_of_mem _ hy))]
theorem nV:∀(l:List InoL) (i:Int),aD l i=0->∀x∈l,∀e∈x.ents,e.id≠i:=by
 intro l i;induction l with
 | nil=>intro _ x hx;cases hx
 | cons y l ih =>
  intro h x hx;rw[cS] at h;rcases List.mem_cons.1 hx with rfl|hx
  ·exact ru _ _ (by omega)
  ·exact ih (by omega) x hx
theorem oR (l:List InoL)(k:Nat)(hk:k<l.length)(x:InoL)(i:Int):aD (l.set k x) i+bT l[k].ents i=aD l i+bT x.ents i:=by
 have e1:l.set k x=l.take k++x::l.drop (k+1):=by rw[List.set_eq_take_append_cons_drop,if_pos hk]
 have e2:aD l i=aD (l.take k) i+(bT l[k].ents i+aD (l.drop (k+1)) i):=by
  conv=>lhs;rw[←List.take_append_drop k l,List.drop_eq_getElem_cons hk]
  rw[fu,cS]
 rw[e1,fu,cS,e2];omega
theorem lf (l:List InoL)(id i:Int)(he:∀x∈l,x.id=id->x.ents = []):aD (l.filter (fun x => !(x.id==id))) i=aD l i:=by
 induction l with
 | nil=>rfl
 | cons x l ih =>
  have ih2:=ih (fun y hy=>he y (List.mem_cons_of_mem _ hy));by_cases hx:x.id=id
  ·have:(x::l).filter (fun x => !(x.id==id))=l.filter (fun x => !(x.id==id)):=by rw[List.filter_cons_of_neg (by simp[hx])]
   rw[this,ih2,cS,he x List.mem_cons_self hx];simp[bT]
  ·rw[List.filter_cons_of_pos (by simp[hx]),cS,cS,ih2]
theorem Inv.set {d:Int->Int}{next:Int}{l:List InoL}(h:Inv d next l)(k:Nat)(hk:k<l.length)(x:InoL)(hid:x.id=l[k].id)(hg:GoodI (cu l) x)(d':Int->Int)
  (hd:∀i,i∈cu l->i≠1->d' i=d i+(bT l[k].ents i:Int) - (bT x.ents i:Int)+(if i=l[k].id then x.links - l[k].links else 0)):Inv d' next (l.set k x):=by
 have hi:=kD hk hid;have cov:∀y∈l.set k x,y=x∨(y∈l/\y.id≠l[k].id):=by
  intro y hy;obtain⟨j,hj,rfl⟩:=List.mem_iff_getElem.1 hy;rw[List.getElem_set];split
  ·exact .inl rfl
  ·next hne =>
   refine .inr ⟨List.getElem_mem _,fun e=>hne ?_⟩;have h1:=kY h.ids j (by simpa using hj);have h2:=kY h.ids k hk;rw[e] at h1;omega
 refine⟨h.lo,h.hi,by simpa using h.n16,by rw[hi];exact h.ids,fun y hy=>?_,by rw[hi];exact h.root,fun y hy=>?_,fun y hy h1=>?_⟩
 ·rcases cov y hy with rfl|⟨hy,_⟩
  ·rw[hid];exact h.rng _ (List.getElem_mem hk)
  ·exact h.rng y hy
 ·rw[hi];rcases cov y hy with rfl|⟨hy,_⟩
  ·exact hg
  ·exact h.good y hy
 ·have hs:=oR l k hk x y.id;rcases cov y hy with rfl|⟨hy,hne⟩
  ·have h2:=hd y.id (by rw[hid];exact sg hk) h1;rw[if_pos hid] at h2;have h3:=h.link _ (List.getElem_mem hk) (by rw[←hid];exact h1);rw[←hid] at h3;rw[h2];omega
  ·have h2:=hd y.id (List.mem_map_of_mem hy) h1;rw[if_neg hne] at h2;have h3:=h.link y hy h1;rw[h2];omega
theorem Inv.gone {next:Int}{l:List InoL}(h:Inv d0 next l)(id:Int)(h1:id≠1)(hn:aD l id=0)(he:∀x∈l,x.id=id->x.ents = []):Inv d0 next (l.filter (fun x => !(x.id==id))):=by
 have hsub:(l.filter (fun x => !(x.id==id))).Sublist l:=List.filter_sublist;have II:∀i,i∈cu l->i≠id->i∈cu (l.filter (fun x => !(x.id==id))):=by
  intro i hi hne;obtain⟨x,hx,rfl⟩:=List.mem_map.1 hi;have h2:(fun x:InoL => !(x.id==id)) x=true:=by show (!(x.id==id))=true;rw[beq_eq_false_iff_ne.2 hne];rfl
  have h3:x∈l.filter (fun x => !(x.id==id)):=List.mem_filter.2 ⟨hx,h2⟩;exact List.mem_map_of_mem h3
 have hno:=nV l id hn;refine⟨h.lo,h.hi,Nat.le_trans hsub.length_le h.n16,h.ids.sublist (hsub.map _),fun x hx=>h.rng x (hsub.mem hx),II 1 h.root (fun e=>h1 e.symm),fun x hx=>?_,fun x hx hx1=>?_⟩
 ·have g:=h.good x (hsub.mem hx);exact⟨g.kind,g.file,g.data,g.len,fun e he2=>⟨(g.ents e he2).tiny,(g.ents e he2).no1,II _ (g.ents e he2).mem (hno x (hsub.mem hx) e he2)⟩⟩
 ·rw[lf l id _ he];exact h.link x (hsub.mem hx) hx1
theorem Inv.app {next:Int}{l:List InoL}(h:Inv d0 next l)(hn:next<100000)(hl:l.length<16)(kd:Int)(hk:kd=1∨kd=2):Inv (d1 next) (next+1) (l ++ [⟨next,kd,1,ByteArray.empty,[]⟩]):=by
 have hi:cu (l ++ [⟨next,kd,1,ByteArray.empty,[]⟩])=cu l ++ [next]:=by simp[cu]
 have hno:next ∉ cu l:=by
  intro hm;obtain⟨x,hx,e⟩:=List.mem_map.1 hm;have:=h.rng x hx;omega
 have hup:∀e:EntL,GoodE (cu l) e->GoodE (cu l ++ [next]) e:=fun e g=>⟨g.tiny,g.no1,List.mem_append_left _ g.mem⟩
 have hz:aD [(⟨next,kd,1,ByteArray.empty,[]⟩:InoL)]=fun _=>0:=by funext i;rfl
 refine⟨by have:=h.lo;omega,by omega,by simp;omega,?_,fun x hx=>?_,by rw[hi];exact List.mem_append_left _ h.root,fun x hx=>?_,fun x hx hx1=>?_⟩
 ·rw[hi,List.nodup_append];refine⟨h.ids,by simp,fun a ha b hb e=>?_⟩;rw[List.mem_singleton] at hb;subst hb;exact hno (e ▸ ha)
 ·rcases List.mem_append.1 hx with hx|hx
  ·have:=h.rng x hx;omega
  ·rw[List.mem_singleton] at hx;subst hx;have:=h.lo;show 1<=next/\next<next+1
   omega
 ·rw[hi];rcases List.mem_append.1 hx with hx|hx
  ·have g:=h.good x hx;exact⟨g.kind,g.file,g.data,g.len,fun e he=>hup e (g.ents e he)⟩
  ·rw[List.mem_singleton] at hx;subst hx;exact⟨hk,fun _=>rfl,by show (ByteArray.empty).size<=1000;decide,by simp,fun e he=>by cases he⟩
 ·rw[fu,hz];rcases List.mem_append.1 hx with hx|hx
  ·have hne:x.id≠next:=fun e=>hno (e ▸ List.mem_map_of_mem hx)
   have:=h.link x hx hx1;unfold d0 at this;unfold d1;rw[if_neg hne];omega
  ·rw[List.mem_singleton] at hx;subst hx;have h0:aD l next=0:=m5 l next (fun y hy e he e2=>hno (e2 ▸ ((h.good y hy).ents e he).mem))
   show (1:Int)=((aD l next+0:Nat):Int)+d1 next next
   rw[h0];unfold d1;simp
theorem tm:Inv d0 2 [⟨1,2,1,ByteArray.empty,[]⟩]:=by
 refine⟨by omega,by omega,by simp,by simp[cu],fun x hx=>?_,by simp[cu],fun x hx=>?_,fun x hx h=>?_⟩
 ·rw[List.mem_singleton] at hx;subst hx;decide
 ·rw[List.mem_singleton] at hx;subst hx;exact⟨.inr rfl,fun _=>rfl,by show (ByteArray.empty).size<=1000;decide,by simp,fun e he=>by cases he⟩
 ·rw[List.mem_singleton] at hx;subst hx;exact absurd rfl h
theorem Inv.congr {d d':Int->Int}{next:Int}{l:List InoL}(h:Inv d next l)(e:∀i,i∈cu l->i≠1->d' i=d i):Inv d' next l:=
 ⟨h.lo,h.hi,h.n16,h.ids,h.rng,h.root,h.good,fun x hx h1=>by rw[e x.id (List.mem_map_of_mem hx) h1];exact h.link x hx h1⟩
theorem Inv.at_ {d:Int->Int}{next:Int}{l:List InoL}(h:Inv d next l)(k:Nat)(hk:k<l.length):atF l l[k].id=(k:Int):=kY h.ids k hk
theorem j3 (es:List EntL)(j:Nat)(hj:j<es.length)(i:Int):(bT es i:Int)=(bT (es.eraseIdx j) i:Int)+d1 es[j].id i:=by
 have e1:es.eraseIdx j=es.take j++es.drop (j+1):=List.eraseIdx_eq_take_drop_succ ..;have e2:bT es i=bT (es.take j) i+((if es[j].id=i then 1 else 0)+bT (es.drop (j+1)) i):=by
  conv=>lhs;rw[←List.take_append_drop j es,List.drop_eq_getElem_cons hj]
  unfold bT;rw[List.countP_append,List.countP_cons];by_cases h:es[j].id=i
  ·simp[h];omega
  ·simp[h]
 rw[e1,e2];unfold bT d1;rw[List.countP_append];by_cases h:es[j].id=i
 ·rw[if_pos h,if_pos h.symm];omega
 ·rw[if_neg h,if_neg (fun e=>h e.symm)];omega
theorem lw {a b:List EntL}(h:a.Perm b)(i:Int):bT a i=bT b i:=h.countP_eq _
theorem lH (e:EntL)(es:List EntL)(i:Int):(bT (e::es) i:Int)=(bT es i:Int)+d1 e.id i:=by
 unfold bT d1;rw[List.countP_cons];by_cases h:e.id=i
 ·simp[h]
 ·have h2:(e.id==i)=false:=by simpa using h
  rw[h2,if_neg (by decide),if_neg (fun e2=>h e2.symm)];omega
theorem rO (es:List EntL)(j:Nat)(hj:j<es.length)(e:EntL)(i:Int):(bT (es.set j e) i:Int)=(bT es i:Int) - d1 es[j].id i+d1 e.id i:=by
 have h1:(es.set j e).Perm (e::es.eraseIdx j):=by
  rw[List.set_eq_take_append_cons_drop,if_pos hj,List.eraseIdx_eq_take_drop_succ];exact List.perm_middle
 rw[lw h1,lH];have:=j3 es j hj i;omega
theorem Inv.add {d:Int->Int}{next:Int}{l:List InoL}(h:Inv d next l)(k:Nat)(hk:k<l.length)(hd:l[k].kind=2)(out:List EntL)(e:EntL)(hp:out.Perm (e::l[k].ents))(hl:l[k].ents.length<12)(he:GoodE (cu l) e):Inv (fun i=>d i - d1 e.id i) next (l.set k { l[k] with ents:=out }):=by
 have g:=h.good _ (List.getElem_mem hk);refine h.set k hk { l[k] with ents:=out } rfl ⟨g.kind,fun h2=>absurd hd h2,g.data,by have:=hp.length_eq;simp at this ⊢;omega,fun y hy=>?_⟩ _ (fun i _ _=>?_)
 ·rcases List.mem_cons.1 (hp.mem_iff.1 hy) with rfl|hy
  ·exact he
  ·exact g.ents y hy
 ·have h1:=lw hp i;have h2:=lH e l[k].ents i;simp only[Int.sub_self,ite_self];omega
theorem Inv.drop {d:Int->Int}{next:Int}{l:List InoL}(h:Inv d next l)(k:Nat)(hk:k<l.length)(j:Nat)(hj:j<l[k].ents.length):Inv (fun i=>d i+d1 l[k].ents[j].id i) next (l.set k { l[k] with ents:=l[k].ents.eraseIdx j }):=by
 have g:=h.good _ (List.getElem_mem hk);refine h.set k hk { l[k] with ents:=l[k].ents.eraseIdx j } rfl ⟨g.kind,fun h2=>by show l[k].ents.eraseIdx j = [];rw[g.file h2];rfl,g.data,by have:=List.length_eraseIdx_le l[k].ents j;have:=g.len;simp only;omega,fun y hy=>g.ents y (List.mem_of_mem_eraseIdx hy)⟩ _ (fun i _ _=>?_);have h1:=j3 l[k].ents j hj i;simp only[Int.sub_self,ite_self];omega
theorem Inv.respell {d:Int->Int}{next:Int}{l:List InoL}(h:Inv d next l)(k:Nat)(hk:k<l.length)(j:Nat)(hj:j<l[k].ents.length)(e:EntL)(he:GoodE (cu l) e):Inv (fun i=>d i+d1 l[k].ents[j].id i - d1 e.id i) next (l.set k { l[k] with ents:=l[k].ents.set j e }):=by
 have g:=h.good _ (List.getElem_mem hk);refine h.set k hk { l[k] with ents:=l[k].ents.set j e } rfl ⟨g.kind,fun h2=>by exfalso;rw[g.file h2] at hj;simp at hj,g.data,by have:=g.len;simpa using this,fun y hy=>?_⟩ _ (fun i _ _=>?_)
 ·rcases List.mem_or_eq_of_mem_set hy with hy|rfl
  ·exact g.ents y hy
  ·exact he
 ·have h1:=rO l[k].ents j hj e i;simp only[Int.sub_self,ite_self];omega
theorem Inv.links {d:Int->Int}{next:Int}{l:List InoL}(h:Inv d next l)(k:Nat)(hk:k<l.length)(c:Int):Inv (fun i=>d i+c*d1 l[k].id i) next (l.set k { l[k] with links:=l[k].links+c }):=by
 have g:=h.good _ (List.getElem_mem hk);refine h.set k hk { l[k] with links:=l[k].links+c } rfl ⟨g.kind,g.file,g.data,g.len,g.ents⟩ _ (fun i _ _=>?_);unfold d1;by_cases e:i=l[k].id
 ·rw[if_pos e,if_pos e];simp only;omega
 ·rw[if_neg e,if_neg e];simp only;omega
theorem Inv.data {d:Int->Int}{next:Int}{l:List InoL}(h:Inv d next l)(k:Nat)(hk:k<l.length)(s:ByteArray)(hs:s.size<=1000):Inv d next (l.set k { l[k] with data:=s }):=by
 have g:=h.good _ (List.getElem_mem hk);refine h.set k hk { l[k] with data:=s } rfl ⟨g.kind,g.file,hs,g.len,g.ents⟩ _ (fun i _ _=>?_);simp only[Int.sub_self,ite_self];omega
theorem Inv.less {next:Int}{l:List InoL}(k:Nat)(hk:k<l.length)(h:Inv (d1 l[k].id) next l)(h1:l[k].id≠1)(he:l[k].ents = []) :
  Inv d0 next (l.set k { l[k] with links:=l[k].links + -1 })/\(l[k].links + -1=0->Inv d0 next ((l.set k { l[k] with links:=l[k].links + -1 }).filter (fun x => !(x.id==l[k].id)))):=by
 have hL:Inv d0 next (l.set k { l[k] with links:=l[k].links + -1 }):=(h.links k hk (-1)).congr (fun i _ _=>by unfold d0;omega)
 refine⟨hL,fun h0=>?_⟩;obtain⟨x,hx,hid,hlk,hen⟩:∃x:InoL,({ l[k] with links:=l[k].links + -1 } : InoL)=x/\x.id=l[k].id/\x.links=l[k].links + -1/\x.ents=l[k].ents:=⟨_,rfl,rfl,rfl,rfl⟩;rw[hx] at hL ⊢;have hg:(l.set k x)[k]'(by simpa using hk)=x:=by rw[List.getElem_set_self]
 refine hL.gone l[k].id h1 ?_ (fun y hy e=>?_)
 ·have h2:=hL.link _ (List.getElem_mem (by simpa using hk:k<(l.set k x).length)) (by rw[hg,hid];exact h1);rw[hg,hlk,h0,hid] at h2;unfold d0 at h2;omega
 ·obtain⟨j,hj,rfl⟩:=List.mem_iff_getElem.1 hy;have h2:=kY hL.ids j hj;have h3:=kY hL.ids k (by simpa using hk);rw[hg,hid] at h3;rw[e] at h2;have:j=k:=by omega
  subst this;rw[hg,hen];exact he
end Go.Proofs.YtlkfabkkjfmnmaaGreatDoor
