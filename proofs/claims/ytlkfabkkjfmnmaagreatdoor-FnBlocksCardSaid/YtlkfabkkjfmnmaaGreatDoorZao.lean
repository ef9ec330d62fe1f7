import Derived.Test.YtlkfabkkjfmnmaaGreatDoorZaa
import Derived.Test.YtlkfabkkjfmnmaaGreatDoorZam
import Derived.Test.YtlkfabkkjfmnmaaGreatDoorZan
namespace Go.Proofs.YtlkfabkkjfmnmaaGreatDoor
open Go.RowKit
set_option linter.all false
set_option maxRecDepth 1000000
set_option maxHeartbeats 6000000


def AtP (l:List EntL)(p:EntL->Bool)(r:Int):Prop:=(r = -1/\l.any p=false)∨∃(m:Nat) (hm:m<l.length),r=(m:Int)/\(l.take m).any p=false/\p l[m]=true
theorem bM (a:Option Addr)(n cap:Nat)(l:List EntL)(s:ByteArray)(w:World)(hr:Rd w a n cap 4 (ens l))(hs:∀x∈l,x.name.size<=1073741824)(hss:s.size<=1073741824) :
  Calls Tryz.prog 123 #[.slice a n cap,.string s] w fun e w' => ∃r,e=.returned (.int .i64 r)/\AtP l (fun x=>RQ x.name s) r/\Below w.heap.size w w':=by
 have hl:l.length=n:=by have:=hr.len;simp at this;omega
 subst hl;have hm:l.length<=maxLen:=Nat.le_trans hr.le hr.max;unfold maxLen at hm;have H:=zH hr;have vJ:=zH hs;clear hr hs;go_enter Tryz.func123,Tryz.ntmps123
 go_wp2;go_loopg [5] l.length (fun gg i wr => ∃m:Nat,m+gg=l.length/\i=.int .i64 (m:Int)/\Hid ((l.take m).any (fun x=>RQ x.name s)=false)/\Hid (Below w.heap.size w wr))
 case atStart=>exact⟨0,by omega,rfl,zH rfl,zH zB⟩
 case round =>
  obtain⟨m,hm2,rfl,HM,HB2⟩:=hrel;by_cases hlt:m<l.length
  ·obtain⟨b,off,rfl,hbs,d0,d1,d2,d3⟩:=ay (H.out.below HB2.out zN) m hlt;have HH:Hid (RQ l[m].name s=true->AtP l (fun x=>RQ x.name s) (m:Int)):=zH (fun e => .inr ⟨m,hlt,rfl,HM.out,e⟩);have HN:Hid (RQ l[m].name s=false->(l.take (m+1)).any (fun x=>RQ x.name s)=false):=zH (fun e=>kL l m hlt _ HM.out e);have Iy:=zH (vJ.out l[m] (List.getElem_mem hlt));have hi:(m:Int)<(l.length:Int):=by omega
   have hi0:(0:Int)<=(m:Int):=by omega
   generalize l[m].name=t at *;clear hlt d0 d1 d3;have EJ:Hid (∀W,Calls Tryz.prog 95 #[.string t,.string s] W fun e w'=>e=.returned (.bool (RQ t s))/\Below W.heap.size W w'):=zH (fun W=>dx t s W Iy.out hss);generalize RQ t s=q at *;go_wp2_with fail
   refine(EJ.out _).mono ?_;rintro e w3 ⟨rfl,hb⟩;have HB3:=zH (ac HB2.out hb);clear hb d2;cases q with
   | true =>
    have HE:=zH (HH.out rfl);go_wp2;go_ret;exact⟨_,rfl,HE.out,HB3.out⟩
   | false =>
    have HE:=zH (HN.out rfl);go_wp2;go_roundg (gk - 1)
    case measure=>omega
    case rel=>exact⟨m+1,by omega,by go_num,HE,HB3⟩
  ·have hlm:m=l.length:=by omega
   subst hlm;rw[List.take_length] at HM;go_wp2;go_ret;exact⟨-1,rfl,.inl ⟨rfl,HM.out⟩,HB2.out⟩
def tR (bs:List Int):Int:=(bs.take 4000).foldl (fun h b=>(h*131+b+7) % 1073741824) (10101+bs.length)
theorem qg (bs:List Int)(k:Nat)(h:k<bs.length)(h0:∀z∈bs,0<=z/\z<=255):(bs.take (k+1)).foldl (fun h b=>(h*131+b+7) % 1073741824) (10101+bs.length:Int)=((bs.take k).foldl (fun h b=>(h*131+b+7) % 1073741824) (10101+bs.length:Int)*131+bs[k]+7) % 1073741824:=by
 rw[List.take_succ_eq_append_getElem h,List.foldl_append];rfl
theorem pf (l:List Int)(x:Int)(hx:0<=x/\x<=1073741823):0<=l.foldl (fun h b=>(h*131+b+7) % 1073741824) x/\l.foldl (fun h b=>(h*131+b+7) % 1073741824) x<=1073741823:=by
 induction l generalizing x with
 | nil=>exact hx
 | cons b l ih=>rw[List.foldl_cons];exact ih _ (by omega)
theorem qf (x:Int)(h₀ : 0<=x)(h₁ : x<9223372036854775808):bits .and .i64 x 1073741823=x % 1073741824:=bits_mask .i64 63 (by decide) cN 30 (by decide) x h₀ h₁
def tN (a:Option Addr)(n cap:Nat)(bs:List Int)(w:World)(e:Ending)(w':World):Prop:=
 e=.returned (.pointer (some ⟨w.heap.size,0,none⟩))/\CurAt a n cap bs w.heap.size ⟨0,tR bs⟩ w'/\Below w.heap.size w w'
theorem lJ (a:Option Addr)(n cap:Nat)(bs:List Int)(w:World)(h:Rd w a n cap 1 (bs.map (Value.int .u8)))(hb:∀z∈bs,0<=z/\z<=255)(hn:n<=1048576) :
  Calls Tryz.prog 36 #[.slice a n cap] w (tN a n cap bs w):=by
 have hl:bs.length=n:=by have:=h.len;simpa using this
 subst hl;have HB:=zH hb;have HN:=zH h;clear hb;go_enter Tryz.func36,Tryz.ntmps36
 go_wp2;go_loopg [3,4] bs.length (fun gg hh i wr => ∃k:Nat,k+gg=bs.length/\k<=4000/\i=.int .i64 (k:Int)/\hh=.int .i64 ((bs.take k).foldl (fun h b=>(h*131+b+7) % 1073741824) (10101+bs.length:Int))/\wr=w)
 case atStart=>exact⟨0,by omega,by omega,rfl,by simp,rfl⟩
 case round =>
  obtain⟨k,hk,hk4,rfl,rfl,rfl⟩:=hrel;have hr:=pf (bs.take k) (10101+bs.length:Int) (by omega);by_cases hlt:k<bs.length
  ·by_cases Nr:k<4000
   ·obtain⟨b,off,rfl,hbs,hc⟩:=h.at' (by omega);have hc1:=hc k (by simpa using hlt);rw[List.getElem_map] at hc1;have hq:=HB.out _ (List.getElem_mem hlt);have hS:=zH (qg bs k hlt HB.out);obtain⟨hq0,hq1⟩:=hq;obtain⟨hr0,hr1⟩:=hr;generalize bs[k]=q at *;generalize (bs.take k).foldl (fun h b=>(h*131+b+7) % 1073741824) (10101+bs.length:Int)=H at *;have hm:=zH (qf (H*131+q+7) (by omega) (by omega));clear hc h;go_wp2;rw[hm.out];go_roundg (gk - 1)
    case measure=>omega
    case rel=>exact⟨k+1,by omega,by omega,by go_num,by rw[hS.out],rfl⟩
   ·have hk0:k=4000:=by omega
    have hF:Hid ((bs.take k).foldl (fun h b=>(h*131+b+7) % 1073741824) (10101+bs.length:Int)=tR bs):=zH (by rw[hk0];rfl);have hd:decide ((k:Int)<4000)=false:=by simp;omega
    have hd2:¬(k:Int)<4000:=by omega
    rw[hF.out];clear hk0 Nr h;go_wp2;go_ret;refine⟨rfl,⟨by go_simp,by go_simp,by go_simp,by go_simp,by go_simp,HN.out.alloc _,?_,HB.out,hn,Nat.zero_le _⟩,zB.alloc zN _⟩;intro x hx _;obtain⟨b,off,e,hlt,_⟩:=HN.out.at' (by omega);rw[hx] at e;cases e;exact hlt
  ·have hF:Hid ((bs.take k).foldl (fun h b=>(h*131+b+7) % 1073741824) (10101+bs.length:Int)=tR bs):=zH (by rw[List.take_of_length_le (by omega)];unfold tR;rw[List.take_of_length_le (by omega)]);have hkl:k=bs.length:=by omega
   have hlt2:¬(k:Int)<(bs.length:Int):=by omega
   rw[hF.out];clear hkl h;go_wp2;go_ret;refine⟨rfl,⟨by go_simp,by go_simp,by go_simp,by go_simp,by go_simp,HN.out.alloc _,?_,HB.out,hn,Nat.zero_le _⟩,zB.alloc zN _⟩;intro x hx h0;obtain⟨b,off,e,hlt,_⟩:=HN.out.at' h0;rw[hx] at e;cases e;exact hlt
def sX (a:Option Addr)(n cap:Nat)(bs:List Int)(g:Nat)(w:World)(p:Int->Prop)(e:Ending)(w':World):Prop := ∃r:Int × CS,p r.1/\jW a n cap bs g w r e w'
def sV (a:Option Addr)(n cap:Nat)(bs:List Int)(g:Nat)(w:World)(most:Int)(e:Ending)(w':World):Prop:=
 ∃(l:List Int) (s:CS) (p:Option Addr) (c:Nat),e=.returned (.slice p l.length c)/\(l.length:Int)<=most/\(∀x∈l,-1<=x/\x<=1114112)/\w'.ownsRow w.heap.size 3 1 (.slice p l.length c) l.length (aE l)/\CurAt a n cap bs g s w'/\w.grownBy w' (some g)
def someL:List Int:=[97,65,98,229,197,8491,778,803,770,807,769,7853,7852,7841,470,252,115,83,223,963,962,931,940,902,8486,1040,1072,44032,44033,4352,4449,4520,231,99,55203,255]
def someM:List Int:=[-1,0,31,47,127,55204,55296,57343,57344,65535,65536,1114111,1114112,930,256]
theorem ke (l:List Int)(lo hi:Int)(h:∀x∈l,lo<=x/\x<=hi)(h0:lo<=0/\0<=hi)(k:Nat):lo<=l.getD k 0/\l.getD k 0<=hi:=by
 by_cases hk:k<l.length
 ·rw[List.getD_eq_getElem?_getD,List.getElem?_eq_getElem hk];exact h _ (List.getElem_mem hk)
 ·rw[List.getD_eq_getElem?_getD,List.getElem?_eq_none (by omega)];exact h0
theorem pu (a:Option Addr)(n cap:Nat)(bs:List Int)(g:Nat)(s:CS)(w:World)(hC:CurAt a n cap bs g s w) :
  Calls Tryz.prog 140 #[.pointer (some ⟨g,0,none⟩)] w (sX a n cap bs g w (fun x => -1<=x/\x<=1114112)):=by
 have HC:=zH hC;have HL:Hid (g<w.heap.size):=zH hC.lt;clear hC;go_enter Tryz.func140,Tryz.ntmps140
 go_wp2_with fail
 refine(bU a n cap bs g s _ 36 36 someL _ (HC.out.alloc _) (by exact aM (news:=(aE someL).toArray) rfl (by decide)) (fun x hx=>by cases hx;have:=HL.out;show w.heap.size≠g;omega) (by omega) (by omega)).mono ?_;rintro e w1 ⟨rfl,ve,hG1⟩;have hk:=ke someL (-1) 1114112 (by decide) (by decide) (aj bs 36 s).1.toNat;have yO:=zH ve;have Ak:=zH ((World.grownBy_alloc w _ (some g)).trans hG1);clear ve hG1;simp only at yO ⊢;have e36:((36:Nat):Int)=36:=rfl;rw[e36] at *;generalize (aj bs 36 s).2=s1 at *;generalize someL.getD (aj bs 36 s).1.toNat 0=k at *;go_wp2_with fail
 refine(bo a n cap bs g s1 5 _ yO.out (by omega)).mono ?_;rintro e w2 ⟨rfl,hC2,hG2⟩;have wI:=zH hC2;have HG2:=zH (Ak.out.trans hG2);clear hC2 hG2;simp only at wI ⊢;generalize (aj bs 5 s1).2=s2 at *;generalize ((aj bs 5 s1).1==0)=t1 at *;cases t1 with
 | true =>
  have r1:=aJ bs 224 s2 (by omega);go_wp2_with fail
  refine(aH a n cap bs g s2 224 _ wI.out (by omega)).mono ?_;rintro e w3 ⟨rfl,Bj,hG3⟩;have xm:=zH Bj;have xI:=zH (HG2.out.trans hG3);clear Bj hG3;generalize (aj bs 224 s2).2=s3 at *;generalize (aj bs 224 s2).1=x at *;obtain⟨r1,r2⟩:=r1;go_wp2;go_ret;exact⟨(32+x,s3),by simp only;omega,rfl,xm.out,xI.out⟩
 | false =>
  go_wp2_with fail
  refine(bo a n cap bs g s2 12 _ wI.out (by omega)).mono ?_;rintro e w3 ⟨rfl,Bj,hG3⟩;have xm:=zH Bj;have xI:=zH (HG2.out.trans hG3);clear Bj hG3;simp only at xm ⊢;generalize (aj bs 12 s2).2=s3 at *;generalize ((aj bs 12 s2).1==0)=t2 at *;cases t2 with
  | true =>
   go_wp2_with fail
   refine(bU a n cap bs g s3 _ 15 15 someM _ (xm.out.alloc _) (by exact aM (news:=(aE someM).toArray) rfl (by decide)) (fun x hx=>by cases hx;have:=xm.out.lt;show w3.heap.size≠g;omega) (by omega) (by omega)).mono ?_;rintro e w4 ⟨rfl,Iz,hG4⟩;have hk2:=ke someM (-1) 1114112 (by decide) (by decide) (aj bs 15 s3).1.toNat;have xQ:=zH Iz;have zk:=zH ((xI.out.trans (World.grownBy_alloc _ _ _)).trans hG4);clear Iz hG4;go_wp2;go_ret;exact⟨(someM.getD (aj bs 15 s3).1.toNat 0,(aj bs 15 s3).2),hk2,rfl,xQ.out,zk.out⟩
  | false =>
   go_wp2;go_ret;exact⟨(k,s3),hk,rfl,xm.out,xI.out⟩
theorem oN (a:Option Addr)(n cap:Nat)(bs:List Int)(g:Nat)(s:CS)(most:Int)(w:World)(hC:CurAt a n cap bs g s w)(hm0:0<=most)(hm:most<=1048576) :
  Calls Tryz.prog 121 #[.pointer (some ⟨g,0,none⟩),.int .i64 most] w (sV a n cap bs g w most):=by
 have HC:=zH (hC.alloc (.cells #[] 3));have hg:=hC.lt;have HW:=zH (World.grownBy_alloc w (.cells #[] 3) (some g));clear hC;go_enter Tryz.func121,Tryz.ntmps121
 go_wp2_with fail
 refine(aH a n cap bs g _ (most+1) _ HC.out (by omega)).mono ?_;rintro e w2 ⟨rfl,ve,hG1⟩;have hr2:=aJ bs (most+1) s (by omega);have wI:=zH ve;have HG2:=zH (HW.out.trans hG1);have HR2:Hid (w2.ownsRow w.heap.size 3 1 (.slice (some ⟨w.heap.size,0,none⟩) 0 0) 0 []):=zH ((World.ownsRow_lit w #[] 0 (by omega) (by decide) rfl).kept hG1 (by right;simp only[Value.ownBlock];simp;omega));clear ve hG1 HC;generalize (aj bs (most+1) s).2=s2 at *;generalize (aj bs (most+1) s).1=k2 at *;obtain⟨hk0,hk1⟩:=hr2;obtain⟨K,rfl⟩:=Int.eq_ofNat_of_zero_le hk0;clear hk0;go_wp2;go_loopg [5,6] K (fun gg o i wr => ∃(l:List Int) (sk:CS),i=.int .i64 (gg:Nat)/\l.length+gg=K/\Hid (∀x∈l,-1<=x/\x<=1114112) /\
  Own 3 1 w.heap.size wr o l.length (aE l) wr/\Hid (CurAt a n cap bs g sk wr)/\Hid (w.grownBy wr (some g)))
 case atStart=>exact⟨[],s2,rfl,by simp,zH (by simp),⟨HR2.out,zB,HG2.out.size⟩,wI,HG2⟩
 case round =>
  obtain⟨l,sk,rfl,hlen,HP,hO,EK,Dx⟩:=hrel;obtain⟨av,cv,rfl,_,_⟩:=hO.shape;cases gk with
  | zero =>
   go_wp2;go_ret;exact⟨l,sk,av,cv,rfl,by omega,HP.out,hO.row,EK.out,Dx.out⟩
  | succ gq =>
   have hbl:l.length<=1048576:=by omega
   go_wp2_with fail
   refine(pu a n cap bs g sk _ EK.out).mono ?_;rintro e w3 ⟨⟨x,sn⟩,hx,rfl,ve,hG1⟩;have xm:=zH ve;have xI:=zH (Dx.out.trans hG1);have hw3:=xI.out.size;have yj:Hid (Own 3 1 w.heap.size w3 (.slice av l.length cv) l.length (aE l) w3):=zH ⟨hO.row.kept hG1 (by
    cases hv:Value.ownBlock (.slice av l.length cv) with
    | none=>exact .inl rfl
    | some k=>right;have:=(hO.row.lt k hv).1;simp;omega),zB,hw3⟩
   have HX:=zH hx;clear ve hG1 hO hx;simp only at xm HX ⊢;go_wp2_with (at_builtin;go_loud (refine cI rfl _ _ 40 rfl 3 (.int .i64 0) 1 8 Tryz.underlying40 cA rfl (by decide) _ _ _ _ _ (by rfl) (by exact yj.out) _ _ (by rfl) (by rfl) (by intro u hu;simp at hu;first|(subst hu;rfl)|(rcases hu with rfl|rfl <;> rfl)|(rcases hu with rfl|rfl|rfl <;> rfl)|(rcases hu with rfl|rfl|rfl|rfl <;> rfl)) (by omega) (by unfold maxLen;omega) ?_);intro a2 c2 w2 hO2 hG2 Dq)
   have xK:=zH hO2;have yf:=zH Dq;have zk:Hid (w.grownBy w2 (some g)):=zH (aq xI.out hG2 (fun k hk => .inr ((yj.out.row.lt k hk).1)));have xQ:Hid (CurAt a n cap bs g sn w2):=zH (xm.out.grown hG2 (fun k hk=>by have:=(yj.out.row.lt k hk).1;omega));clear hO2 hG2 Dq;go_wp2;go_roundg gq
   case measure=>omega
   case rel =>
    refine⟨l ++ [x],sn,rfl,by simp;omega,zH (fun y hy=>?_),?_,xQ,zk⟩
    ·rcases List.mem_append.1 hy with h|h
     ·exact HP.out y h
     ·rw[List.mem_singleton] at h;subst h;exact HX.out
    ·have e:aE (l ++ [x])=aE l ++ [.int .i64 x]:=by simp[aE]
     rw[e,List.length_append];exact⟨xK.out.row,zB,xK.out.base⟩
theorem iW {w:World}{B B':Nat}{e:TypeId}{size:Nat}{v:Value}{n:Nat}{xs:List Value}(h:w.ownsRow B e size v n xs)(hB:B'<=B):w.ownsRow B' e size v n xs:=by
 refine⟨h.1,?_⟩;rcases h.2 with hn|⟨g,cap,cur,e1,hg,rest⟩
 ·exact .inl hn
 ·exact .inr ⟨g,cap,cur,e1,Nat.le_trans hB hg,rest⟩
theorem Rd.part {w:World}{b off n c:Nat}{l:List EntL}(h:Rd w (some ⟨b,off,none⟩) n c 4 (ens l))(i j:Nat)(hij:i<=j)(hj:j<=n):Rd w (some ⟨b,off+i*4,none⟩) (j - i) (c - i) 4 (ens ((l.take j).drop i)):=by
 have hl:l.length=n:=by have:=h.len;simp at this;omega
 have hle:=h.le;have hmx:=h.max;refine⟨by simp;omega,by omega,by omega,fun e=>(by cases e),fun h0=>?_⟩;obtain⟨b',off',e,hlt,hc⟩:=h.at' (by omega);cases e;refine⟨b,off+i*4,rfl,hlt,fun q hq=>?_⟩;have hq2:q<(j - i)*4:=by have:=hq;simp at this;omega
 have e1:q=q / 4*4+q % 4:=by omega
 have hk:q / 4<((l.take j).drop i).length:=by simp;omega
 have hm:q % 4<4:=by omega
 have e2:=hc (i*4+q) (by simp;omega);rw[Nat.add_assoc,e2];congr 1
 have g1:=mm l (i+q / 4) (by omega) (q % 4) hm;have g2:=mm ((l.take j).drop i) (q / 4) hk (q % 4) hm;have e3:(ens l)[i*4+q]'(by simp;omega)=(ens l)[(i+q / 4)*4+q % 4]'(by simp;omega):=by congr 1;omega
 have e4:(ens ((l.take j).drop i))[q]'hq=(ens ((l.take j).drop i))[q / 4*4+q % 4]'(by simp;omega):=by congr 1
 rw[e3,e4,g1,g2];congr 2
 simp
def tS (n:Nat)(cs:List Value)(w:World)(e:Ending)(w':World):Prop := ∃g c,e=.returned (.slice g n c)/\Own 74 4 w.heap.size w (.slice g n c) n cs w'
theorem kH (a:Option Addr)(c:Nat)(l:List EntL)(w:World)(h:Rd w a l.length c 4 (ens l))(hn:l.length<=1048576) :
  Calls Tryz.prog 102 #[.slice a l.length c] w (tS l.length (ens l) w):=by
 have HO:=zH ((Own.nil 74 4 w));have yF:=zH (Own.lit (e:=74) (size:=4) (n:=0) (Below.refl w.heap.size w) zN #[] rfl (by decide));have H:=zH (h.alloc (.cells #[] 74));clear h;go_enter Tryz.func102,Tryz.ntmps102
 go_wp2_with (at_builtin;go_loud (refine eu rfl _ _ 43 rfl 74 (.agg #[.int .i64 0,.int .i64 0,.string ByteArray.empty,.int .i64 0]) 4 40 Tryz.underlying43 bG rfl (by decide) _ _ _ _ _ (by rfl) (by exact yF.out) _ _ _ _ (by rfl) (by exact H.out) (iK _) (by omega) (by unfold maxLen;omega) ?_);intro a2 c2 w2 hO2)
 go_ret;refine⟨a2,c2,rfl,?_⟩;rw[Nat.zero_add] at hO2;simpa using hO2
theorem kB (a:Option Addr)(n cap:Nat)(most:Int)(w:World)(h0:1<=most)(h1:most<=1048576)(hn:n<=1048576) :
  Calls Tryz.prog 38 #[.slice a n cap,.int .i64 most] w fun e w' => ∃x:Int,e=.returned (.int .i64 x)/\1<=x/\x<=most/\w=w':=by
 have hq:((n:Int)).tdiv 20=((n / 20:Nat):Int):=by rw[Int.tdiv_eq_ediv_of_nonneg (by omega)];omega
 have hw1:IntKind.i64.wrap ((n / 20:Nat):Int)=((n / 20:Nat):Int):=IntWalk.i64_in _ ⟨by omega,by omega⟩;have hw2:IntKind.i64.wrap (2+((n / 20:Nat):Int))=2+((n / 20:Nat):Int):=IntWalk.i64_in _ ⟨by omega,by omega⟩;generalize n / 20=k at *;by_cases hc:most<2+(k:Int)
 ·go_enter Tryz.func38,Tryz.ntmps38
  go_wp2;go_ret;exact⟨most,rfl,h0,Int.le_refl _,rfl⟩
 ·go_enter Tryz.func38,Tryz.ntmps38
  go_wp2;go_ret;exact⟨2+(k:Int),rfl,by omega,by omega,rfl⟩
theorem nG (a b:Option Addr)(c d:Nat)(l:List EntL)(w:World)(ha:Rd w a l.length c 4 (ens l))(hb:Rd w b l.length d 4 (ens l))(hn:l.length<=1048576) :
  Calls Tryz.prog 42 #[.slice a l.length c,.slice b l.length d] w fun e w'=>e=.returned (.bool true)/\Below w.heap.size w w':=by
 have HA:=zH ha;have HB:=zH hb;clear ha hb;go_enter Tryz.func42,Tryz.ntmps42
 go_wp2;go_loopg [5] l.length (fun gg i wr => ∃k:Nat,k+gg=l.length/\i=.int .i64 (k:Int)/\Hid (Below w.heap.size w wr))
 case atStart=>exact⟨0,by omega,rfl,zH zB⟩
 case round =>
  obtain⟨k,hk,rfl,wy⟩:=hrel;by_cases hlt:k<l.length
  ·obtain⟨ba,oa,rfl,IA,ha0,ha1,ha2,OP⟩:=ay (HA.out.below wy.out zN) k hlt;obtain⟨bb,ob,rfl,hbb,hb0,hb1,hb2,hb3⟩:=ay (HB.out.below wy.out zN) k hlt;have hi:(k:Int)<(l.length:Int):=by omega
   have hi0:(0:Int)<=(k:Int):=by omega
   have HF:=zH (And.intro ha0 (And.intro ha1 (And.intro ha2 (And.intro OP (And.intro hb0 (And.intro hb1 (And.intro hb2 hb3)))))));generalize l[k]=x at *;obtain⟨xh,xi,xn,xd⟩:=x;try simp only at HF
   clear ha0 ha1 ha2 OP hb0 hb1 hb2 hb3 hlt;go_wp2;refine wp_region_held_drew (S:=(fun W=>W.cell? ⟨ba,oa+k*4,none⟩=some (.int .i64 xh)/\W.cell? ⟨ba,oa+k*4+1,none⟩=some (.int .i64 xi)/\W.cell? ⟨ba,oa+k*4+2,none⟩=some (.string xn)/\W.cell? ⟨ba,oa+k*4+3,none⟩=some (.int .i64 xd)/\W.cell? ⟨bb,ob+k*4,none⟩=some (.int .i64 xh)/\W.cell? ⟨bb,ob+k*4+1,none⟩=some (.int .i64 xi)/\W.cell? ⟨bb,ob+k*4+2,none⟩=some (.string xn)/\W.cell? ⟨bb,ob+k*4+3,none⟩=some (.int .i64 xd))) (by kernel_rfl) ?_ (fun uQ=>?_)
   ·(try dsimp only);exact HF.out
   change wpAnyH _ _ _ _ _ 9 #[false,false,false,false,false,false,false,false,false] _ _;refine tkI [0,1,2,3,4,5,6,7,8] ?_;(iterate 9 (refine tkS rfl (by kernel_rfl) (fun _ _ _=>id) (by rfl) (by intro w h;(try dsimp only at h);go_simp;try rfl) uQ ?_;try simp only[Act.put,tkA,tk0,tk1]));refine tkE ?_;refine wpAnyH_done (by kernel_rfl) ?_ _;(try dsimp only at uQ);clear uQ;have HB2:=zH wy.out.drew;go_wp2;go_roundg (gk - 1)
   case measure=>omega
   case rel=>exact⟨k+1,by omega,by go_num,HB2⟩
  ·have hkl:k=l.length:=by omega
   subst hkl;go_wp2;go_ret;exact⟨rfl,wy.out⟩
def kW (B:Nat)(P:EntL->Prop)(len:Nat)(w:World)(e:Ending)(w':World):Prop:=
 ∃(l:List EntL) (g:Option Addr) (c:Nat) (ok:Bool),e=.returned (.tuple #[.slice g l.length c,.bool ok])/\l.length<=len/\(∀x∈l,P x)/\w'.ownsRow B 74 4 (.slice g l.length c) l.length (ens l)/\Below w.heap.size w w'
theorem oD (B:Nat)(a:Option Addr)(c:Nat)(l:List EntL)(s:ByteArray)(P:EntL->Prop)(w:World)(h:w.ownsRow B 74 4 (.slice a l.length c) l.length (ens l))(hB:B<=w.heap.size)(hP:∀x∈l,P x)(hs:∀x∈l,x.name.size<=1073741824)(hss:s.size<=1073741824)(hn:l.length<=100000) :
  Calls Tryz.prog 118 #[.slice a l.length c,.string s] w (kW B P l.length w):=by
 have hO:Own 74 4 B w (.slice a l.length c) l.length (ens l) w:=⟨h,zB,hB⟩;have HO:=zH hO;have H:=zH hO.rd;have HP:=zH hP;have vJ:=zH hs;clear h hP hs hO;go_enter Tryz.func118,Tryz.ntmps118
 go_wp2_with fail
 refine(bM a _ c l s _ H.out vJ.out hss).mono ?_;rintro e w1 ⟨r,rfl,hE,hb⟩;have HB1:=zH hb;have BX:=zH (HO.out.kept hb);clear hb;rcases hE with ⟨rfl,-⟩|⟨m,hlt,rfl,-,-⟩
 ·go_wp2;go_ret2;exact⟨l,a,c,false,rfl,zN,HP.out,BX.out.row,HB1.out⟩
 ·obtain⟨b,off,rfl,hbs,-,-,-,-⟩:=ay H.out m hlt;have hi:(m:Int)<(l.length:Int):=by omega
  have hi0:(0:Int)<=(m:Int):=by omega
  have hi1:¬((m:Int)<0):=by omega
  have yF:=zH (Own.lit (e:=74) (size:=4) (n:=0) (Below.refl w1.heap.size w1) zN #[] rfl (by decide));have HR:Hid (Rd (w1.alloc (.cells #[] 74)) (some ⟨b,off,none⟩) m c 4 (ens (l.take m))):=zH (by have:=((H.out.below HB1.out zN).alloc (.cells #[] 74)).part 0 m (by omega) (by omega);simpa using this);have hmc:m<=c:=by have:=H.out.le;omega
  have hlc:l.length<=c:=H.out.le;have hmx:c<=maxLen:=H.out.max;have hm1:m+1<=l.length:=by omega
  have hmw:IntKind.i64.wrap ((m:Int)+1)=(m:Int)+1:=IntWalk.i64_in _ ⟨by omega,by unfold maxLen at hmx;omega⟩;have hi2:(m:Int)+1<=(l.length:Int):=by omega
  have hi3:(0:Int)<=(m:Int)+1:=by omega
  have Dy:Hid (∀W,Below w1.heap.size w1 W->Rd W (if c=m+1 then some ⟨b,off,none⟩ else some ⟨b,off+(m+1)*4,none⟩) (l.length - (m+1)) (c - (m+1)) 4 (ens ((l.take l.length).drop (m+1)))):=zH (fun W hW=>by
   have h:=((H.out.below HB1.out zN).below hW zN).part (m+1) l.length (by omega) (by omega);split
   ·next hc =>
    have h0:l.length - (m+1)=0:=by omega
    exact⟨h.len,h.le,h.max,fun e=>(by cases e),fun h1=>(by omega)⟩
   ·exact h)
  unfold maxLen at hmx;go_wp2_with (first|((at_builtin;go_loud (refine eu rfl _ _ 43 rfl 74 (.agg #[.int .i64 0,.int .i64 0,.string ByteArray.empty,.int .i64 0]) 4 40 Tryz.underlying43 bG rfl (by decide) _ _ _ _ _ (by rfl) (by exact yF.out) _ _ _ _ (by rfl) (by exact HR.out) (iK _) (by omega) (by unfold maxLen;omega) ?_);intro a2 c2 w2 hO2);rw[Nat.zero_add,List.nil_append] at hO2;have xK:=zH hO2;have HR3:=zH (Dy.out w2 hO2.below);clear hO2)|(at_builtin;go_loud (refine eu rfl _ _ 43 rfl 74 (.agg #[.int .i64 0,.int .i64 0,.string ByteArray.empty,.int .i64 0]) 4 40 Tryz.underlying43 bG rfl (by decide) _ _ _ _ _ (by rfl) (by exact xK.out) _ _ _ _ (by rfl) (by exact HR3.out) (iK _) (by omega) (by unfold maxLen;omega) ?_);intro a3 c3 w3 hO3))
  all_goals
   have hlen:(l.take m++(l.take l.length).drop (m+1)).length=m+(l.length - (m+1)):=by simp;omega
   have HL:=zH hlen;go_ret2;refine⟨l.take m++(l.take l.length).drop (m+1),a3,c3,true,by rw[HL.out];rfl,by rw[HL.out];omega,?_,?_,?_⟩
   ·intro x hx;rcases List.mem_append.1 hx with h|h
    ·exact HP.out x (List.mem_of_mem_take h)
    ·exact HP.out x (List.mem_of_mem_take (List.mem_of_mem_drop h))
   ·rw[HL.out,a5];exact iW hO3.row (Nat.le_trans hB HB1.out.size)
   ·exact ac HB1.out hO3.below
theorem _root_.Go.RowKit.Below.drewL {B:Nat}{w w':World}(h:Below B w.drew w'):Below B w w':=⟨h.os,h.tape,h.output,h.size,h.block⟩
def rv (l:List UInt8):Nat:=l.foldr (fun b a=>b.toNat % 128+128*a) 0
theorem gS (b:UInt8)(l:List UInt8):rv (b::l)=b.toNat % 128+128*rv l:=rfl
theorem ty (l:List UInt8)(b:UInt8):rv (l ++ [b])=rv l+b.toNat % 128*128 ^ l.length:=by
 induction l with
 | nil=>simp[rv]
 | cons a l ih =>
  rw[List.cons_append,gS,gS,ih,List.length_cons,Nat.pow_succ,Nat.mul_add,Nat.add_assoc];congr 2
  rw[Nat.mul_left_comm,Nat.mul_comm 128 (128 ^ l.length)]
theorem rE (l:List UInt8):rv l<128 ^ l.length:=by
 induction l with
 | nil=>decide
 | cons a l ih =>
  rw[gS,List.length_cons,Nat.pow_succ];have:=Nat.mod_lt a.toNat (show 0<128 by decide);omega
theorem ip (l:List UInt8)(k:Nat)(h:k<=7):rv (l.take k)<562949953421312:=by
 have h1:=rE (l.take k);have h2:(l.take k).length<=7:=by rw[List.length_take];omega
 exact Nat.lt_of_lt_of_le h1 (dP 128 _ 7 h2 (by decide))
def aR (l:List UInt8):Nat × Nat:=
 let i:=l.findIdx (fun b=>decide (b.toNat<128))
 if i<7/\i<l.length/\cr (rv (l.take (i+1)))=l.take (i+1) then (rv (l.take (i+1)),i+1) else (0,0)
theorem lV (m:Nat)(h:m<128):(lo7 m).toNat=m:=by unfold lo7;rw[UInt8.toNat_ofNat'];omega
theorem lP (m:Nat):(Df m).toNat=128+m % 128:=by unfold Df;rw[UInt8.toNat_ofNat'];omega
theorem kG (n:Nat):∃pre c,cr n=pre ++ [c]/\c.toNat<128/\∀b∈pre,128<=b.toNat:=by
 induction n using Nat.strongRecOn with
 | _ n ih =>
  by_cases h:n<128
  ·exact⟨[],lo7 n,by rw[fJ h];rfl,by rw[lV n h];exact h,by simp⟩
  ·obtain⟨pre,c,e,hc,hp⟩:=ih (n / 128) (by omega);refine⟨Df n::pre,c,by rw[gN h,e];rfl,hc,?_⟩;intro b hb;rcases List.mem_cons.1 hb with rfl|hb
   ·rw[lP];omega
   ·exact hp b hb
theorem lq (l:List UInt8)(k:Nat)(h1:k<7)(h2:k<l.length)(h:cr (rv (l.take (k+1)))=l.take (k+1)):aR l=(rv (l.take (k+1)),k+1):=by
 obtain⟨pre,c,e,hc,hp⟩:=kG (rv (l.take (k+1)));have e2:l.take (k+1)=pre ++ [c]:=h ▸ e;have hl:pre.length=k:=by have:=congrArg List.length e2;simp at this;omega
 have hi:l.findIdx (fun b=>decide (b.toNat<128))=k:=by
  have e3:l=(pre ++ [c])++l.drop (k+1):=by rw[←e2];simp
  refine(List.findIdx_eq h2).2 ⟨?_,?_⟩
  ·have:l[k]=c:=by
    have:l[k]? = some c:=by rw[e3,List.getElem?_append_left (by simp;omega),List.getElem?_append_right (by omega),hl];simp
    rw[List.getElem?_eq_getElem h2] at this;exact Option.some.inj this
   rw[this];simpa using hc
  ·intro j hj;have hjl:j<pre.length:=by omega
   have:l[j]? = some pre[j]:=by rw[e3,List.getElem?_append_left (by simp;omega),List.getElem?_append_left hjl,List.getElem?_eq_getElem hjl]
   rw[List.getElem?_eq_getElem (by omega)] at this;rw[Option.some.inj this];have:=hp pre[j] (List.getElem_mem _);simp;omega
 unfold aR;simp only[hi];rw[if_pos ⟨h1,h2,h⟩]
theorem km (l:List UInt8)(h:∀k,k<7->k<l.length->cr (rv (l.take (k+1)))≠l.take (k+1)):aR l=(0,0):=by
 unfold aR;rw[if_neg];rintro ⟨a,b,c⟩;exact h _ a b c
theorem sE (l:List UInt8)(k:Nat)(h1:k<7)(h2:k<l.length)(hk:l[k].toNat<128)(hlo:∀j (h:j<l.length),j<k->128<=l[j].toNat) :
  aR l=if cr (rv (l.take (k+1)))=l.take (k+1) then (rv (l.take (k+1)),k+1) else (0,0):=by
 have hi:l.findIdx (fun b=>decide (b.toNat<128))=k:=by
  refine(List.findIdx_eq h2).2 ⟨by simpa using hk,?_⟩;intro j hj;have:=hlo j (by omega) hj;simp;omega
 unfold aR;simp only[hi];by_cases c:cr (rv (l.take (k+1)))=l.take (k+1)
 ·rw[if_pos ⟨h1,h2,c⟩,if_pos c]
 ·rw[if_neg (fun h=>c h.2.2),if_neg c]
theorem kr (l:List UInt8)(k:Nat)(hk:7<=k∨l.length<=k)(hlo:∀j (h:j<l.length),j<k->128<=l[j].toNat):aR l=(0,0):=by
 unfold aR;rw[if_neg];rintro ⟨a,b,c⟩;have:=List.findIdx_getElem (w:=b);have h2:=hlo _ b (by omega);simp at this;omega
theorem sy (a b:Nat)(ha:a<256)(hb:b<256):bits .xor .i64 (a:Int) (b:Int)=((a ^^^ b:Nat):Int)/\a ^^^ b<256:=by
 have hx:a ^^^ b<2 ^ 8:=Nat.xor_lt_two_pow (by simpa using ha) (by simpa using hb);refine⟨?_,by simpa using hx⟩;have ha':a % 2 ^ 64=a:=Nat.mod_eq_of_lt (by omega);have hb':b % 2 ^ 64=b:=Nat.mod_eq_of_lt (by omega);show IntKind.i64.wrap ((BitVec.ofInt 64 (a:Int) ^^^ BitVec.ofInt 64 (b:Int)).toNat:Int)=_;rw[BitVec.ofInt_natCast,BitVec.ofInt_natCast,BitVec.toNat_xor,BitVec.toNat_ofNat,BitVec.toNat_ofNat,ha',hb'];exact cN _ (Int.natCast_nonneg _) (by omega)
theorem ue (x:Int)(h0:0<=x)(h1:x<256):IntKind.u8.wrap x=x:=by
 have:IntKind.u8.wrap x=x % 256:=by simp[IntKind.wrap,IntKind.bits,IntKind.signed]
 rw[this];omega
def kN (t:ByteArray)(k:Nat):Nat:=(t.data.toList.getD k 0).toNat
theorem qZ (t:ByteArray)(k:Nat):kN t k<256:=(t.data.toList.getD k 0).toNat_lt
theorem pg (t:ByteArray)(k:Nat)(h:k<t.size):kN t k=(t[k]'h).toNat:=by
 unfold kN;rw[List.getD_eq_getElem?_getD,List.getElem?_eq_getElem (by simpa using h)];rfl
def ir (bs:List Int)(t:ByteArray)(k:Nat)(m:Int)(s:CS):ByteArray × CS:=
 if m=0 then (t.extract 0 k++t.extract (k+1) t.size,s)
 else if m=1 then (t.extract 0 k++⟨#[ub (aQ bs s).1]⟩++t.extract k t.size,(aQ bs s).2)
 else if m=2 then (t.extract 0 k,s)
 else (t.extract 0 k++⟨#[ub ((kN t k ^^^ (1+(aj bs 255 s).1.toNat):Nat):Int)]⟩++t.extract (k+1) t.size,(aj bs 255 s).2)
def fS (bs:List Int)(t:ByteArray)(s:CS):ByteArray × CS:=
 if t.size=0 then gt bs 3 s
 else ir bs t (aj bs t.size s).1.toNat (aj bs 4 (aj bs t.size s).2).1 (aj bs 4 (aj bs t.size s).2).2
theorem nH (u:UInt8):(⟨#[u]⟩:ByteArray).size=1:=rfl
theorem nO (bs:List Int)(t:ByteArray)(s:CS):(fS bs t s).1.size<=t.size+3:=by
 unfold fS;split
 ·have:=j0 bs 3 s (by omega);omega
 ·unfold ir;split
  ·simp only[ByteArray.size_append,ByteArray.size_extract];omega
  ·split
   ·simp only[ByteArray.size_append,ByteArray.size_extract,nH];omega
   ·split
    ·simp only[ByteArray.size_extract];omega
    ·simp only[ByteArray.size_append,ByteArray.size_extract,nH];omega
theorem mZ (a:Option Addr)(n cap:Nat)(bs:List Int)(g:Nat)(s:CS)(t:ByteArray)(w:World)(hC:CurAt a n cap bs g s w)(ht:t.size<=1048576) :
  Calls Tryz.prog 47 #[.pointer (some ⟨g,0,none⟩),.string t] w (jR a n cap bs g w (fS bs t s)):=by
 have HC:=zH hC;clear hC;by_cases h0:t.size=0
 ·have HF:Hid (fS bs t s=gt bs 3 s):=zH (by unfold fS;rw[if_pos h0]);have hz:((t.size:Int)==0)=true:=by simp[h0]
  clear h0;go_enter Tryz.func47,Tryz.ntmps47
  go_wp2_with fail
  refine(kO a n cap bs g s 3 _ HC.out (by omega) (by omega)).mono ?_;rintro e w1 ⟨rfl,ve,hG1⟩;have HR:=zH (And.intro ve hG1);clear ve hG1;go_wp2;go_ret;rw[HF.out];exact⟨rfl,HR.out.1,HR.out.2⟩
 ·have hz:((t.size:Int)==0)=false:=by rw[beq_eq_false_iff_ne];omega
  have r1:=aJ bs t.size s (by omega);have r2:=aJ bs 4 (aj bs t.size s).2 (by omega);have r3:=de bs (aj bs 4 (aj bs t.size s).2).2;have r4:=aJ bs 255 (aj bs 4 (aj bs t.size s).2).2 (by omega);have HF:Hid (fS bs t s=ir bs t (aj bs t.size s).1.toNat (aj bs 4 (aj bs t.size s).2).1 (aj bs 4 (aj bs t.size s).2).2):=zH (by unfold fS;rw[if_neg h0]);go_enter Tryz.func47,Tryz.ntmps47
  go_wp2_with fail
  refine(aH a n cap bs g s t.size _ HC.out (by omega)).mono ?_;rintro e w1 ⟨rfl,ve,hG1⟩;have yO:=zH ve;have Ak:=zH hG1;clear ve hG1 HC;go_wp2_with fail
  refine(aH a n cap bs g _ 4 _ yO.out (by omega)).mono ?_;rintro e w2 ⟨rfl,ve,hG1⟩;have wI:=zH ve;have HG2:=zH (Ak.out.trans hG1);clear ve hG1 yO Ak;generalize (aj bs 4 (aj bs t.size s).2).2=s2 at *;generalize (aj bs 4 (aj bs t.size s).2).1=m at *;generalize (aj bs t.size s).1=kk at *;obtain⟨k0,k1⟩:=r1;obtain⟨k,rfl⟩:=Int.eq_ofNat_of_zero_le k0;rw[Int.toNat_natCast] at HF;have hkt:k<t.size:=by omega
  have hw1:IntKind.i64.wrap ((k:Int)+1)=(k:Int)+1:=IntWalk.i64_in _ ⟨by omega,by omega⟩;have hw2:((k:Int)+1).toNat=k+1:=by omega
  have hw3:(0:Int)<=(k:Int)+1:=by omega
  have hw4:(k:Int)+1<=(t.size:Int):=by omega
  have Rf:(k:Int)<=(t.size:Int):=by omega
  by_cases m0:m=0
  ·subst m0;have Dz:=zH (HF.out.trans (by unfold ir;rw[if_pos rfl]));go_wp2;go_quiet (fail)
   go_wp2;go_ret;rw[Dz.out];exact⟨rfl,wI.out.drewN _,eB HG2.out _⟩
  ·by_cases m1:m=1
   ·subst m1;have Dz:=zH (HF.out.trans (by unfold ir;rw[if_neg (by omega),if_pos rfl]));go_wp2;refine wp_region_held_drew (S:=(fun _:World=>True)) (by kernel_rfl) ?_ (fun uQ=>?_)
    ·(try dsimp only);(try trivial)
    change wpAnyH _ _ _ _ _ 14 #[false,false,false,false,false,false,false,false,false,false,false,false,false,false] _ _;refine tkI [0,1,2,3] ?_;(iterate 4 (refine tkS rfl (by kernel_rfl) (fun _ _ _=>id) (by rfl) (by intro w h;(try dsimp only at h);go_simp;try rfl) uQ ?_;try simp only[Act.put,tkA,tk0,tk1]));refine tkE ?_;refine tkI [9,10,11] ?_;(iterate 3 (refine tkS rfl (by kernel_rfl) (fun _ _ _=>id) (by rfl) (by intro w h;(try dsimp only at h);go_simp;try rfl) uQ ?_;try simp only[Act.put,tkA,tk0,tk1]));refine tkE ?_;refine wR 4 rfl (by kernel_rfl) (fun K hK=>?_);(try dsimp only at uQ);go_simp;(go_at_call 76;refine(dE a n cap bs g _ _ wI.out.drew).mono ?_;rintro e w3 ⟨rfl,Bj,hG3⟩)
    refine hK.out _ _ ?_ ?_
    ·(try dsimp only);(try trivial)
    clear hK K uQ;intro uQ;have xm:=zH Bj;have xI:=zH ((aS HG2.out).trans hG3);clear Bj hG3;generalize (aQ bs s2).2=s3 at *;generalize (aQ bs s2).1=x at *;obtain⟨x0,x1⟩:=r3;have hwx:=ue x x0 (by omega);refine tkI [5] ?_;(iterate 1 (refine tkS rfl (by kernel_rfl) (fun _ _ _=>id) (by rfl) (by intro w h;(try dsimp only at h);go_simp;try rfl) uQ ?_;try simp only[Act.put,tkA,tk0,tk1]));refine tkE ?_;refine wR 6 rfl (by kernel_rfl) (fun K hK=>?_);(try dsimp only at uQ);go_simp;skip
    refine hK.out _ _ ?_ ?_
    ·(try dsimp only);(try trivial)
    clear hK K uQ;intro uQ;have hcv:=iU (P:=Tryz.prog) 34 9 5 Tryz.underlying34 Tryz.underlying5 Tryz.underlying9 (p8 w3 5 x x0 (by omega));refine wR 7 rfl (by kernel_rfl) (fun K hK=>?_);(try dsimp only at uQ);go_simp;skip
    refine hK.out _ _ ?_ ?_
    ·(try dsimp only);(try trivial)
    clear hK K uQ;intro uQ;clear hcv;have hmin:min k t.size=k:=Nat.min_eq_left (by omega);have hs1:¬ 9223372036854775807<k+1:=by omega
    have hs2:¬ 9223372036854775807<k+1+(t.size - k):=by omega
    have hs3:¬ 9223372036854775807<k+1+(t.size - (k+1)):=by omega
    refine tkI [8,12,13] ?_;(iterate 3 (refine tkS rfl (by kernel_rfl) (fun _ _ _=>id) (by rfl) (by intro w h;(try dsimp only at h);go_simp;try rfl) uQ ?_;try simp only[Act.put,tkA,tk0,tk1]));refine tkE ?_;refine wpAnyH_done (by kernel_rfl) ?_ _;(try dsimp only at uQ);go_wp2;go_ret;rw[Dz.out];exact⟨rfl,xm.out.alloc _,xI.out.trans (World.grownBy_alloc _ _ _)⟩
   ·by_cases m2:m=2
    ·subst m2;have Dz:=zH (HF.out.trans (by unfold ir;rw[if_neg (by omega),if_neg (by omega),if_pos rfl]));go_wp2;go_ret;rw[Dz.out];exact⟨rfl,wI.out,HG2.out⟩
    ·have Dz:=zH (HF.out.trans (by unfold ir;rw[if_neg m0,if_neg m1,if_neg m2]));have e0:(m==0)=false:=by simp[m0]
     have e1:(m==1)=false:=by simp[m1]
     have e2:(m==2)=false:=by simp[m2]
     have hbk:=pg t k hkt;have hbl:=qZ t k;clear m0 m1 m2;go_wp2;refine wp_region_held_drew (S:=(fun _:World=>True)) (by kernel_rfl) ?_ (fun uQ=>?_)
     ·(try dsimp only);(try trivial)
     change wpAnyH _ _ _ _ _ 21 #[false,false,false,false,false,false,false,false,false,false,false,false,false,false,false,false,false,false,false,false,false] _ _;have hv1:IntKind.i64.wrap ((t[k]'hkt).toNat:Int)=((t[k]'hkt).toNat:Int):=IntWalk.i64_in _ (by omega);refine tkI [0,1,2,3,4,5,6,7] ?_;(iterate 8 (refine tkS rfl (by kernel_rfl) (fun _ _ _=>id) (by rfl) (by intro w h;(try dsimp only at h);go_simp;try rfl) uQ ?_;try simp only[Act.put,tkA,tk0,tk1]));refine tkE ?_;refine tkI [15,16,17,18] ?_;(iterate 4 (refine tkS rfl (by kernel_rfl) (fun _ _ _=>id) (by rfl) (by intro w h;(try dsimp only at h);go_simp;try rfl) uQ ?_;try simp only[Act.put,tkA,tk0,tk1]));refine tkE ?_;refine wR 8 rfl (by kernel_rfl) (fun K hK=>?_);(try dsimp only at uQ);go_simp;(go_at_call 46;refine(aH a n cap bs g _ 255 _ wI.out.drew (by omega)).mono ?_;rintro e w3 ⟨rfl,Bj,hG3⟩)
     refine hK.out _ _ ?_ ?_
     ·(try dsimp only);(try trivial)
     clear hK K uQ;intro uQ;have xm:=zH Bj;have xI:=zH ((aS HG2.out).trans hG3);clear Bj hG3;generalize (aj bs 255 s2).2=s3 at *;generalize (aj bs 255 s2).1=x at *;obtain⟨x0,x1⟩:=r4;obtain⟨q,rfl⟩:=Int.eq_ofNat_of_zero_le x0;rw[Int.toNat_natCast] at Dz;obtain⟨hxe,hxl⟩:=sy (kN t k) (1+q) hbl (by omega);rw[hbk,show ((1+q:Nat):Int)=1+(q:Int) from by omega] at hxe;rw[hbk] at hxl Dz;have hv2:IntKind.i64.wrap (1+(q:Int))=1+(q:Int):=IntWalk.i64_in _ (by omega);refine tkI [9] ?_;(iterate 1 (refine tkS rfl (by kernel_rfl) (fun _ _ _=>id) (by rfl) (by intro w h;(try dsimp only at h);go_simp;try rfl) uQ ?_;try simp only[Act.put,tkA,tk0,tk1]));refine tkE ?_;refine tkI [10] ?_;(iterate 1 (refine tkS rfl (by kernel_rfl) (fun _ _ _=>id) (by rfl) (by intro w h;(try dsimp only at h);go_simp;try rfl) uQ ?_;try simp only[Act.put,tkA,tk0,tk1]));refine tkE ?_;generalize (t[k]'hkt).toNat ^^^ (1+q)=z at *;have hz0:(0:Int)<=(z:Int):=by omega
     have hz1:(z:Int)<256:=by omega
     have hwx:=ue (z:Int) hz0 hz1;clear hxe;refine tkI [11] ?_;(iterate 1 (refine tkS rfl (by kernel_rfl) (fun _ _ _=>id) (by rfl) (by intro w h;(try dsimp only at h);go_simp;try rfl) uQ ?_;try simp only[Act.put,tkA,tk0,tk1]));refine tkE ?_;refine wR 12 rfl (by kernel_rfl) (fun K hK=>?_);(try dsimp only at uQ);go_simp;skip
     refine hK.out _ _ ?_ ?_
     ·(try dsimp only);(try trivial)
     clear hK K uQ;intro uQ;have hcv:=iU (P:=Tryz.prog) 34 9 5 Tryz.underlying34 Tryz.underlying5 Tryz.underlying9 (p8 w3 5 (z:Int) hz0 hz1);refine wR 13 rfl (by kernel_rfl) (fun K hK=>?_);(try dsimp only at uQ);go_simp;skip
     refine hK.out _ _ ?_ ?_
     ·(try dsimp only);(try trivial)
     clear hK K uQ;intro uQ;clear hcv;have hmin:min k t.size=k:=Nat.min_eq_left (by omega);have hs1:¬ 9223372036854775807<k+1:=by omega
     have hs2:¬ 9223372036854775807<k+1+(t.size - k):=by omega
     have hs3:¬ 9223372036854775807<k+1+(t.size - (k+1)):=by omega
     refine tkI [14,19,20] ?_;(iterate 3 (refine tkS rfl (by kernel_rfl) (fun _ _ _=>id) (by rfl) (by intro w h;(try dsimp only at h);go_simp;try rfl) uQ ?_;try simp only[Act.put,tkA,tk0,tk1]));refine tkE ?_;refine wpAnyH_done (by kernel_rfl) ?_ _;(try dsimp only at uQ);go_wp2;go_ret;rw[Dz.out];exact⟨rfl,xm.out.alloc _,xI.out.trans (World.grownBy_alloc _ _ _)⟩
end Go.Proofs.YtlkfabkkjfmnmaaGreatDoor
