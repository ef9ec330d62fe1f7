import Derived.Test.YtlkfabkkjfmnmaaGreatDoorZaa
import Derived.Test.YtlkfabkkjfmnmaaGreatDoorZab
import Derived.Test.YtlkfabkkjfmnmaaGreatDoorZad
namespace Go.Proofs.YtlkfabkkjfmnmaaGreatDoor
open Go.RowKit
set_option linter.all false
set_option maxRecDepth 1000000
set_option maxHeartbeats 6000000
def aU:Nat->Int->List Int
 | 0,c=>[c]
 | n+1,c=>if ap c = [] then [c] else (ap c).flatMap (aU n)
theorem iF (f:Int->List Int)(b:Nat)(h:∀x,(f x).length<=b):∀l:List Int,(l.flatMap f).length<=l.length*b:=by
 intro l;induction l with
 | nil=>simp
 | cons x l ih =>
  have:=h x;rw[List.flatMap_cons,List.length_append,List.length_cons,Nat.succ_mul];omega
theorem lC:∀(n:Nat) (c:Int),(aU n c).length<=3 ^ n:=by
 intro n;induction n with
 | zero=>intro c;simp[aU]
 | succ n ih =>
  intro c;unfold aU;split
  ·have:0<3 ^ (n+1):=Nat.pow_pos (by omega);simp;omega
  ·have h1:=iF (aU n) (3 ^ n) ih (ap c);have h2:=Nat.mul_le_mul_right (3 ^ n) (ii c);rw[Nat.pow_succ,Nat.mul_comm];omega
theorem fn (n:Nat)(hn:n<=2)(c:Int):(aU n c).length<=9:=by
 have h:=lC n c;have h2:3 ^ n<=3 ^ 2:=Nat.pow_le_pow_right (by omega) hn;omega
def dy (l:List Int)(w:World)(e:Ending)(w':World):Prop:=
 ∃a c',e=.returned (.slice a l.length c')/\Own 3 1 w.heap.size w (.slice a l.length c') l.length (aE l) w'
theorem fr (n:Nat)(hn:n<=2)(c:Int)(ih:∀x∈ap c,∀w,Calls Tryz.prog 136 #[.int .i64 x] w (dy (aU n x) w))(w:World) :
  Calls Tryz.prog 136 #[.int .i64 c] w (dy (aU (n+1) c) w):=by
 have HI:=zH ih;clear ih;go_enter Tryz.func136,Tryz.ntmps136
 go_wp2_with fail
 refine(k9 c _).mono ?_;rintro e w1 ⟨g1,c1,rfl,hP⟩;have HP:=zH hP;by_cases h0:ap c = []
 ·have HE:Hid (aU (n+1) c = [c]):=zH (by unfold aU;rw[if_pos h0]);rw[h0];simp only[List.length_nil];clear hP HI h0;go_wp2;go_ret;rw[HE.out];exact⟨_,_,rfl,Own.lit HP.out.below HP.out.below.size #[.int .i64 c] rfl (show 1<=maxLen by decide)⟩
 ·have HE:Hid (aU (n+1) c=(ap c).flatMap (aU n)):=zH (by conv=>lhs;unfold aU;rw[if_neg h0]);have hl1:=ii c;have hl0:0<(ap c).length:=List.length_pos_iff.2 h0;generalize ap c=l at *;have hR:=hP.rd;clear hP h0;have hz:(((l.length:Nat):Int)==0)=false:=by rw[beq_eq_false_iff_ne];omega
  go_wp2;go_loopg [4,17] l.length (fun gg o i wr => ∃k:Nat,k+gg=l.length/\i=.int .i64 k/\Own 3 1 w1.heap.size w1 o ((l.take k).flatMap (aU n)).length (aE ((l.take k).flatMap (aU n))) wr)
  case atStart=>exact⟨0,by omega,rfl,by simpa[aE] using Own.lit (e:=3) (size:=1) (n:=0) (Below.refl w1.heap.size w1) zN #[] rfl (by decide)⟩
  case round =>
   obtain⟨k,hk,rfl,vN⟩:=hrel;obtain⟨av,cv,rfl,_,_⟩:=vN.shape;by_cases hlt:k<l.length
   ·obtain⟨b,off,e0,hbs,hc⟩:=hR.at' (by omega);cases e0;have hc1:=hc k (by simpa using hlt);rw[Nat.zero_add,←vN.below.cell (p:=⟨g1,k,none⟩) (by exact hbs),br l k hlt] at hc1;have hS:Hid ((l.take (k+1)).flatMap (aU n)=(l.take k).flatMap (aU n)++aU n l[k]):=zH (by rw[List.take_succ_eq_append_getElem hlt,List.flatMap_append];simp);have hb1:((l.take k).flatMap (aU n)).length<=27:=by
     have h:=iF (aU n) 9 (fn n hn) (l.take k);have h2:(l.take k).length<=3:=by rw[List.length_take];omega
     omega
    have hb2:=fn n hn l[k];have hIx:=zH (HI.out l[k] (List.getElem_mem _));clear hc hR HI;generalize (l.take k).flatMap (aU n)=pre at *;generalize l[k]=x at *;go_wp2_with fail
    refine(hIx.out _).mono ?_;rintro e w4 ⟨g4,c4,rfl,hF⟩;have CQ:=vN.kept hF.below;have CR:=hF.rd;go_wp2_with (at_builtin;go_loud (refine eu rfl _ _ 40 rfl 3 (.int .i64 0) 1 8 Tryz.underlying40 cA rfl (by decide) w1.heap.size w1 _ _ _ (by rfl) (by exact CQ) _ _ _ _ (by rfl) (by exact CR) (e8 _) (by omega) (by unfold maxLen;omega) ?_);intro a2 c2 w2 hO2)
    go_wp2;go_roundg (gk - 1)
    case measure=>omega
    case rel=>exact⟨k+1,by omega,by go_num,by rw[hS.out,List.length_append,cm];exact hO2⟩
   ·have hkl:k=l.length:=by omega
    subst hkl;rw[List.take_length] at vN ⊢;go_wp2;go_ret;rw[HE.out];exact⟨_,_,rfl,vN.rebase HP.out.below HP.out.below.size⟩
theorem eR (n:Nat)(hn:n<=2)(c:Int)(ih:∀x∈ap c,∀w,Calls Tryz.prog 130 #[.int .i64 x] w (dy (aU n x) w))(w:World) :
  Calls Tryz.prog 130 #[.int .i64 c] w (dy (aU (n+1) c) w):=by
 have HI:=zH ih;clear ih;go_enter Tryz.func130,Tryz.ntmps130
 go_wp2_with fail
 refine(kZ c _).mono ?_;rintro e w1 ⟨g1,c1,rfl,hP⟩;have HP:=zH hP;by_cases h0:ap c = []
 ·have HE:Hid (aU (n+1) c = [c]):=zH (by unfold aU;rw[if_pos h0]);rw[h0];simp only[List.length_nil];clear hP HI h0;go_wp2;go_ret;rw[HE.out];exact⟨_,_,rfl,Own.lit HP.out.below HP.out.below.size #[.int .i64 c] rfl (show 1<=maxLen by decide)⟩
 ·have HE:Hid (aU (n+1) c=(ap c).flatMap (aU n)):=zH (by conv=>lhs;unfold aU;rw[if_neg h0]);have hl1:=ii c;have hl0:0<(ap c).length:=List.length_pos_iff.2 h0;generalize ap c=l at *;have hR:=hP.rd;clear hP h0;have hz:(((l.length:Nat):Int)==0)=false:=by rw[beq_eq_false_iff_ne];omega
  go_wp2;go_loopg [4,5] l.length (fun gg o i wr => ∃k:Nat,k+gg=l.length/\i=.int .i64 k/\Own 3 1 w1.heap.size w1 o ((l.take k).flatMap (aU n)).length (aE ((l.take k).flatMap (aU n))) wr)
  case atStart=>exact⟨0,by omega,rfl,by simpa[aE] using Own.lit (e:=3) (size:=1) (n:=0) (Below.refl w1.heap.size w1) zN #[] rfl (by decide)⟩
  case round =>
   obtain⟨k,hk,rfl,vN⟩:=hrel;obtain⟨av,cv,rfl,_,_⟩:=vN.shape;by_cases hlt:k<l.length
   ·obtain⟨b,off,e0,hbs,hc⟩:=hR.at' (by omega);cases e0;have hc1:=hc k (by simpa using hlt);rw[Nat.zero_add,←vN.below.cell (p:=⟨g1,k,none⟩) (by exact hbs),br l k hlt] at hc1;have hS:Hid ((l.take (k+1)).flatMap (aU n)=(l.take k).flatMap (aU n)++aU n l[k]):=zH (by rw[List.take_succ_eq_append_getElem hlt,List.flatMap_append];simp);have hb1:((l.take k).flatMap (aU n)).length<=27:=by
     have h:=iF (aU n) 9 (fn n hn) (l.take k);have h2:(l.take k).length<=3:=by rw[List.length_take];omega
     omega
    have hb2:=fn n hn l[k];have hIx:=zH (HI.out l[k] (List.getElem_mem _));clear hc hR HI;generalize (l.take k).flatMap (aU n)=pre at *;generalize l[k]=x at *;go_wp2_with fail
    refine(hIx.out _).mono ?_;rintro e w4 ⟨g4,c4,rfl,hF⟩;have CQ:=vN.kept hF.below;have CR:=hF.rd;go_wp2_with (at_builtin;go_loud (refine eu rfl _ _ 40 rfl 3 (.int .i64 0) 1 8 Tryz.underlying40 cA rfl (by decide) w1.heap.size w1 _ _ _ (by rfl) (by exact CQ) _ _ _ _ (by rfl) (by exact CR) (e8 _) (by omega) (by unfold maxLen;omega) ?_);intro a2 c2 w2 hO2)
    go_wp2;go_roundg (gk - 1)
    case measure=>omega
    case rel=>exact⟨k+1,by omega,by go_num,by rw[hS.out,List.length_append,cm];exact hO2⟩
   ·have hkl:k=l.length:=by omega
    subst hkl;rw[List.take_length] at vN ⊢;go_wp2;go_ret;rw[HE.out];exact⟨_,_,rfl,vN.rebase HP.out.below HP.out.below.size⟩
def mJ (x:Int):List Int->List Int
 | []=>[x]
 | y::r=>if 0<bB x/\bB x<bB y then y::mJ x r else x::y::r
def cZ (l:List Int)(x:Int):List Int:=(mJ x l.reverse).reverse
def cX (l:List Int):List Int:=l.foldl cZ []
def dX (c:Int):List Int:=aU 3 c
def bq (l:List Int):List Int:=cX (l.flatMap dX)
theorem sj (x:Int):∀r,(mJ x r).length=r.length+1:=by
 intro r;induction r with
 | nil=>rfl
 | cons y r ih=>unfold mJ;split <;> simp[ih]
theorem iE (l:List Int)(x:Int):(cZ l x).length=l.length+1:=by simp[cZ,sj]
theorem jz (m:List Int):∀s,(m.foldl cZ s).length=s.length+m.length:=by
 induction m with
 | nil=>intro s;simp
 | cons x m ih=>intro s;rw[List.foldl_cons,ih,iE,List.length_cons];omega
theorem iz (m:List Int):(cX m).length=m.length:=by rw[cX,jz];simp
theorem nB (m:List Int)(x:Int):cX (m ++ [x])=cZ (cX m) x:=by simp[cX]
theorem ld (a b:List Int):cX (a++b)=b.foldl cZ (cX a):=by simp[cX]
theorem qk (l:List Int)(x:Int)(h:∀y,l.getLast? = some y->¬(0<bB x/\bB x<bB y)):cZ l x=l ++ [x]:=by
 unfold cZ;cases hr:l.reverse with
 | nil =>
  have:l = []:=by simpa using hr
  subst this;rfl
 | cons y r =>
  have hl:l=r.reverse ++ [y]:=by rw[←List.reverse_reverse l,hr];simp
  unfold mJ;rw[if_neg (h y (by rw[hl];simp))];rw[hl];simp
theorem mM (x:Int):cZ [] x = [x]:=rfl
theorem qd (l:List Int)(x y:Int)(h:0<bB x/\bB x<bB y):cZ (l ++ [y]) x=cZ l x ++ [y]:=by
 unfold cZ;rw[List.reverse_append];simp only[List.reverse_cons,List.reverse_nil,List.nil_append,List.singleton_append];conv=>lhs;unfold mJ
 rw[if_pos h];simp
theorem gH (l:List Int)(x y:Int)(h:¬(0<bB x/\bB x<bB y)):cZ (l ++ [y]) x=l ++ [y] ++ [x]:=
 qk _ _ (fun z hz=>by rw[List.getLast?_concat] at hz;cases hz;exact h)
theorem rK (x c:Int):∀r,c∈mJ x r ↔ c=x∨c∈r:=by
 intro r;induction r with
 | nil=>simp[mJ]
 | cons z r ih =>
  unfold mJ;split
  ·rw[List.mem_cons,ih,List.mem_cons];constructor
   ·rintro (h|h|h)
    ·exact .inr (.inl h)
    ·exact .inl h
    ·exact .inr (.inr h)
   ·rintro (h|h|h)
    ·exact .inr (.inl h)
    ·exact .inl h
    ·exact .inr (.inr h)
  ·rw[List.mem_cons]
theorem tf (l:List Int)(x c:Int):c∈cZ l x ↔ c=x∨c∈l:=by simp[cZ,rK]
theorem n1 (c:Int)(m:List Int):∀s,c∈m.foldl cZ s ↔ c∈s∨c∈m:=by
 induction m with
 | nil=>intro s;simp
 | cons x m ih =>
  intro s;rw[List.foldl_cons,ih,tf,List.mem_cons];constructor
  ·rintro ((h|h)|h)
   ·exact .inr (.inl h)
   ·exact .inl h
   ·exact .inr (.inr h)
  ·rintro (h|h|h)
   ·exact .inl (.inr h)
   ·exact .inl (.inl h)
   ·exact .inr h
theorem pq (c:Int)(m:List Int):c∈cX m ↔ c∈m:=by rw[cX,n1];simp
theorem qI (c:Int)(h:¬(44032<=c/\c<=55203))(x:Int)(hx:x∈ap c):∃p∈eX tabI,p.1=c/\x∈p.2:=by
 unfold ap at hx;rw[if_neg h] at hx;cases ha:asc (eX tabI) c with
 | none=>rw[ha] at hx;simp at hx
 | some v =>
  rw[ha] at hx;exact⟨(c,v),fl _ _ _ ha,rfl,hx⟩
theorem tZ (c:Int)(h:44032<=c/\c<=55203)(x:Int)(hx:x∈ap c):ap x = []:=by
 have hr:4352<=x/\x<=4600:=by
  unfold ap at hx;rw[if_pos h] at hx;unfold gX at hx;split at hx
  all_goals simp only[List.mem_append,List.mem_cons,List.not_mem_nil,or_false] at hx
  all_goals omega
 unfold ap;rw[if_neg (by omega)];cases ha:asc (eX tabI) x with
 | none=>rfl
 | some v =>
  have h2:∀p∈eX tabI,¬((4352:Int)<=p.1/\p.1<=4600):=by decide +kernel
  exact absurd hr (h2 _ (fl _ _ _ ha))
theorem qh:∀p∈eX tabI,∀x∈p.2,∀y∈ap x,ap y = []:=by decide +kernel
theorem j5 (c x y:Int)(hx:x∈ap c)(hy:y∈ap x):ap y = []:=by
 by_cases h:44032<=c/\c<=55203
 ·rw[tZ c h x hx] at hy;simp at hy
 ·obtain⟨p,hp,_,hx2⟩:=qI c h x hx;exact qh p hp x hx2 y hy
theorem dh (n:Nat)(c:Int)(h:ap c = []):aU n c = [c]:=by
 cases n with
 | zero=>rfl
 | succ n=>unfold aU;rw[if_pos h]
theorem jp (c:Int):(dX c).length<=27:=by have:=lC 3 c;unfold dX;omega
theorem gx (l:List Int):(l.flatMap dX).length<=l.length*27:=iF dX 27 jp l
theorem dG (l:List Int):(bq l).length<=l.length*27:=by unfold bq;rw[iz];exact gx l
def bH (c:Int):Bool:=decide (0<=c/\c<=1114111/\¬(55296<=c/\c<=57343))
def cx (c:Int):List UInt8:=
 if c<128 then [ub c]
 else if c<2048 then [ub (192+c / 64),ub (128+c % 64)]
 else if c<65536 then [ub (224+c / 4096),ub (128+c / 64 % 64),ub (128+c % 64)]
 else [ub (240+c / 262144),ub (128+c / 4096 % 64),ub (128+c / 64 % 64),ub (128+c % 64)]
def dH (l:List Int):List UInt8:=l.flatMap cx
def fp (l:List Int):List UInt8:=if ∀x∈l,bH x=true then dH l else []
theorem sb (c:Int):(cx c).length<=4:=by unfold cx;(repeat' split) <;> simp
theorem iI (l:List Int):(dH l).length<=4*l.length:=by
 induction l with
 | nil=>simp[dH]
 | cons x l ih =>
  have:=sb x;simp only[dH,List.flatMap_cons,List.length_append,List.length_cons] at *;omega
theorem jy (c:Int)(h0:0<=c)(h1:c<128):u8s (cx c) = [.int .u8 c]/\(cx c).length=1:=by
 unfold cx;rw[if_pos h1];exact⟨pB _ (by omega) (by omega),rfl⟩
theorem jw (c:Int)(h0:128<=c)(h1:c<2048):u8s (cx c) = [.int .u8 (192+c / 64),.int .u8 (128+c % 64)]/\(cx c).length=2:=by
 unfold cx;rw[if_neg (by omega),if_pos h1];exact⟨tA _ _ (by omega) (by omega) (by omega) (by omega),rfl⟩
theorem js (c:Int)(h0:2048<=c)(h1:c<65536):u8s (cx c) = [.int .u8 (224+c / 4096),.int .u8 (128+c / 64 % 64),.int .u8 (128+c % 64)]/\(cx c).length=3:=by
 unfold cx;rw[if_neg (by omega),if_neg (by omega),if_pos h1];exact⟨tl _ _ _ (by omega) (by omega) (by omega) (by omega) (by omega) (by omega),rfl⟩
theorem jI (c:Int)(h0:65536<=c)(h1:c<=1114111):u8s (cx c) = [.int .u8 (240+c / 262144),.int .u8 (128+c / 4096 % 64),.int .u8 (128+c / 64 % 64),.int .u8 (128+c % 64)]/\(cx c).length=4:=by
 unfold cx;rw[if_neg (by omega),if_neg (by omega),if_neg (by omega)];exact⟨ts _ _ _ _ (by omega) (by omega) (by omega) (by omega) (by omega) (by omega) (by omega) (by omega),rfl⟩
theorem dF (c:Int)(w:World)(h0:0<=c)(h1:c<=1114111)(h2:c<55296∨57343<c):Calls Tryz.prog 135 #[.int .i64 c] w fun e w'=>e=.returned (.bool true)/\w=w':=by
 rcases h2 with h2|h2
 all_goals
  go_enter Tryz.func135,Tryz.ntmps135
  go_wp2_with (go_at_call 51;(first|refine(am _ _ _ _ (by omega) (by omega)).mono ?_|refine(aB _ _ _ _ (by omega)).mono ?_);rintro e w' ⟨rfl,rfl⟩)
  go_ret;exact⟨rfl,rfl⟩
theorem gM (c:Int)(w:World)(h:c<0∨1114111<c∨(55296<=c/\c<=57343)):Calls Tryz.prog 135 #[.int .i64 c] w fun e w'=>e=.returned (.bool false)/\w=w':=by
 rcases h with h|h|⟨h,h'⟩
 all_goals
  go_enter Tryz.func135,Tryz.ntmps135
  go_wp2_with (go_at_call 51;(first|refine(am _ _ _ _ (by omega) (by omega)).mono ?_|refine(aB _ _ _ _ (by omega)).mono ?_);rintro e w' ⟨rfl,rfl⟩)
  go_ret;exact⟨rfl,rfl⟩
theorem cD (c:Int)(w:World)(h0:0<=c)(h1:c<=1114111)(h2:c<55296∨57343<c):Calls Tryz.prog 129 #[.int .i64 c] w fun e w'=>e=.returned (.bool true)/\w=w':=by
 rcases h2 with h2|h2
 all_goals
  go_enter Tryz.func129,Tryz.ntmps129
  go_wp2_with (go_at_call 39;(first|refine(ao _ _ _ _ (by omega) (by omega)).mono ?_|refine(aG _ _ _ _ (by omega)).mono ?_);rintro e w' ⟨rfl,rfl⟩)
  go_ret;exact⟨rfl,rfl⟩
theorem gR (c:Int)(w:World)(h:c<0∨1114111<c∨(55296<=c/\c<=57343)):Calls Tryz.prog 129 #[.int .i64 c] w fun e w'=>e=.returned (.bool false)/\w=w':=by
 rcases h with h|h|⟨h,h'⟩
 all_goals
  go_enter Tryz.func129,Tryz.ntmps129
  go_wp2_with (go_at_call 39;(first|refine(ao _ _ _ _ (by omega) (by omega)).mono ?_|refine(aG _ _ _ _ (by omega)).mono ?_);rintro e w' ⟨rfl,rfl⟩)
  go_ret;exact⟨rfl,rfl⟩
theorem j4 (a:Option Addr)(n cap:Nat)(l:List Int)(w:World)(h:Rd w a n cap 1 (aE l))(hn:n<=1048576) :
  Calls Tryz.prog 109 #[.slice a n cap] w fun e w'=>e=.returned (.string ⟨(fp l).toArray⟩)/\Below w.heap.size w w':=by
 have hl:l.length=n:=by have:=h.len;simpa using this
 subst hl;go_enter Tryz.func109,Tryz.ntmps109
 go_wp2;go_loopg [3,9] l.length (fun gg o i wr => ∃k:Nat,k+gg=l.length/\i=.int .i64 k/\(∀x∈l.take k,bH x=true)/\Own 5 1 w.heap.size w o (dH (l.take k)).length (u8s (dH (l.take k))) wr)
 case atStart=>exact⟨0,by omega,rfl,by simp,by simpa[dH,u8s] using Own.lit (e:=5) (size:=1) (n:=0) (Below.refl w.heap.size w) zN #[] rfl (by decide)⟩
 case round =>
  obtain⟨k,hk,rfl,hA,vN⟩:=hrel;obtain⟨av,cv,rfl,_,_⟩:=vN.shape;by_cases hlt:k<l.length
  ·obtain⟨b,off,rfl,hbs,hc⟩:=h.at' (by omega);have hc1:=hc k (by simpa using hlt);rw[←vN.below.cell (p:=⟨b,off+k,none⟩) (by exact hbs),br l k hlt] at hc1;have hts:l.take (k+1)=l.take k ++ [l[k]]:=List.take_succ_eq_append_getElem hlt;have hS:Hid (dH (l.take (k+1))=dH (l.take k)++cx l[k]):=zH (by rw[hts,dH,List.flatMap_append];simp[dH]);have hb1:(dH (l.take k)).length<=4194304:=by have:=iI (l.take k);rw[List.length_take] at this;omega
   have hmem:l[k]∈l:=List.getElem_mem _;clear hc h;by_cases hsg:bH l[k]=true
   ·have hA2:Hid (∀x∈l.take (k+1),bH x=true):=zH (by
     rw[hts];intro x hx;rcases List.mem_append.1 hx with hx|hx
     ·exact hA x hx
     ·rw[List.mem_singleton.1 hx];exact hsg)
    simp only[bH,decide_eq_true_eq] at hsg;obtain⟨s0,s1,s2⟩:=hsg;have s3:l[k]<55296∨57343<l[k]:=by omega
    clear hts hmem hA s2;generalize dH (l.take k)=pre at *;generalize l[k]=c at *;have EE:=zH s3;by_cases h128:c<128
    ·have hU:=jy c (by omega) (by omega);have HU:=zH hU;clear hU;go_wp2_with (first|(go_at_call 135;refine(dF _ _ (by omega) (by omega) (by omega)).mono ?_;rintro e w' ⟨rfl,rfl⟩)|(at_builtin;go_loud (refine cV rfl _ _ 34 rfl 5 (.int .u8 0) 1 1 Tryz.underlying34 cW rfl (by decide) w.heap.size w _ _ _ (by rfl) (by exact vN) _ _ (by rfl) (by rfl) (by intro u hu;simp at hu;first|(subst hu;rfl)|(rcases hu with rfl|rfl <;> rfl)|(rcases hu with rfl|rfl|rfl <;> rfl)|(rcases hu with rfl|rfl|rfl|rfl <;> rfl)) (by omega) (by unfold maxLen;omega) ?_);intro a2 c2 w2 hO2))
     go_wp2;go_roundg (gk - 1)
     case measure=>omega
     case rel=>exact⟨k+1,by omega,by go_num,hA2.out,by rw[hS.out,List.length_append,bS,HU.out.1,HU.out.2];exact hO2⟩
    ·skip
     by_cases Ir:c<2048
     ·have q1:=bR c (by omega) (by omega);have o1:bits .or .i64 128 (c % 64)=128+c % 64:=cP 7 128 _ (by decide) (by decide) (by decide) (by omega) (by omega) (by omega);have o4:bits .or .i64 192 (c / 64)=192+c / 64:=cP 5 192 _ (by decide) (by decide) (by decide) (by omega) (by omega) (by omega);have hU:=jw c (by omega) (by omega);have HU:=zH hU;clear hU;go_wp2_with (first|(go_at_call 135;refine(dF _ _ (by omega) (by omega) (by omega)).mono ?_;rintro e w' ⟨rfl,rfl⟩)|(at_builtin;go_loud (refine cV rfl _ _ 34 rfl 5 (.int .u8 0) 1 1 Tryz.underlying34 cW rfl (by decide) w.heap.size w _ _ _ (by rfl) (by exact vN) _ _ (by rfl) (by rfl) (by intro u hu;simp at hu;first|(subst hu;rfl)|(rcases hu with rfl|rfl <;> rfl)|(rcases hu with rfl|rfl|rfl <;> rfl)|(rcases hu with rfl|rfl|rfl|rfl <;> rfl)) (by omega) (by unfold maxLen;omega) ?_);intro a2 c2 w2 hO2))
      go_wp2;go_roundg (gk - 1)
      case measure=>omega
      case rel=>exact⟨k+1,by omega,by go_num,hA2.out,by rw[hS.out,List.length_append,bS,HU.out.1,HU.out.2];exact hO2⟩
     ·skip
      by_cases Gd:c<65536
      ·have q1:=bR c (by omega) (by omega);have o1:bits .or .i64 128 (c % 64)=128+c % 64:=cP 7 128 _ (by decide) (by decide) (by decide) (by omega) (by omega) (by omega);have q2:=bR (c / 64) (by omega) (by omega);have o2:bits .or .i64 128 (c / 64 % 64)=128+c / 64 % 64:=cP 7 128 _ (by decide) (by decide) (by decide) (by omega) (by omega) (by omega);have o4:bits .or .i64 224 (c / 4096)=224+c / 4096:=cP 4 224 _ (by decide) (by decide) (by decide) (by omega) (by omega) (by omega);have hU:=js c (by omega) (by omega);have HU:=zH hU;clear hU;go_wp2_with (first|(go_at_call 135;refine(dF _ _ (by omega) (by omega) (by omega)).mono ?_;rintro e w' ⟨rfl,rfl⟩)|(at_builtin;go_loud (refine cV rfl _ _ 34 rfl 5 (.int .u8 0) 1 1 Tryz.underlying34 cW rfl (by decide) w.heap.size w _ _ _ (by rfl) (by exact vN) _ _ (by rfl) (by rfl) (by intro u hu;simp at hu;first|(subst hu;rfl)|(rcases hu with rfl|rfl <;> rfl)|(rcases hu with rfl|rfl|rfl <;> rfl)|(rcases hu with rfl|rfl|rfl|rfl <;> rfl)) (by omega) (by unfold maxLen;omega) ?_);intro a2 c2 w2 hO2))
       go_wp2;go_roundg (gk - 1)
       case measure=>omega
       case rel=>exact⟨k+1,by omega,by go_num,hA2.out,by rw[hS.out,List.length_append,bS,HU.out.1,HU.out.2];exact hO2⟩
      ·skip
       have q1:=bR c (by omega) (by omega);have o1:bits .or .i64 128 (c % 64)=128+c % 64:=cP 7 128 _ (by decide) (by decide) (by decide) (by omega) (by omega) (by omega);have q2:=bR (c / 64) (by omega) (by omega);have o2:bits .or .i64 128 (c / 64 % 64)=128+c / 64 % 64:=cP 7 128 _ (by decide) (by decide) (by decide) (by omega) (by omega) (by omega);have q3:=bR (c / 4096) (by omega) (by omega);have o3:bits .or .i64 128 (c / 4096 % 64)=128+c / 4096 % 64:=cP 7 128 _ (by decide) (by decide) (by decide) (by omega) (by omega) (by omega);have o4:bits .or .i64 240 (c / 262144)=240+c / 262144:=cP 3 240 _ (by decide) (by decide) (by decide) (by omega) (by omega) (by omega);have hU:=jI c (by omega) (by omega);have HU:=zH hU;clear hU;go_wp2_with (first|(go_at_call 135;refine(dF _ _ (by omega) (by omega) (by omega)).mono ?_;rintro e w' ⟨rfl,rfl⟩)|(at_builtin;go_loud (refine cV rfl _ _ 34 rfl 5 (.int .u8 0) 1 1 Tryz.underlying34 cW rfl (by decide) w.heap.size w _ _ _ (by rfl) (by exact vN) _ _ (by rfl) (by rfl) (by intro u hu;simp at hu;first|(subst hu;rfl)|(rcases hu with rfl|rfl <;> rfl)|(rcases hu with rfl|rfl|rfl <;> rfl)|(rcases hu with rfl|rfl|rfl|rfl <;> rfl)) (by omega) (by unfold maxLen;omega) ?_);intro a2 c2 w2 hO2))
       go_wp2;go_roundg (gk - 1)
       case measure=>omega
       case rel=>exact⟨k+1,by omega,by go_num,hA2.out,by rw[hS.out,List.length_append,bS,HU.out.1,HU.out.2];exact hO2⟩
   ·have hV:Hid (fp l = []):=zH (by
     unfold fp;rw[if_neg];intro hall;exact hsg (hall _ hmem))
    have s3:l[k]<0∨1114111<l[k]∨(55296<=l[k]/\l[k]<=57343):=by
     simp only[bH,decide_eq_true_eq] at hsg;omega
    clear hts hmem hA hsg;generalize dH (l.take k)=pre at *;generalize l[k]=c at *;go_wp2_with (go_at_call 135;refine(gM _ _ s3).mono ?_;rintro e w' ⟨rfl,rfl⟩)
    go_ret;exact⟨by rw[hV.out];rfl,vN.below⟩
  ·have hkl:k=l.length:=by omega
   subst hkl;simp only[List.take_length] at vN hA ⊢;have hV:Hid (fp l=dH l):=zH (by unfold fp;rw[if_pos hA]);clear hA;have hr:=vN.rd;go_wp2_with (refine pj rfl _ 34 9 5 rfl Tryz.underlying34 Tryz.underlying5 Tryz.underlying9 _ _ _ _ (by rfl) (by exact hr) ?_)
   go_ret;exact⟨by rw[hV.out];rfl,vN.below⟩
theorem bK (a:Option Addr)(n cap:Nat)(l:List Int)(w:World)(h:Rd w a n cap 1 (aE l))(hn:n<=1048576) :
  Calls Tryz.prog 104 #[.slice a n cap] w fun e w'=>e=.returned (.string ⟨(fp l).toArray⟩)/\Below w.heap.size w w':=by
 have hl:l.length=n:=by have:=h.len;simpa using this
 subst hl;go_enter Tryz.func104,Tryz.ntmps104
 go_wp2;go_loopg [3,4] l.length (fun gg o i wr => ∃k:Nat,k+gg=l.length/\i=.int .i64 k/\(∀x∈l.take k,bH x=true)/\Own 5 1 w.heap.size w o (dH (l.take k)).length (u8s (dH (l.take k))) wr)
 case atStart=>exact⟨0,by omega,rfl,by simp,by simpa[dH,u8s] using Own.lit (e:=5) (size:=1) (n:=0) (Below.refl w.heap.size w) zN #[] rfl (by decide)⟩
 case round =>
  obtain⟨k,hk,rfl,hA,vN⟩:=hrel;obtain⟨av,cv,rfl,_,_⟩:=vN.shape;by_cases hlt:k<l.length
  ·obtain⟨b,off,rfl,hbs,hc⟩:=h.at' (by omega);have hc1:=hc k (by simpa using hlt);rw[←vN.below.cell (p:=⟨b,off+k,none⟩) (by exact hbs),br l k hlt] at hc1;have hts:l.take (k+1)=l.take k ++ [l[k]]:=List.take_succ_eq_append_getElem hlt;have hS:Hid (dH (l.take (k+1))=dH (l.take k)++cx l[k]):=zH (by rw[hts,dH,List.flatMap_append];simp[dH]);have hb1:(dH (l.take k)).length<=4194304:=by have:=iI (l.take k);rw[List.length_take] at this;omega
   have hmem:l[k]∈l:=List.getElem_mem _;clear hc h;by_cases hsg:bH l[k]=true
   ·have hA2:Hid (∀x∈l.take (k+1),bH x=true):=zH (by
     rw[hts];intro x hx;rcases List.mem_append.1 hx with hx|hx
     ·exact hA x hx
     ·rw[List.mem_singleton.1 hx];exact hsg)
    simp only[bH,decide_eq_true_eq] at hsg;obtain⟨s0,s1,s2⟩:=hsg;have s3:l[k]<55296∨57343<l[k]:=by omega
    clear hts hmem hA s2;generalize dH (l.take k)=pre at *;generalize l[k]=c at *;have EE:=zH s3;by_cases h128:c<128
    ·have hU:=jy c (by omega) (by omega);have HU:=zH hU;clear hU;go_wp2_with (first|(go_at_call 129;refine(cD _ _ (by omega) (by omega) (by omega)).mono ?_;rintro e w' ⟨rfl,rfl⟩)|(at_builtin;go_loud (refine cV rfl _ _ 34 rfl 5 (.int .u8 0) 1 1 Tryz.underlying34 cW rfl (by decide) w.heap.size w _ _ _ (by rfl) (by exact vN) _ _ (by rfl) (by rfl) (by intro u hu;simp at hu;first|(subst hu;rfl)|(rcases hu with rfl|rfl <;> rfl)|(rcases hu with rfl|rfl|rfl <;> rfl)|(rcases hu with rfl|rfl|rfl|rfl <;> rfl)) (by omega) (by unfold maxLen;omega) ?_);intro a2 c2 w2 hO2))
     go_wp2;go_roundg (gk - 1)
     case measure=>omega
     case rel=>exact⟨k+1,by omega,by go_num,hA2.out,by rw[hS.out,List.length_append,bS,HU.out.1,HU.out.2];exact hO2⟩
    ·skip
     by_cases Ir:c<2048
     ·have q1:=bR c (by omega) (by omega);have hU:=jw c (by omega) (by omega);have HU:=zH hU;clear hU;go_wp2_with (first|(go_at_call 129;refine(cD _ _ (by omega) (by omega) (by omega)).mono ?_;rintro e w' ⟨rfl,rfl⟩)|(at_builtin;go_loud (refine cV rfl _ _ 34 rfl 5 (.int .u8 0) 1 1 Tryz.underlying34 cW rfl (by decide) w.heap.size w _ _ _ (by rfl) (by exact vN) _ _ (by rfl) (by rfl) (by intro u hu;simp at hu;first|(subst hu;rfl)|(rcases hu with rfl|rfl <;> rfl)|(rcases hu with rfl|rfl|rfl <;> rfl)|(rcases hu with rfl|rfl|rfl|rfl <;> rfl)) (by omega) (by unfold maxLen;omega) ?_);intro a2 c2 w2 hO2))
      go_wp2;go_roundg (gk - 1)
      case measure=>omega
      case rel=>exact⟨k+1,by omega,by go_num,hA2.out,by rw[hS.out,List.length_append,bS,HU.out.1,HU.out.2];exact hO2⟩
     ·skip
      by_cases Gd:c<65536
      ·have q1:=bR c (by omega) (by omega);have q2:=bR (c / 64) (by omega) (by omega);have hU:=js c (by omega) (by omega);have HU:=zH hU;clear hU;go_wp2_with (first|(go_at_call 129;refine(cD _ _ (by omega) (by omega) (by omega)).mono ?_;rintro e w' ⟨rfl,rfl⟩)|(at_builtin;go_loud (refine cV rfl _ _ 34 rfl 5 (.int .u8 0) 1 1 Tryz.underlying34 cW rfl (by decide) w.heap.size w _ _ _ (by rfl) (by exact vN) _ _ (by rfl) (by rfl) (by intro u hu;simp at hu;first|(subst hu;rfl)|(rcases hu with rfl|rfl <;> rfl)|(rcases hu with rfl|rfl|rfl <;> rfl)|(rcases hu with rfl|rfl|rfl|rfl <;> rfl)) (by omega) (by unfold maxLen;omega) ?_);intro a2 c2 w2 hO2))
       go_wp2;go_roundg (gk - 1)
       case measure=>omega
       case rel=>exact⟨k+1,by omega,by go_num,hA2.out,by rw[hS.out,List.length_append,bS,HU.out.1,HU.out.2];exact hO2⟩
      ·skip
       have q1:=bR c (by omega) (by omega);have q2:=bR (c / 64) (by omega) (by omega);have q3:=bR (c / 4096) (by omega) (by omega);have hU:=jI c (by omega) (by omega);have HU:=zH hU;clear hU;go_wp2_with (first|(go_at_call 129;refine(cD _ _ (by omega) (by omega) (by omega)).mono ?_;rintro e w' ⟨rfl,rfl⟩)|(at_builtin;go_loud (refine cV rfl _ _ 34 rfl 5 (.int .u8 0) 1 1 Tryz.underlying34 cW rfl (by decide) w.heap.size w _ _ _ (by rfl) (by exact vN) _ _ (by rfl) (by rfl) (by intro u hu;simp at hu;first|(subst hu;rfl)|(rcases hu with rfl|rfl <;> rfl)|(rcases hu with rfl|rfl|rfl <;> rfl)|(rcases hu with rfl|rfl|rfl|rfl <;> rfl)) (by omega) (by unfold maxLen;omega) ?_);intro a2 c2 w2 hO2))
       go_wp2;go_roundg (gk - 1)
       case measure=>omega
       case rel=>exact⟨k+1,by omega,by go_num,hA2.out,by rw[hS.out,List.length_append,bS,HU.out.1,HU.out.2];exact hO2⟩
   ·have hV:Hid (fp l = []):=zH (by
     unfold fp;rw[if_neg];intro hall;exact hsg (hall _ hmem))
    have s3:l[k]<0∨1114111<l[k]∨(55296<=l[k]/\l[k]<=57343):=by
     simp only[bH,decide_eq_true_eq] at hsg;omega
    clear hts hmem hA hsg;generalize dH (l.take k)=pre at *;generalize l[k]=c at *;go_wp2_with (go_at_call 129;refine(gR _ _ s3).mono ?_;rintro e w' ⟨rfl,rfl⟩)
    go_ret;exact⟨by rw[hV.out];rfl,vN.below⟩
  ·have hkl:k=l.length:=by omega
   subst hkl;simp only[List.take_length] at vN hA ⊢;have hV:Hid (fp l=dH l):=zH (by unfold fp;rw[if_pos hA]);clear hA;have hr:=vN.rd;go_wp2_with (refine pj rfl _ 34 9 5 rfl Tryz.underlying34 Tryz.underlying5 Tryz.underlying9 _ _ _ _ (by rfl) (by exact hr) ?_)
   go_ret;exact⟨by rw[hV.out];rfl,vN.below⟩
end Go.Proofs.YtlkfabkkjfmnmaaGreatDoor
