import Derived.Test.YtlkfabkkjfmnmaaGreatDoorZaa
import Derived.OwnWalk
namespace Go.Proofs.YtlkfabkkjfmnmaaGreatDoor
open Go.RowKit
set_option linter.all false
set_option maxRecDepth 1000000
set_option maxHeartbeats 6000000
theorem fy:(Tryz.prog.info? 9).map (fun i=>(i.zero,i.size,i.bytes))=some (some (.string ByteArray.empty),1,16):=by kernel_rfl
theorem ac {w0 w w':World}(h:Below w0.heap.size w0 w)(hb:Below w.heap.size w w'):Below w0.heap.size w0 w':=h.trans (hb.mono h.size)
def mtF (k:Nat):ByteArray:=⟨#[109]++(uK k).reverse.toArray⟩
def mks (k:Nat)(n:Nat):List ByteArray:=(List.range n).map fun i=>mtF (k+i)
@[simp] theorem um (k n:Nat):(mks k n).length=n:=by simp[mks]
theorem bG:(Tryz.prog.info? 74).map (fun i=>(i.zero,i.size,i.bytes))=some (some (.agg #[.int .i64 0,.int .i64 0,.string ByteArray.empty,.int .i64 0]),4,40):=by kernel_rfl
def enV (x:EntL):Value:=.agg #[.int .i64 x.hash,.int .i64 x.index,.string x.name,.int .i64 x.id]
def ak:EntL:=⟨0,0,ByteArray.empty,0⟩
theorem ay {w:World}{a:Option Addr}{n cap:Nat}{l:List EntL}(h:Rd w a n cap 4 (ens l))(k:Nat)(hk:k<l.length) :
  ∃b off,a=some ⟨b,off,none⟩/\b<w.heap.size/\w.cell? ⟨b,off+k*4,none⟩=some (.int .i64 l[k].hash)/\w.cell? ⟨b,off+k*4+1,none⟩=some (.int .i64 l[k].index)/\w.cell? ⟨b,off+k*4+2,none⟩=some (.string l[k].name)/\w.cell? ⟨b,off+k*4+3,none⟩=some (.int .i64 l[k].id):=by
 have hl:l.length=n:=by have:=h.len;simp at this;omega
 obtain⟨b,off,e,hlt,hc⟩:=h.at' (by omega);have g:∀j (hj:j<4),w.cell? ⟨b,off+k*4+j,none⟩=some ((en1 l[k])[j]'(by rw[fm];exact hj)):=fun j hj=>by
  rw[Nat.add_assoc,hc (k*4+j) (by simp;omega),mm l k hk j hj]
 exact⟨b,off,e,hlt,g 0 (by omega),g 1 (by omega),g 2 (by omega),g 3 (by omega)⟩
def dM (c:Int)(l:List Int):Bool:=l.any (· == c)
theorem jQ (c:Int)(l:List Int)(k:Nat)(h:k<l.length):dM c (l.take (k+1))=(dM c (l.take k) || l[k]==c):=by
 unfold dM;rw[List.take_succ_eq_append_getElem h,List.any_append];simp only[List.any_cons,List.any_nil,Bool.or_false]
theorem lp (c:Int)(l:List Int)(k:Nat)(h:dM c (l.take k)=true):dM c l=true:=by
 simp only[dM,List.any_eq_true] at h ⊢;obtain⟨x,hx,e⟩:=h;exact⟨x,List.mem_of_mem_take hx,e⟩
theorem lF (c:Int)(a:Option Addr)(cap n:Nat)(l:List Int)(w:World)(h:Rd w a n cap 1 (l.map (.int .i64))) :
  Calls Tryz.prog 144 #[.int .i64 c,.slice a n cap] w fun e w'=>e=.returned (.bool (dM c l))/\w=w':=by
 obtain⟨hl,hle,hm,-,hr⟩:=h;simp at hl;subst hl;unfold maxLen at hm;go_enter Tryz.func144,Tryz.ntmps144
 go_wp2;go_loop [5] (fun i => ∃k:Nat,k<=l.length/\i=.int .i64 k/\dM c (l.take k)=false) (fun i=>l.length - (intOf i).toNat)
 case atStart=>exact⟨0,by omega,rfl,rfl⟩
 case round =>
  obtain⟨k,hk,rfl,hf⟩:=hrel;have hs:=jQ c l k;by_cases hlt:k<l.length
  ·obtain⟨b,off,rfl,hbz,hc⟩:=hr (by omega);have hc1:=hc k (by simpa using hlt);simp only[List.getElem_map] at hc1;clear hc;have H:=zH (hs hlt);have HF:=zH hf;clear hf hs;go_wp2
   ·go_ret;have e:(l[k]==c)=true:=by assumption
    exact⟨ah (by have:=H.out;rw[e,HF.out] at this;exact(lp c l _ (by simpa using this)).symm),rfl⟩
   ·go_round
    case rel =>
     have e:(l[k]==c)=false:=by assumption
     exact⟨k+1,by omega,by go_num,by rw[H.out,HF.out,e];rfl⟩
    case measure=>simp[intOf];omega
  ·go_wp2;go_ret;exact⟨ah (by rw[List.take_of_length_le (by omega)] at hf;exact hf.symm),rfl⟩
theorem cC (c:Int)(a:Option Addr)(cap n:Nat)(l:List Int)(w:World)(h:Rd w a n cap 1 (l.map (.int .i64))) :
  Calls Tryz.prog 144 #[.int .i64 c,.slice a n cap] w fun e w'=>e=.returned (.bool (dM c l))/\Below w.heap.size w w':=
 (lF c a cap n l w h).mono fun e w' ⟨h1,h2⟩=>⟨h1,by subst h2;exact zB⟩
def bB (c:Int):Int:=if (768<=c/\c<=772)∨c=776∨c=778 then 230 else if c=803 then 220 else if c=807 then 202 else 0
theorem nU (c:Int):dM c [768,769,770,771,772,776,778]=decide ((768<=c/\c<=772)∨c=776∨c=778):=by
 simp[dM,List.any_cons];rw[Bool.eq_iff_iff];simp;omega
theorem cJ (c:Int)(w:World):Calls Tryz.prog 131 #[.int .i64 c] w fun e w'=>e=.returned (.int .i64 (bB c))/\Below w.heap.size w w':=by
 go_enter Tryz.func131,Tryz.ntmps131
 go_wp2_with fail
 refine(lF c _ 7 7 [768,769,770,771,772,776,778] _ (aM rfl (by decide))).mono ?_;rintro e w' ⟨rfl,rfl⟩;have hb:Below w.heap.size w (w.alloc (.cells #[.int .i64 768,.int .i64 769,.int .i64 770,.int .i64 771,.int .i64 772,.int .i64 776,.int .i64 778] 3)):=zB.alloc zN _;rw[nU];by_cases h:(768<=c/\c<=772)∨c=776∨c=778
 ·have e:decide ((768<=c/\c<=772)∨c=776∨c=778)=true:=by simpa using h
  rw[e];have H:=zH h;clear h;clear e;go_wp2;go_ret;exact⟨eI (by unfold bB;rw[if_pos H.out]),hb⟩
 ·have e:decide ((768<=c/\c<=772)∨c=776∨c=778)=false:=by simpa using h
  rw[e];have H:=zH h;clear h;clear e;go_wp2;all_goals go_ret
  all_goals refine⟨eI ?_,hb⟩
  all_goals (unfold bB;rw[if_neg H.out];simp only[beq_iff_eq,beq_eq_false_iff_ne] at *;(repeat' split) <;> omega)
theorem fv (c:Int)(w:World):Calls Tryz.prog 137 #[.int .i64 c] w fun e w'=>e=.returned (.int .i64 (bB c))/\w=w':=by
 go_enter Tryz.func137,Tryz.ntmps137
 go_wp2;all_goals go_ret
 all_goals refine⟨eI ?_,rfl⟩
 all_goals (unfold bB;simp_all;try omega)
def gY:List Int->List Int->Int->List (Int × List Int)
 | a::f,b::l,m=>(a,if 0<m then [b,m] else [b])::gY f l m
 | _,_,_=>[]
def asc:List (Int × List Int)->Int->Option (List Int)
 | [],_=>none
 | (k,v)::T,c=>if k=c then some v else asc T c
theorem eQ (A B:List (Int × List Int))(c:Int):asc (A++B) c=(asc A c).or (asc B c):=by
 induction A with
 | nil=>rfl
 | cons p A ih =>
  obtain⟨k,v⟩:=p;simp only[List.cons_append,asc];split
  ·rfl
  ·exact ih
theorem fl:∀(A:List (Int × List Int)) (c:Int) (v:List Int),asc A c=some v->(c,v)∈A:=by
 intro A;induction A with
 | nil=>intro c v h;cases h
 | cons p A ih =>
  obtain⟨k,u⟩:=p;intro c v h;simp only[asc] at h;split at h
  ·rename_i e;subst e;cases h;exact List.mem_cons_self ..
  ·exact List.mem_cons_of_mem _ (ih c v h)
theorem rW (A B:List (Int × List Int))(h1:∀p∈A,asc B p.1=some p.2)(h2:∀p∈B,asc A p.1=some p.2)(c:Int):asc A c=asc B c:=by
 cases ha:asc A c with
 | some v=>exact(h1 _ (fl A c v ha)).symm
 | none =>
  cases hb:asc B c with
  | none=>rfl
  | some v=>rw[h2 _ (fl B c v hb)] at ha;cases ha
theorem ud (A:List (Int × List Int))(lo hi:Int)(h:∀p∈A,lo<=p.1/\p.1<=hi)(c:Int)(hc:c<lo∨hi<c):asc A c=none:=by
 cases ha:asc A c with
 | none=>rfl
 | some v=>have:=h _ (fl A c v ha);omega
theorem mu:∀(f l:List Int) (m c:Int) (k:Nat) (hk:k<f.length) (hl:f.length=l.length),f[k]=c->(∀j (hj:j<k),f[j]'(by omega)≠c) ->
  asc (gY f l m) c=some (if 0<m then [l[k]'(by omega),m] else [l[k]'(by omega)]):=by
 intro f;induction f with
 | nil=>intro l m c k hk;simp at hk
 | cons a f ih =>
  intro l m c k hk hl he hf;cases l with
  | nil=>simp at hl
  | cons b l =>
   cases k with
   | zero=>simp only[List.getElem_cons_zero] at he ⊢;simp only[gY,asc,if_pos he]
   | succ k =>
    have h0:=hf 0 (by omega);simp only[List.getElem_cons_zero] at h0;simp only[gY,asc,if_neg h0,List.getElem_cons_succ] at he ⊢;exact ih l m c k (by simpa using hk) (by simpa using hl) he (fun j hj=>by have:=hf (j+1) (by omega);simpa using this)
theorem kf:∀(f l:List Int) (m c:Int),c ∉ f->asc (gY f l m) c=none:=by
 intro f;induction f with
 | nil=>intro l m c _;cases l <;> rfl
 | cons a f ih =>
  intro l m c h;cases l with
  | nil=>rfl
  | cons b l =>
   simp only[List.mem_cons,not_or] at h;have h1:¬a=c:=fun e=>h.1 e.symm
   simp only[gY,asc,if_neg h1];exact ih l m c h.2
abbrev lc:=List Int × List Int × Int
def eX (T:List lc):List (Int × List Int):=T.flatMap fun r=>gY r.1 r.2.1 r.2.2
def tabI:List lc:=[
 ([192,200,204,210,217,224,232,236,242,249],[65,69,73,79,85,97,101,105,111,117],768),
 ([193,201,205,211,218,221,225,233,237,243,250,253],[65,69,73,79,85,89,97,101,105,111,117,121],769),
 ([194,202,206,212,219,226,234,238,244,251],[65,69,73,79,85,97,101,105,111,117],770),
 ([195,209,213,227,241,245],[65,78,79,97,110,111],771),
 ([196,203,207,214,220,228,235,239,246,252,255],[65,69,73,79,85,97,101,105,111,117,121],776),
 ([197,229],[65,97],778),
 ([199,231],[67,99],807),
 ([902,904,905,906,908,910,911],[913,917,919,921,927,933,937],769),
 ([940,941,942,943,972,973,974],[945,949,951,953,959,965,969],769),
 ([469,470],[220,252],772),
 ([7840,7841],[65,97],803),
 ([7852,7853],[7840,7841],770),
 ([8486,8491],[937,197],0)]
def tabS:List lc:=[
 ([192,200,204,210,217,224,232,236,242,249],[65,69,73,79,85,97,101,105,111,117],768),
 ([193,201,205,211,218,221,225,233,237,243,250,253],[65,69,73,79,85,89,97,101,105,111,117,121],769),
 ([194,202,206,212,219,226,234,238,244,251],[65,69,73,79,85,97,101,105,111,117],770),
 ([195,209,213,227,241,245],[65,78,79,97,110,111],771),
 ([196,203,207,214,220,228,235,239,246,252,255],[65,69,73,79,85,97,101,105,111,117,121],776),
 ([197,229],[65,97],778),
 ([199,231],[67,99],807),
 ([7840,7841],[65,97],803)]
def greekF:List Int:=[902,904,905,906,908,910,911,940,941,942,943,972,973,974]
def greekL:List Int:=[913,917,919,921,927,933,937,945,949,951,953,959,965,969]
def nL:List (Int × List Int):=[(469,[220,772]),(470,[252,772]),(7852,[7840,770]),(7853,[7841,770]),(8486,[937]),(8491,[197])]
def nM:List (Int × List Int):=eX tabS++(gY greekF greekL 769++nL)
def gX (c:Int):List Int:=[4352+(c - 44032) / 588,4449+(c - 44032) % 588 / 28]++(if 0<(c - 44032) % 28 then [4519+(c - 44032) % 28] else [])
def ap (c:Int):List Int:=if 44032<=c/\c<=55203 then gX c else (asc (eX tabI) c).getD []
theorem lx:∀p∈eX tabI,(192:Int)<=p.1/\p.1<=8491:=by decide +kernel
theorem mN (c:Int):asc (eX tabI) c=asc nM c:=rW _ _ (by decide +kernel) (by decide +kernel) c
theorem pc (c:Int)(h:c<192∨8491<c)(h2:¬(44032<=c/\c<=55203)):ap c = []:=by
 unfold ap;rw[if_neg h2,ud _ 192 8491 lx c h];rfl
theorem dQ (c:Int)(v:List Int)(h:asc nM c=some v):ap c=v:=by
 have h':=h;rw[←mN] at h;have:=lx _ (fl _ _ _ h);unfold ap;rw[if_neg (by simp only at this;omega),h];rfl
theorem lQ (c:Int)(h:asc nM c=none):ap c=if 44032<=c/\c<=55203 then gX c else []:=by
 rw[←mN] at h;unfold ap;rw[h];rfl
theorem lW (T:List lc)(i:Nat)(r:lc)(h:T[i]? = some r)(c:Int):asc (eX (T.drop i)) c=(asc (gY r.1 r.2.1 r.2.2) c).or (asc (eX (T.drop (i+1))) c):=by
 obtain⟨hi,rfl⟩:=List.getElem?_eq_some_iff.1 h;rw[List.drop_eq_getElem_cons hi,eX,List.flatMap_cons,eQ];rfl
theorem ro (c:Int):(gX c).length<=3:=by unfold gX;split <;> simp
theorem ii (c:Int):(ap c).length<=3:=by
 unfold ap;split
 ·exact ro c
 ·cases h:asc (eX tabI) c with
  | none=>simp
  | some v =>
   have h2:∀p∈eX tabI,p.2.length<=2:=by decide +kernel
   have:=h2 _ (fl _ _ _ h);simp only[Option.getD_some];simp only at this;omega
theorem mh (c:Int):∀x∈ap c,0<=x/\x<=65535:=by
 unfold ap;split
 ·intro x hx;unfold gX at hx;split at hx
  all_goals simp only[List.mem_append,List.mem_cons,List.not_mem_nil,or_false] at hx
  all_goals omega
 ·cases h:asc (eX tabI) c with
  | none=>intro x hx;cases hx
  | some v =>
   have h2:∀p∈eX tabI,∀x∈p.2,(0:Int)<=x/\x<=65535:=by decide +kernel
   exact h2 _ (fl _ _ _ h)
def qU (l:List UInt8):List Int:=l.map fun b=>(b.toNat:Int)
theorem gG {w0:World}{e:TypeId}{size m b:Nat}{news:Array Value}(hb:b=w0.heap.size)(hl:news.size=m*size)(hm:m<=maxLen):Rd (w0.alloc (.cells news e)) (some ⟨b,0,none⟩) m m size news.toList:=by
 subst hb;exact aM hl hm
theorem dL (s:ByteArray)(hs:s.size<=1024)(w:World) :
  Calls Tryz.prog 149 #[.string s] w fun e w' => ∃a c,e=.returned (.slice a s.size c)/\Own 3 1 w.heap.size w (.slice a s.size c) s.size (aE (qU s.data.toList)) w':=by
 go_enter Tryz.func149,Tryz.ntmps149
 go_wp2;go_loopg [3,4] s.size (fun gg o i wr => ∃k:Nat,k+gg=s.size/\i=.int .i64 k/\Own 3 1 w.heap.size w o k (aE (qU (s.data.toList.take k))) wr)
 case atStart=>exact⟨0,by omega,rfl,by simpa[qU,aE] using Own.lit (e:=3) (size:=1) (n:=0) (Below.refl w.heap.size w) zN #[] rfl (by decide)⟩
 case round =>
  obtain⟨k,hk,rfl,vN⟩:=hrel;obtain⟨av,cv,rfl,_,_⟩:=vN.shape;by_cases hlt:k<s.size
  ·have hb0:s[k].toNat<256:=s[k].toNat_lt;have HW:Hid (wrap64 ((s[k].toNat:Nat):Int)=((s[k].toNat:Nat):Int)):=zH (by unfold wrap64;omega);have HS:Hid (aE (qU (s.data.toList.take (k+1)))=aE (qU (s.data.toList.take k)) ++ [.int .i64 (s[k].toNat:Int)]):=zH (by rw[gT s k hlt];simp[qU,aE]);go_wp2_with (at_builtin;go_loud (refine cV rfl _ _ 40 rfl 3 (.int .i64 0) 1 8 Tryz.underlying40 cA rfl (by decide) w.heap.size w _ _ _ (by rfl) (by exact vN) _ _ (by rfl) (by rfl) (by intro u hu;simp at hu;first|(subst hu;rfl)|(rcases hu with rfl|rfl <;> rfl)|(rcases hu with rfl|rfl|rfl <;> rfl)) (by omega) (by unfold maxLen;omega) ?_);intro a2 c2 w2 hO2)
   go_wp2;go_roundg (gk - 1)
   case measure=>omega
   case rel=>exact⟨k+1,by omega,by go_num,by rw[HS.out];exact hO2⟩
  ·have hks:k=s.size:=by omega
   subst hks;have hfull:s.data.toList.take s.size=s.data.toList:=List.take_of_length_le (by simp);rw[hfull] at vN;clear hfull;go_wp2;go_ret;exact⟨_,_,rfl,vN⟩
theorem qQ (c:Int)(a:Option Addr)(n cap:Nat)(l:List Int)(w:World)(h:Rd w a n cap 1 (aE l))(hn:n<=1024) :
  Calls Tryz.prog 88 #[.slice a n cap,.int .i64 c] w fun e w'=>w=w'/\((∃k:Nat,∃hk:k<l.length,e=.returned (.int .i64 k)/\l[k]=c/\∀j (hj:j<k),l[j]'(by omega)≠c)∨(e=.returned (.int .i64 (-1))/\c ∉ l)):=by
 have hl:l.length=n:=by have:=h.len;simpa using this
 subst hl;go_enter Tryz.func88,Tryz.ntmps88
 go_wp2;go_loopg [8] l.length (fun gg i wr => ∃k:Nat,k+gg=l.length/\i=.int .i64 k/\c ∉ l.take k/\wr=w)
 case atStart=>exact⟨0,by omega,rfl,by simp,rfl⟩
 case round =>
  obtain⟨k,hk,rfl,hno,rfl⟩:=hrel;have HN:=zH hno;clear hno;by_cases hlt:k<l.length
  ·obtain⟨b,off,rfl,hbs,hc⟩:=h.at' (by omega);have hc1:=hc k (by simpa using hlt);rw[br l k hlt] at hc1;clear hc h;go_wp2
   ·go_ret;have e:(c==l[k])=true:=by assumption
    have e':c=l[k]:=by simpa using e
    refine⟨rfl,.inl ⟨k,hlt,rfl,e'.symm,fun j hj he=>HN.out ?_⟩⟩;rw[List.mem_take_iff_getElem];exact⟨j,by omega,he⟩
   ·have e:(c==l[k])=false:=by assumption
    have e':¬c=l[k]:=by simpa using e
    go_roundg (gk - 1)
    case measure=>omega
    case rel=>exact⟨k+1,by omega,by go_num,by rw[List.take_succ_eq_append_getElem hlt];simp only[List.mem_append,List.mem_singleton,not_or];exact⟨HN.out,e'⟩,rfl⟩
  ·have hkl:k=l.length:=by omega
   subst hkl;go_wp2;go_ret;exact⟨rfl,.inr ⟨rfl,by have:=HN.out;rwa [List.take_length] at this⟩⟩
def iS (w:World)(r:lc)(e:Ending)(w':World):Prop:=
 ∃a1 c1 a2 c2,e=.returned (.tuple #[.slice a1 r.1.length c1,.slice a2 r.2.1.length c2,.int .i64 r.2.2])/\Rd w' a1 r.1.length c1 1 (aE r.1)/\Rd w' a2 r.2.1.length c2 1 (aE r.2.1)/\Below w.heap.size w w'
theorem sF (w:World):Calls Tryz.prog 148 #[.int .i64 0] w (iS w ([192,200,204,210,217,224,232,236,242,249],[65,69,73,79,85,97,101,105,111,117],768)):=by
 go_enter Tryz.func148,Tryz.ntmps148
 go_wp2_with fail
 refine(dL ⟨#[65,69,73,79,85,97,101,105,111,117]⟩ (by decide) _).mono ?_;rintro e w2 ⟨a2,c2,rfl,hO⟩;go_wp2;(try simp only[Exit.inBlock,Exit.then])
 refine bodyPost_ret (results_tmp3 rfl _ _ _) rfl ?_;exact⟨_,_,_,_,rfl,(aM (w0:=w) (e:=3) (size:=1) (m:=10) (news:=#[.int .i64 192,.int .i64 200,.int .i64 204,.int .i64 210,.int .i64 217,.int .i64 224,.int .i64 232,.int .i64 236,.int .i64 242,.int .i64 249]) rfl (by decide)).below hO.below zN,hO.rd,(zB.alloc zN _).trans (hO.below.mono (by simp))⟩
theorem rM (w:World):Calls Tryz.prog 148 #[.int .i64 1] w (iS w ([193,201,205,211,218,221,225,233,237,243,250,253],[65,69,73,79,85,89,97,101,105,111,117,121],769)):=by
 go_enter Tryz.func148,Tryz.ntmps148
 go_wp2_with fail
 refine(dL ⟨#[65,69,73,79,85,89,97,101,105,111,117,121]⟩ (by decide) _).mono ?_;rintro e w2 ⟨a2,c2,rfl,hO⟩;go_wp2;(try simp only[Exit.inBlock,Exit.then])
 refine bodyPost_ret (results_tmp3 rfl _ _ _) rfl ?_;exact⟨_,_,_,_,rfl,(aM (w0:=w) (e:=3) (size:=1) (m:=12) (news:=#[.int .i64 193,.int .i64 201,.int .i64 205,.int .i64 211,.int .i64 218,.int .i64 221,.int .i64 225,.int .i64 233,.int .i64 237,.int .i64 243,.int .i64 250,.int .i64 253]) rfl (by decide)).below hO.below zN,hO.rd,(zB.alloc zN _).trans (hO.below.mono (by simp))⟩
theorem sY (w:World):Calls Tryz.prog 148 #[.int .i64 2] w (iS w ([194,202,206,212,219,226,234,238,244,251],[65,69,73,79,85,97,101,105,111,117],770)):=by
 go_enter Tryz.func148,Tryz.ntmps148
 go_wp2_with fail
 refine(dL ⟨#[65,69,73,79,85,97,101,105,111,117]⟩ (by decide) _).mono ?_;rintro e w2 ⟨a2,c2,rfl,hO⟩;go_wp2;(try simp only[Exit.inBlock,Exit.then])
 refine bodyPost_ret (results_tmp3 rfl _ _ _) rfl ?_;exact⟨_,_,_,_,rfl,(aM (w0:=w) (e:=3) (size:=1) (m:=10) (news:=#[.int .i64 194,.int .i64 202,.int .i64 206,.int .i64 212,.int .i64 219,.int .i64 226,.int .i64 234,.int .i64 238,.int .i64 244,.int .i64 251]) rfl (by decide)).below hO.below zN,hO.rd,(zB.alloc zN _).trans (hO.below.mono (by simp))⟩
theorem rU (w:World):Calls Tryz.prog 148 #[.int .i64 3] w (iS w ([195,209,213,227,241,245],[65,78,79,97,110,111],771)):=by
 go_enter Tryz.func148,Tryz.ntmps148
 go_wp2_with fail
 refine(dL ⟨#[65,78,79,97,110,111]⟩ (by decide) _).mono ?_;rintro e w2 ⟨a2,c2,rfl,hO⟩;go_wp2;(try simp only[Exit.inBlock,Exit.then])
 refine bodyPost_ret (results_tmp3 rfl _ _ _) rfl ?_;exact⟨_,_,_,_,rfl,(aM (w0:=w) (e:=3) (size:=1) (m:=6) (news:=#[.int .i64 195,.int .i64 209,.int .i64 213,.int .i64 227,.int .i64 241,.int .i64 245]) rfl (by decide)).below hO.below zN,hO.rd,(zB.alloc zN _).trans (hO.below.mono (by simp))⟩
theorem sr (w:World):Calls Tryz.prog 148 #[.int .i64 4] w (iS w ([196,203,207,214,220,228,235,239,246,252,255],[65,69,73,79,85,97,101,105,111,117,121],776)):=by
 go_enter Tryz.func148,Tryz.ntmps148
 go_wp2_with fail
 refine(dL ⟨#[65,69,73,79,85,97,101,105,111,117,121]⟩ (by decide) _).mono ?_;rintro e w2 ⟨a2,c2,rfl,hO⟩;go_wp2;(try simp only[Exit.inBlock,Exit.then])
 refine bodyPost_ret (results_tmp3 rfl _ _ _) rfl ?_;exact⟨_,_,_,_,rfl,(aM (w0:=w) (e:=3) (size:=1) (m:=11) (news:=#[.int .i64 196,.int .i64 203,.int .i64 207,.int .i64 214,.int .i64 220,.int .i64 228,.int .i64 235,.int .i64 239,.int .i64 246,.int .i64 252,.int .i64 255]) rfl (by decide)).below hO.below zN,hO.rd,(zB.alloc zN _).trans (hO.below.mono (by simp))⟩
theorem rS (w:World):Calls Tryz.prog 148 #[.int .i64 5] w (iS w ([197,229],[65,97],778)):=by
 go_enter Tryz.func148,Tryz.ntmps148
 go_wp2_with fail
 refine(dL ⟨#[65,97]⟩ (by decide) _).mono ?_;rintro e w2 ⟨a2,c2,rfl,hO⟩;go_wp2;(try simp only[Exit.inBlock,Exit.then])
 refine bodyPost_ret (results_tmp3 rfl _ _ _) rfl ?_;exact⟨_,_,_,_,rfl,(aM (w0:=w) (e:=3) (size:=1) (m:=2) (news:=#[.int .i64 197,.int .i64 229]) rfl (by decide)).below hO.below zN,hO.rd,(zB.alloc zN _).trans (hO.below.mono (by simp))⟩
theorem sJ (w:World):Calls Tryz.prog 148 #[.int .i64 6] w (iS w ([199,231],[67,99],807)):=by
 go_enter Tryz.func148,Tryz.ntmps148
 go_wp2_with fail
 refine(dL ⟨#[67,99]⟩ (by decide) _).mono ?_;rintro e w2 ⟨a2,c2,rfl,hO⟩;go_wp2;(try simp only[Exit.inBlock,Exit.then])
 refine bodyPost_ret (results_tmp3 rfl _ _ _) rfl ?_;exact⟨_,_,_,_,rfl,(aM (w0:=w) (e:=3) (size:=1) (m:=2) (news:=#[.int .i64 199,.int .i64 231]) rfl (by decide)).below hO.below zN,hO.rd,(zB.alloc zN _).trans (hO.below.mono (by simp))⟩
theorem se (w:World):Calls Tryz.prog 148 #[.int .i64 7] w (iS w ([902,904,905,906,908,910,911],[913,917,919,921,927,933,937],769)):=by
 go_enter Tryz.func148,Tryz.ntmps148
 go_wp2;(try simp only[Exit.inBlock,Exit.then])
 refine bodyPost_ret (results_tmp3 rfl _ _ _) rfl ?_;exact⟨_,_,_,_,rfl,(aM (w0:=w) (e:=3) (size:=1) (m:=7) (news:=#[.int .i64 902,.int .i64 904,.int .i64 905,.int .i64 906,.int .i64 908,.int .i64 910,.int .i64 911]) rfl (by decide)).alloc _,gG (w0:=w.alloc (.cells #[.int .i64 902,.int .i64 904,.int .i64 905,.int .i64 906,.int .i64 908,.int .i64 910,.int .i64 911] 3)) (e:=3) (size:=1) (m:=7) (news:=#[.int .i64 913,.int .i64 917,.int .i64 919,.int .i64 921,.int .i64 927,.int .i64 933,.int .i64 937]) (by simp) rfl (by decide),(zB.alloc zN _).alloc (by simp) _⟩
theorem rG (w:World):Calls Tryz.prog 148 #[.int .i64 8] w (iS w ([940,941,942,943,972,973,974],[945,949,951,953,959,965,969],769)):=by
 go_enter Tryz.func148,Tryz.ntmps148
 go_wp2;(try simp only[Exit.inBlock,Exit.then])
 refine bodyPost_ret (results_tmp3 rfl _ _ _) rfl ?_;exact⟨_,_,_,_,rfl,(aM (w0:=w) (e:=3) (size:=1) (m:=7) (news:=#[.int .i64 940,.int .i64 941,.int .i64 942,.int .i64 943,.int .i64 972,.int .i64 973,.int .i64 974]) rfl (by decide)).alloc _,gG (w0:=w.alloc (.cells #[.int .i64 940,.int .i64 941,.int .i64 942,.int .i64 943,.int .i64 972,.int .i64 973,.int .i64 974] 3)) (e:=3) (size:=1) (m:=7) (news:=#[.int .i64 945,.int .i64 949,.int .i64 951,.int .i64 953,.int .i64 959,.int .i64 965,.int .i64 969]) (by simp) rfl (by decide),(zB.alloc zN _).alloc (by simp) _⟩
theorem rD (w:World):Calls Tryz.prog 148 #[.int .i64 9] w (iS w ([469,470],[220,252],772)):=by
 go_enter Tryz.func148,Tryz.ntmps148
 go_wp2;(try simp only[Exit.inBlock,Exit.then])
 refine bodyPost_ret (results_tmp3 rfl _ _ _) rfl ?_;exact⟨_,_,_,_,rfl,(aM (w0:=w) (e:=3) (size:=1) (m:=2) (news:=#[.int .i64 469,.int .i64 470]) rfl (by decide)).alloc _,gG (w0:=w.alloc (.cells #[.int .i64 469,.int .i64 470] 3)) (e:=3) (size:=1) (m:=2) (news:=#[.int .i64 220,.int .i64 252]) (by simp) rfl (by decide),(zB.alloc zN _).alloc (by simp) _⟩
theorem qS (w:World):Calls Tryz.prog 148 #[.int .i64 10] w (iS w ([7840,7841],[65,97],803)):=by
 go_enter Tryz.func148,Tryz.ntmps148
 go_wp2_with fail
 refine(dL ⟨#[65,97]⟩ (by decide) _).mono ?_;rintro e w2 ⟨a2,c2,rfl,hO⟩;go_wp2;(try simp only[Exit.inBlock,Exit.then])
 refine bodyPost_ret (results_tmp3 rfl _ _ _) rfl ?_;exact⟨_,_,_,_,rfl,(aM (w0:=w) (e:=3) (size:=1) (m:=2) (news:=#[.int .i64 7840,.int .i64 7841]) rfl (by decide)).below hO.below zN,hO.rd,(zB.alloc zN _).trans (hO.below.mono (by simp))⟩
theorem qs (w:World):Calls Tryz.prog 148 #[.int .i64 11] w (iS w ([7852,7853],[7840,7841],770)):=by
 go_enter Tryz.func148,Tryz.ntmps148
 go_wp2;(try simp only[Exit.inBlock,Exit.then])
 refine bodyPost_ret (results_tmp3 rfl _ _ _) rfl ?_;exact⟨_,_,_,_,rfl,(aM (w0:=w) (e:=3) (size:=1) (m:=2) (news:=#[.int .i64 7852,.int .i64 7853]) rfl (by decide)).alloc _,gG (w0:=w.alloc (.cells #[.int .i64 7852,.int .i64 7853] 3)) (e:=3) (size:=1) (m:=2) (news:=#[.int .i64 7840,.int .i64 7841]) (by simp) rfl (by decide),(zB.alloc zN _).alloc (by simp) _⟩
theorem re (w:World):Calls Tryz.prog 148 #[.int .i64 12] w (iS w ([8486,8491],[937,197],0)):=by
 go_enter Tryz.func148,Tryz.ntmps148
 go_wp2;(try simp only[Exit.inBlock,Exit.then])
 refine bodyPost_ret (results_tmp3 rfl _ _ _) rfl ?_;exact⟨_,_,_,_,rfl,(aM (w0:=w) (e:=3) (size:=1) (m:=2) (news:=#[.int .i64 8486,.int .i64 8491]) rfl (by decide)).alloc _,gG (w0:=w.alloc (.cells #[.int .i64 8486,.int .i64 8491] 3)) (e:=3) (size:=1) (m:=2) (news:=#[.int .i64 937,.int .i64 197]) (by simp) rfl (by decide),(zB.alloc zN _).alloc (by simp) _⟩
theorem tV (i:Nat)(r:lc)(h:tabI[i]? = some r)(w:World):Calls Tryz.prog 148 #[.int .i64 i] w (iS w r):=by
 match i,h with
 | 0,h=>cases h;exact sF w
 | 1,h=>cases h;exact rM w
 | 2,h=>cases h;exact sY w
 | 3,h=>cases h;exact rU w
 | 4,h=>cases h;exact sr w
 | 5,h=>cases h;exact rS w
 | 6,h=>cases h;exact sJ w
 | 7,h=>cases h;exact se w
 | 8,h=>cases h;exact rG w
 | 9,h=>cases h;exact rD w
 | 10,h=>cases h;exact qS w
 | 11,h=>cases h;exact qs w
 | 12,h=>cases h;exact re w
 | _+13,h=>simp[tabI] at h
theorem sT:∀(i:Nat) (r:lc),tabI[i]? = some r->r.1.length=r.2.1.length/\r.1.length<=12/\(r.2.2=0∨768<=r.2.2/\r.2.2<=900):=by
 intro i r h;have h2:∀r∈tabI,r.1.length=r.2.1.length/\r.1.length<=12/\(r.2.2=0∨768<=r.2.2/\r.2.2<=900):=by decide +kernel
 exact h2 r (List.mem_of_getElem? h)
theorem j1 (c:Int)(hh:44032<=c/\c<=55203)(w:World) :
  Calls Tryz.prog 146 #[.int .i64 c] w fun e w' => ∃g cp,e=.returned (.slice (some ⟨g,0,none⟩) (ap c).length cp)/\Own 3 1 w.heap.size w (.slice (some ⟨g,0,none⟩) (ap c).length cp) (ap c).length (aE (ap c)) w':=by
 have lit0:∀(W:World),Below w.heap.size w W->Own 3 1 w.heap.size w (.slice (some ⟨W.heap.size,0,none⟩) 0 0) 0 (aE []) (W.alloc (.cells #[] 3)):=fun W hb=>Own.lit hb hb.size #[] rfl (by decide)
 have lit1:∀(W:World) (x:Int),Below w.heap.size w W->Own 3 1 w.heap.size w (.slice (some ⟨W.heap.size,0,none⟩) 1 1) 1 (aE [x]) (W.alloc (.cells #[.int .i64 x] 3)):=fun W x hb=>Own.lit hb hb.size #[.int .i64 x] rfl (by decide)
 have lit2:∀(W:World) (x y:Int),Below w.heap.size w W->Own 3 1 w.heap.size w (.slice (some ⟨W.heap.size,0,none⟩) 2 2) 2 (aE [x,y]) (W.alloc (.cells #[.int .i64 x,.int .i64 y] 3)):=fun W x y hb=>Own.lit hb hb.size #[.int .i64 x,.int .i64 y] rfl (by decide)
 have L0:=zH lit0;have L1:=zH lit1;have L2:=zH lit2;clear lit0 lit1 lit2;have H:Hid (ap c=gX c):=zH (by unfold ap;rw[if_pos hh]);obtain⟨ha,hb⟩:=hh;obtain⟨n,hn⟩:∃n,n=c - 44032:=⟨_,rfl⟩;have hc:c=n+44032:=by omega
 by_cases ED:0<(c - 44032) % 28
 ·have H2:Hid (gX c = [4352+(c - 44032) / 588,4449+(c - 44032) % 588 / 28] ++ [4519+(c - 44032) % 28]):=zH (by unfold gX;rw[if_pos ED]);rw[←hn] at ED H2;subst hc;clear hn;have hq:0<=n / 588/\n / 588<=18:=by omega
  have hr:0<=n % 588/\n % 588<=587:=by omega
  have hx:=(L2.out w (4352+n / 588) (4449+n % 588 / 28) zB).alloc (.cells #[.int .i64 (4519+n % 28)] 3);have hR2:Rd ((w.alloc (.cells #[.int .i64 (4352+n / 588),.int .i64 (4449+n % 588 / 28)] 3)).alloc (.cells #[.int .i64 (4519+n % 28)] 3)) (some ⟨w.heap.size+1,0,none⟩) 1 1 1 (aE [4519+n % 28]):=gG (by simp) rfl (by decide);go_enter Tryz.func146,Tryz.ntmps146
  go_wp2_with (first|(go_at_call 51;(first|refine(am _ _ _ _ (by omega) (by omega)).mono ?_|refine(aB _ _ _ _ (by omega)).mono ?_);rintro e w' ⟨rfl,rfl⟩)|(at_builtin;go_loud (refine eu rfl _ _ 40 rfl 3 (.int .i64 0) 1 8 Tryz.underlying40 cA rfl (by decide) w.heap.size w _ _ _ (by rfl) (by exact hx) _ _ _ _ (by rfl) (by exact hR2) (e8 _) (by omega) (by unfold maxLen;omega) ?_);intro a2 c2 w2 hO2))
  go_ret;rw[H.out,H2.out];obtain⟨g,cp,he,_⟩:=hO2.shape1 (by omega);cases he;exact⟨_,_,rfl,hO2⟩
 ·have H2:Hid (gX c = [4352+(c - 44032) / 588,4449+(c - 44032) % 588 / 28]):=zH (by unfold gX;rw[if_neg ED];rfl);rw[←hn] at ED H2;subst hc;clear hn;have hq:0<=n / 588/\n / 588<=18:=by omega
  have hr:0<=n % 588/\n % 588<=587:=by omega
  have hx:=L2.out w (4352+n / 588) (4449+n % 588 / 28) zB;go_enter Tryz.func146,Tryz.ntmps146
  go_wp2_with (go_at_call 51;(first|refine(am _ _ _ _ (by omega) (by omega)).mono ?_|refine(aB _ _ _ _ (by omega)).mono ?_);rintro e w' ⟨rfl,rfl⟩)
  go_ret;rw[H.out,H2.out];exact⟨_,_,rfl,hx⟩
theorem j8 (c:Int)(hh:¬(44032<=c/\c<=55203))(hr:c<192∨8491<c)(w:World) :
  Calls Tryz.prog 146 #[.int .i64 c] w fun e w' => ∃g cp,e=.returned (.slice (some ⟨g,0,none⟩) (ap c).length cp)/\Own 3 1 w.heap.size w (.slice (some ⟨g,0,none⟩) (ap c).length cp) (ap c).length (aE (ap c)) w':=by
 have lit0:∀(W:World),Below w.heap.size w W->Own 3 1 w.heap.size w (.slice (some ⟨W.heap.size,0,none⟩) 0 0) 0 (aE []) (W.alloc (.cells #[] 3)):=fun W hb=>Own.lit hb hb.size #[] rfl (by decide)
 have lit1:∀(W:World) (x:Int),Below w.heap.size w W->Own 3 1 w.heap.size w (.slice (some ⟨W.heap.size,0,none⟩) 1 1) 1 (aE [x]) (W.alloc (.cells #[.int .i64 x] 3)):=fun W x hb=>Own.lit hb hb.size #[.int .i64 x] rfl (by decide)
 have lit2:∀(W:World) (x y:Int),Below w.heap.size w W->Own 3 1 w.heap.size w (.slice (some ⟨W.heap.size,0,none⟩) 2 2) 2 (aE [x,y]) (W.alloc (.cells #[.int .i64 x,.int .i64 y] 3)):=fun W x y hb=>Own.lit hb hb.size #[.int .i64 x,.int .i64 y] rfl (by decide)
 have L0:=zH lit0;have L1:=zH lit1;have L2:=zH lit2;clear lit0 lit1 lit2;have H:Hid (ap c = []):=zH (pc c hr hh);have hx:=L0.out w zB;have hh':c<44032∨55203<c:=by omega
 go_enter Tryz.func146,Tryz.ntmps146
 go_wp2_with (go_at_call 51;(first|refine(am _ _ _ _ (by omega) (by omega)).mono ?_|refine(aB _ _ _ _ (by omega)).mono ?_);rintro e w' ⟨rfl,rfl⟩)
 go_ret;rw[H.out];exact⟨_,_,rfl,hx⟩
theorem kn (c:Int)(hh:¬(44032<=c/\c<=55203))(hr1:192<=c)(hr2:c<=8491)(w:World) :
  Calls Tryz.prog 146 #[.int .i64 c] w fun e w' => ∃g cp,e=.returned (.slice (some ⟨g,0,none⟩) (ap c).length cp)/\Own 3 1 w.heap.size w (.slice (some ⟨g,0,none⟩) (ap c).length cp) (ap c).length (aE (ap c)) w':=by
 have lit0:∀(W:World),Below w.heap.size w W->Own 3 1 w.heap.size w (.slice (some ⟨W.heap.size,0,none⟩) 0 0) 0 (aE []) (W.alloc (.cells #[] 3)):=fun W hb=>Own.lit hb hb.size #[] rfl (by decide)
 have lit1:∀(W:World) (x:Int),Below w.heap.size w W->Own 3 1 w.heap.size w (.slice (some ⟨W.heap.size,0,none⟩) 1 1) 1 (aE [x]) (W.alloc (.cells #[.int .i64 x] 3)):=fun W x hb=>Own.lit hb hb.size #[.int .i64 x] rfl (by decide)
 have lit2:∀(W:World) (x y:Int),Below w.heap.size w W->Own 3 1 w.heap.size w (.slice (some ⟨W.heap.size,0,none⟩) 2 2) 2 (aE [x,y]) (W.alloc (.cells #[.int .i64 x,.int .i64 y] 3)):=fun W x y hb=>Own.lit hb hb.size #[.int .i64 x,.int .i64 y] rfl (by decide)
 have L0:=zH lit0;have L1:=zH lit1;have L2:=zH lit2;clear lit0 lit1 lit2;have H:Hid (ap c=(asc (eX tabI) c).getD []):=zH (by unfold ap;rw[if_neg hh]);clear hh;go_enter Tryz.func146,Tryz.ntmps146
 go_wp2_with (go_at_call 51;(first|refine(am _ _ _ _ (by omega) (by omega)).mono ?_|refine(aB _ _ _ _ (by omega)).mono ?_);rintro e w' ⟨rfl,rfl⟩)
 go_loopg [36] 13 (fun gg i wr => ∃k:Nat,k+gg=13/\i=.int .i64 k/\asc (eX (tabI.drop k)) c=asc (eX tabI) c/\Below w.heap.size w wr)
 case atStart=>exact⟨0,by omega,rfl,rfl,zB⟩
 case round =>
  obtain⟨k,hk,rfl,Dm,hB⟩:=hrel;have HA:=zH Dm;clear Dm;by_cases hlt:k<13
  ·obtain⟨r,hrr⟩:∃r,tabI[k]? = some r:=⟨_,List.getElem?_eq_getElem (by exact hlt)⟩;have hD:=zH (lW tabI k r hrr c);have hT:=sT k r hrr;have Gc:=zH (tV k r hrr);obtain⟨f,l,m⟩:=r;simp only at hT Gc;obtain⟨hT1,MH,M6⟩:=hT;have HT1:=zH hT1;clear hrr;have HT2:=zH MH;go_wp2_with fail
   refine(Gc.out _).mono ?_;rintro e w2 ⟨a1,c1,a2,c2,rfl,MI,hR2,hB2⟩;simp only at MI hR2 ⊢;have hB3:=hB.trans (hB2.mono hB.size);have HB3:=zH hB3;clear hB3 hB hB2 Gc MH hT1;have hfl:f.length<=12:=HT2.out;go_wp2_with fail
   refine(qQ c _ _ _ f _ MI (by omega)).mono ?_;rintro e w3 ⟨rfl,hI⟩;rcases hI with ⟨q,hq,rfl,hI1,hI2⟩|⟨rfl,hI⟩
   ·have HQ:=zH (mu f l m c q hq HT1.out hI1 hI2);obtain⟨b,off,rfl,hbs,hc⟩:=hR2.at' (by have:=HT1.out;omega);have hc1:=hc q (by simp;have:=HT1.out;omega);rw[br l q (by have:=HT1.out;omega)] at hc1;clear hc hI1 hI2 MI hR2;have PM:q<l.length:=by have:=HT1.out;omega
    have Hres:Hid (ap c=if 0<m then [l[q],m] else [l[q]]):=zH (by rw[H.out,←HA.out,hD.out,HQ.out];rfl);clear HA hD HQ H;rcases M6 with rfl|⟨M6,PN⟩
    ·go_wp2;go_ret;rw[show ap c = [l[q]] from by rw[Hres.out];rfl];exact⟨_,_,rfl,L1.out _ _ HB3.out⟩
    ·go_wp2;go_ret;rw[show ap c = [l[q],m] from by rw[Hres.out,if_pos (by omega)]];exact⟨_,_,rfl,L2.out _ _ _ HB3.out⟩
   ·have HQ:=zH (kf f l m c hI);clear hI MI hR2;go_wp2;go_roundg (gk - 1)
    case measure=>omega
    case rel=>exact⟨k+1,by omega,by go_num,by rw[←HA.out,hD.out,HQ.out];rfl,HB3.out⟩
  ·have hkl:k=13:=by omega
   subst hkl;have Hres:Hid (ap c = []):=zH (by rw[H.out,←HA.out];rfl);have hx:=L0.out _ hB;go_wp2;go_ret;rw[Hres.out];exact⟨_,_,rfl,hx⟩
theorem k9 (c:Int)(w:World) :
  Calls Tryz.prog 146 #[.int .i64 c] w fun e w' => ∃g cp,e=.returned (.slice (some ⟨g,0,none⟩) (ap c).length cp)/\Own 3 1 w.heap.size w (.slice (some ⟨g,0,none⟩) (ap c).length cp) (ap c).length (aE (ap c)) w':=by
 by_cases hh:44032<=c/\c<=55203
 ·exact j1 c hh w
 ·by_cases hr:c<192∨8491<c
  ·exact j8 c hh hr w
  ·exact kn c hh (by omega) (by omega) w
end Go.Proofs.YtlkfabkkjfmnmaaGreatDoor
