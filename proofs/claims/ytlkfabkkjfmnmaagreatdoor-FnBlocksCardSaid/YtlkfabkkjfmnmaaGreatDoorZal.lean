import Derived.Test.YtlkfabkkjfmnmaaGreatDoorZaj
import Derived.Test.YtlkfabkkjfmnmaaGreatDoorZak
namespace Go.Proofs.YtlkfabkkjfmnmaaGreatDoor
open Go.RowKit
set_option linter.all false
set_option maxRecDepth 1000000
set_option maxHeartbeats 6000000
structure InoL where
 id:Int
 kind:Int
 links:Int
 data:ByteArray
 ents:List EntL
def atK (l:List InoL)(id:Int):Nat:=l.findIdx (fun x=>x.id==id)
def atF (l:List InoL)(id:Int):Int:=if atK l id<l.length then (atK l id:Int) else -1
theorem rV (l:List InoL)(id:Int)(h:atK l id<l.length):l[atK l id].id=id:=by
 have h2:(l[atK l id].id==id)=true:=List.findIdx_getElem (p:=fun x:InoL=>x.id==id) (xs:=l) (w:=h);exact eq_of_beq h2
theorem cL (l:List InoL)(id:Int) : -1<=atF l id/\atF l id<l.length:=by
 unfold atF;split <;> omega
theorem iO (l:List InoL)(id:Int)(k:Nat)(hk:k<l.length)(h:l[k].id=id)(hno:∀j (hj:j<k),l[j].id≠id):atF l id=k:=by
 have e:atK l id=k:=by
  unfold atK;rw[List.findIdx_eq hk];exact⟨by simpa using h,fun j hj=>by simpa using hno j hj⟩
 unfold atF;rw[e,if_pos hk]
theorem na (l:List InoL)(id:Int)(hno:∀x∈l,x.id≠id):atF l id = -1:=by
 have e:atK l id=l.length:=by
  unfold atK;rw[List.findIdx_eq_length];intro x hx;simpa using hno x hx
 unfold atF;rw[e,if_neg (by omega)]
theorem pU (l:List InoL)(id:Int):0<=atF l id ↔ ∃x∈l,x.id=id:=by
 constructor
 ·intro h;unfold atF at h;split at h
  ·rename_i hk
   exact⟨_,List.getElem_mem hk,rV l id hk⟩
  ·omega
 ·rintro ⟨x,hx,e⟩;by_cases hall:∀y∈l,y.id≠id
  ·exact absurd e (hall x hx)
  ·have hk:atK l id<l.length:=by
    unfold atK;rw[List.findIdx_lt_length];exact⟨x,hx,by simpa using e⟩
   unfold atF;rw[if_pos hk];omega
theorem gL (l:List InoL)(id:Int)(k:Nat)(h:atF l id=k):∃hk:k<l.length,l[k].id=id:=by
 have hk:atK l id<l.length:=by
  unfold atF at h;split at h
  ·assumption
  ·omega
 have e:atK l id=k:=by unfold atF at h;rw[if_pos hk] at h;omega
 subst e;exact⟨hk,rV l id hk⟩
def bT (es:List EntL)(id:Int):Nat:=es.countP (fun e=>e.id==id)
def aD (l:List InoL)(id:Int):Nat:=(l.map (fun x=>bT x.ents id)).sum
theorem jd (es:List EntL)(id:Int)(k:Nat)(h:k<es.length):bT (es.take (k+1)) id=bT (es.take k) id+(if es[k].id=id then 1 else 0):=by
 unfold bT;rw[List.take_succ_eq_append_getElem h,List.countP_append];by_cases e:es[k].id=id
 ·simp[e]
 ·simp[e]
theorem p7 (es:List EntL)(id:Int):bT es id<=es.length:=List.countP_le_length
theorem jG (l:List InoL)(id:Int)(k:Nat)(h:k<l.length):aD (l.take (k+1)) id=aD (l.take k) id+bT l[k].ents id:=by
 unfold aD;rw[List.take_succ_eq_append_getElem h,List.map_append,List.sum_append];simp
def cH (l:List InoL)(e:EntL):Bool := !(e.id==1)&&decide (0<=atF l e.id)
def bJ (l:List InoL)(x:InoL):Bool:=
 if x.kind=1 then decide (x.ents.length=0)&&(decide (x.data.size<=20)&&decide (x.links=(aD l x.id:Int)))
 else decide (x.kind=2)&&(decide (x.data.size=0)&&(decide (x.links=1)&&(du x.ents&&((decide (x.id=1) || decide (aD l x.id=1))&&x.ents.all (cH l)))))
def gy:InoL:=⟨0,0,0,ByteArray.empty,[]⟩
def dV (next:Int)(l:List InoL)(k:Nat):Bool:=
 decide (1<=(l.getD k gy).id/\(l.getD k gy).id<=next - 1)&&((k==0 || decide ((l.getD (k - 1) gy).id<(l.getD k gy).id))&&bJ l (l.getD k gy))
def eE (next:Int)(l:List InoL)(k:Nat):Bool:=(List.range k).all (dV next l)
def fe (next:Int)(l:List InoL):Bool:=decide (2<=next/\next<=100000)&&(decide (1<=l.length/\l.length<=16)&&(decide ((l.getD 0 gy).id=1)&&decide ((l.getD 0 gy).kind=2)))
inductive Bel (l:List InoL) (r:Int):Int->Prop
 | kid (k:Nat) (hk:k<l.length) (ha:atF l r=k) (e:EntL) (he:e∈l[k].ents):Bel l r e.id
 | more (y:Int) (hy:Bel l r y) (k:Nat) (hk:k<l.length) (ha:atF l y=k) (e:EntL) (he:e∈l[k].ents):Bel l r e.id
open Classical in
noncomputable def fP (l:List InoL):Bool:=decide (∀x∈l.tail,Bel l 1 x.id)
noncomputable def bQ (next:Int)(l:List InoL):Bool:=fe next l&&(eE next l l.length&&fP l)
theorem kR (next:Int)(l:List InoL):eE next l 0=true:=rfl
theorem kI (next:Int)(l:List InoL)(k:Nat):eE next l (k+1)=(eE next l k&&dV next l k):=by unfold eE;rw[List.range_succ,List.all_append];simp
theorem rT (next:Int)(l:List InoL)(k n:Nat)(h:k<n)(e:dV next l k=false):eE next l n=false:=by
 unfold eE;rw[List.all_eq_false];exact⟨k,List.mem_range.2 h,by rw[e];decide⟩
theorem iP (next:Int)(l:List InoL)(n:Nat)(h:eE next l n=true)(k:Nat)(hk:k<n):dV next l k=true:=by
 unfold eE at h;exact List.all_eq_true.1 h k (List.mem_range.2 hk)
theorem eT (l:List InoL)(k:Nat)(h:k<l.length):l.getD k gy=l[k]:=by rw[List.getD_eq_getElem?_getD,List.getElem?_eq_getElem h];rfl
theorem fK (next:Int)(l:List InoL)(k:Nat)(h:k<l.length):dV next l k=(decide (1<=l[k].id/\l[k].id<=next - 1)&&((k==0 || decide ((l.getD (k - 1) gy).id<l[k].id))&&bJ l l[k])):=by
 unfold dV;rw[eT l k h]
theorem kP {next:Int}{l:List InoL}{k:Nat}(h:k<l.length)(e:dV next l k=true):bJ l l[k]=true:=by
 rw[fK next l k h] at e;simp only[Bool.and_eq_true] at e;exact e.2.2
theorem qE {next:Int}{l:List InoL}{k:Nat}(h:k+1<l.length)(e:dV next l (k+1)=true):l[k].id<l[k+1].id:=by
 rw[fK next l (k+1) h] at e;simp only[Bool.and_eq_true,Bool.or_eq_true,decide_eq_true_eq,Nat.add_sub_cancel] at e;rcases e.2.1 with h0|h0
 ·simp at h0
 ·rwa [eT l k (by omega)] at h0
theorem sh {next:Int}{l:List InoL}(h:eE next l l.length=true):∀(j i:Nat) (hi:i<j) (hj:j<l.length),l[i].id<l[j].id:=by
 intro j;induction j with
 | zero=>intro i hi;omega
 | succ j ih =>
  intro i hi hj;have h1:=qE hj (iP next l _ h (j+1) hj);by_cases e:i=j
  ·subst e;exact h1
  ·exact Int.lt_trans (ih i (by omega) (by omega)) h1
theorem tp {next:Int}{l:List InoL}(h:eE next l l.length=true)(k:Nat)(hk:k<l.length):atF l l[k].id=k:=
 iO l _ k hk rfl (fun j hj e=>by have:=sh h k j hj hk;omega)
theorem o7 {next:Int}{l:List InoL}(h:eE next l l.length=true):∀x∈l,∀e∈x.ents,0<=atF l e.id:=by
 intro x hx e he;obtain⟨k,hk,rfl⟩:=List.mem_iff_getElem.1 hx;have hi:=kP hk (iP next l _ h k hk);unfold bJ at hi;split at hi
 ·simp only[Bool.and_eq_true,decide_eq_true_eq] at hi;have:l[k].ents = []:=List.eq_nil_of_length_eq_zero hi.1;rw[this] at he;cases he
 ·simp only[Bool.and_eq_true,decide_eq_true_eq,List.all_eq_true] at hi;have:=hi.2.2.2.2.2 e he;unfold cH at this;simp only[Bool.and_eq_true,decide_eq_true_eq] at this;exact this.2
theorem jb {l:List InoL}{r y:Int}(hk:∀x∈l,∀e∈x.ents,0<=atF l e.id)(h:Bel l r y):0<=atF l y:=by
 cases h with
 | kid k hk2 ha e he=>exact hk _ (List.getElem_mem hk2) e he
 | more y hy k hk2 ha e he=>exact hk _ (List.getElem_mem hk2) e he
theorem rY {l:List InoL}{r y:Int}(hy:y=r∨Bel l r y)(k:Nat)(hk:k<l.length)(ha:atF l y=k)(e:EntL)(he:e∈l[k].ents):Bel l r e.id:=by
 rcases hy with rfl|hy
 ·exact .kid k hk ha e he
 ·exact .more y hy k hk ha e he
theorem oY {l:List InoL}{r:Int}(out:List Int)(hs:∀y∈out,Bel l r y)
  (hc:∀y,(y=r∨y∈out)->∀k (hk:k<l.length),atF l y=(k:Int)->∀e∈l[k].ents,e.id∈out):∀y,y∈out ↔ Bel l r y:=by
 intro y;refine⟨hs y,fun h=>?_⟩;induction h with
 | kid k hk ha e he=>exact hc r (.inl rfl) k hk ha e he
 | more y _ k hk ha e he ih=>exact hc y (.inr ih) k hk ha e he
theorem rh:∀(a b:List Int),a.Nodup->(∀y∈a,y∈b)->a.length<=b.length:=by
 intro a;induction a with
 | nil=>intro b _ _;exact Nat.zero_le _
 | cons x a ih =>
  intro b hn hs;rw[List.nodup_cons] at hn;have hx:x∈b:=hs x List.mem_cons_self;have h1:=ih (b.erase x) hn.2 (fun y hy=>(List.mem_erase_of_ne (fun e=>hn.1 (by rw[←e];exact hy))).2 (hs y (List.mem_cons_of_mem _ hy)));rw[List.length_erase_of_mem hx] at h1;have:0<b.length:=List.length_pos_of_mem hx;rw[List.length_cons];omega
theorem lI (l:List InoL)(out:List Int)(hn:out.Nodup)(h:∀y∈out,0<=atF l y):out.length<=l.length:=by
 have hsub:∀y∈out,y∈l.map (·.id):=fun y hy=>by
  obtain⟨x,hx,e⟩:=(pU l y).1 (h y hy);exact List.mem_map.2 ⟨x,hx,e⟩
 have:=rh out _ hn hsub;simpa using this
def mk (b:List Bool)(x:Nat):Bool:=b.getD x false
theorem sv (b:List Bool)(x y:Nat)(h:x<b.length):mk (b.set x true) y=(decide (x=y) || mk b y):=by
 unfold mk;rw[List.getD_eq_getElem?_getD,List.getD_eq_getElem?_getD,List.getElem?_set];by_cases e:x=y
 ·rw[if_pos e,if_pos h,decide_eq_true e];rfl
 ·rw[if_neg e,decide_eq_false e];rfl
theorem mt (b:List Bool)(x:Nat)(h:x<b.length):b[x]=mk b x:=by unfold mk;rw[List.getD_eq_getElem?_getD,List.getElem?_eq_getElem h];rfl
theorem sl (a b:List Bool)(hl:a.length=b.length)(h:∀x,mk a x=mk b x):a=b:=by
 refine List.ext_getElem hl fun i h1 h2=>?_
 rw[mt a i h1,mt b i h2,h i]
theorem sw (n x:Nat):mk (List.replicate n false) x=false:=by
 unfold mk;rw[List.getD_eq_getElem?_getD,List.getElem?_replicate];split <;> rfl
def jP (b:List Bool):Nat:=b.countP id
theorem rz:∀(a b:List Bool),a.length=b.length->(∀x,mk a x=true->mk b x=true)->jP a<=jP b/\(a≠b->jP a<jP b):=by
 intro a;induction a with
 | nil=>intro b hl _;cases b with
  | nil=>exact⟨zN,fun h=>absurd rfl h⟩
  | cons=>simp at hl
 | cons x a ih =>
  intro b hl hm;cases b with
  | nil=>simp at hl
  | cons y b =>
   obtain⟨h1,h2⟩:=ih b (by simpa using hl) (fun k hk=>by have:=hm (k+1) (by simpa[mk] using hk);simpa[mk] using this);have h0:=hm 0;unfold jP at *;rw[List.countP_cons,List.countP_cons];cases x with
   | true =>
    have hy:y=true:=by simpa[mk] using h0
    subst hy;refine⟨by simp;omega,fun hne=>?_⟩;have:=h2 (fun e=>hne (by rw[e]));simp;omega
   | false =>
    cases y with
    | true=>exact⟨by simp;omega,fun _=>by simp;omega⟩
    | false =>
     refine⟨by simp;omega,fun hne=>?_⟩;have:=h2 (fun e=>hne (by rw[e]));simp;omega
theorem uA (b:List Bool):jP b<=b.length:=List.countP_le_length
def Kid (l:List InoL)(i x:Nat):Prop := ∃h:i<l.length,∃e∈l[i].ents,atF l e.id=(x:Int)
def Clo (l:List InoL)(inn opn:List Bool):Prop := ∀i,mk opn i=true->∀x,Kid l i x->mk inn x=true/\mk opn x=true
structure Bst (l:List InoL)(r:Int)(a0:Nat)(inn opn:List Bool):Prop where
 li:inn.length=l.length
 lo:opn.length=l.length
 si:∀x,mk inn x=true->∃y,Bel l r y/\atF l y=(x:Int)
 so:∀x,mk opn x=true->x=a0∨∃y,Bel l r y/\atF l y=(x:Int)
 o0:mk opn a0=true
structure Rnd (l:List InoL)(r:Int)(a0:Nat)(inn0 opn0:List Bool)(i k:Nat)(inn opn:List Bool):Prop where
 st:Bst l r a0 inn opn
 mi:∀x,mk inn0 x=true->mk inn x=true
 mo:∀x,mk opn0 x=true->mk opn x=true
 dn:∀j,j<i->mk opn0 j=true->∀x,Kid l j x->mk inn x=true/\mk opn x=true
 here:k=0∨mk opn i=true
 hd:∀m,m<k->∀(h:i<l.length) (hm:m<l[i].ents.length) (x:Nat),atF l l[i].ents[m].id=(x:Int)->mk inn x=true/\mk opn x=true
 cl:Clo l inn0 opn0->inn=inn0/\opn=opn0
 l0:inn0.length=l.length/\opn0.length=l.length
theorem qN {l:List InoL}{r:Int}{a0:Nat}{inn opn:List Bool}(h:Bst l r a0 inn opn):Rnd l r a0 inn opn 0 0 inn opn:=
 ⟨h,fun _ h=>h,fun _ h=>h,fun _ h=>by omega,.inl rfl,fun _ h=>by omega,fun _=>⟨rfl,rfl⟩,⟨h.li,h.lo⟩⟩
theorem rp {l:List InoL}{r:Int}{a0:Nat}{inn0 opn0 inn opn:List Bool}{i k:Nat}(ha:atF l r=(a0:Int))(h:Rnd l r a0 inn0 opn0 i k inn opn)(hi:i<l.length)(hk:k<l[i].ents.length)(ho:mk opn i=true)
  (x:Nat) (hx:atF l l[i].ents[k].id=(x:Int)):Rnd l r a0 inn0 opn0 i (k+1) (inn.set x true) (opn.set x true):=by
 obtain⟨⟨li,lo,si,so,o0⟩,mi,mo,dn,_,hd,cl,l0⟩:=h;have hxl:x<l.length:=by have:=(cL l l[i].ents[k].id).2;omega
 have hbel:∃y,Bel l r y/\atF l y=(x:Int):=by
  refine⟨l[i].ents[k].id,?_,hx⟩;rcases so i ho with e|⟨y,hy,hy2⟩
  ·exact .kid i hi (by rw[ha,e]) _ (List.getElem_mem hk)
  ·exact .more y hy i hi hy2 _ (List.getElem_mem hk)
 have g:∀b:List Bool,b.length=l.length->∀y,mk (b.set x true) y=(decide (x=y) || mk b y):=fun b hb y=>sv b x y (by omega)
 have up:∀b:List Bool,b.length=l.length->∀y,mk b y=true->mk (b.set x true) y=true:=fun b hb y hy=>by rw[g b hb y,hy,Bool.or_true]
 have dn':∀(b:List Bool),b.length=l.length->∀y,mk (b.set x true) y=true->x=y∨mk b y=true:=fun b hb y hy=>by
  rw[g b hb y] at hy;simpa using hy
 refine⟨⟨by simpa using li,by simpa using lo,fun y hy=>?_,fun y hy=>?_,up _ lo _ o0⟩,fun y hy=>up _ li _ (mi y hy),fun y hy=>up _ lo _ (mo y hy),fun j hj hj2 y hy=>?_,.inr (up _ lo _ ho),fun m hm h1 h2 y hy=>?_,fun hc=>?_,l0⟩
 ·rcases dn' _ li y hy with e|e
  ·rw[←e];exact hbel
  ·exact si y e
 ·rcases dn' _ lo y hy with e|e
  ·rw[←e];exact .inr hbel
  ·exact so y e
 ·have:=dn j hj hj2 y hy;exact⟨up _ li _ this.1,up _ lo _ this.2⟩
 ·by_cases e:m=k
  ·subst e;have e2:x=y:=by have:=hx.symm.trans hy;omega
   subst e2;exact⟨by rw[g _ li];simp,by rw[g _ lo];simp⟩
  ·have:=hd m (by omega) h1 h2 y hy;exact⟨up _ li _ this.1,up _ lo _ this.2⟩
 ·obtain⟨e1,e2⟩:=cl hc;subst e1 e2;have:=hc i ho x ⟨hi,_,List.getElem_mem hk,hx⟩;constructor
  ·refine sl _ _ (by simp) fun y=>?_
   rw[g _ li];by_cases e:x=y
   ·subst e;rw[this.1];simp
   ·simp[e]
  ·refine sl _ _ (by simp) fun y=>?_
   rw[g _ lo];by_cases e:x=y
   ·subst e;rw[this.2];simp
   ·simp[e]
theorem sc {l:List InoL}{r:Int}{a0:Nat}{inn0 opn0 inn opn:List Bool}{i k:Nat}(h:Rnd l r a0 inn0 opn0 i k inn opn)(hi:i<l.length)(hk:k<l[i].ents.length)(ho:mk opn i=true)
  (hx:atF l l[i].ents[k].id<0):Rnd l r a0 inn0 opn0 i (k+1) inn opn:=by
 refine⟨h.st,h.mi,h.mo,h.dn,.inr ho,fun m hm h1 h2 y hy=>?_,h.cl,h.l0⟩;by_cases e:m=k
 ·subst e;omega
 ·exact h.hd m (by omega) h1 h2 y hy
theorem sQ {l:List InoL}{r:Int}{a0:Nat}{inn0 opn0 inn opn:List Bool}{i k:Nat}(h:Rnd l r a0 inn0 opn0 i k inn opn)(hi:i<l.length)(hk:mk opn i=false∨l[i].ents.length<=k):Rnd l r a0 inn0 opn0 (i+1) 0 inn opn:=by
 refine⟨h.st,h.mi,h.mo,fun j hj hj2 x hx=>?_,.inl rfl,fun m hm=>by omega,h.cl,h.l0⟩;by_cases e:j=i
 ·subst e;rcases hk with hk|hk
  ·rw[h.mo j hj2] at hk;cases hk
  ·obtain⟨h1,e,he,hx⟩:=hx;obtain⟨m,hm,rfl⟩:=List.mem_iff_getElem.1 he;exact h.hd m (by omega) h1 hm x hx
 ·exact h.dn j (by omega) hj2 x hx
theorem tU {l:List InoL}{r:Int}{a0:Nat}{inn0 opn0 inn opn:List Bool}{q:Nat}(h:Rnd l r a0 inn0 opn0 l.length 0 inn opn)(h0:Clo l inn0 opn0∨q<=jP opn0):Clo l inn opn∨q+1<=jP opn:=by
 by_cases e:opn0=opn
 ·left
  intro i hi x hx;rw[←e] at hi;exact h.dn i hx.1 hi x hx
 ·rcases h0 with h0|h0
  ·exact absurd (h.cl h0).2.symm e
  ·right
   have:=(rz opn0 opn (by rw[h.st.lo,h.l0.2]) h.mo).2 e;omega
theorem qi (l:List InoL)(r:Int)(a0:Nat)(ha:atF l r=(a0:Int)):Bst l r a0 (List.replicate l.length false) ((List.replicate l.length false).set a0 true)/\1<=jP ((List.replicate l.length false).set a0 true):=by
 have hl:a0<l.length:=by have:=(cL l r).2;omega
 have hm:∀x,mk ((List.replicate l.length false).set a0 true) x=decide (a0=x):=fun x=>by rw[sv _ _ _ (by simpa using hl),sw,Bool.or_false]
 refine⟨⟨by simp,by simp,fun x hx=>(by rw[sw] at hx;exact absurd hx (by decide)),fun x hx=>?_,by rw[hm];simp⟩,?_⟩
 ·rw[hm] at hx;left;simpa using (of_decide_eq_true hx).symm
 ·unfold jP;rw[Nat.one_le_iff_ne_zero];intro h0;rw[List.countP_eq_zero] at h0;have:=h0 true (List.mem_iff_getElem.2 ⟨a0,by simpa using hl,by simp⟩);exact this rfl
theorem tK {l:List InoL}{r:Int}{a0:Nat}{inn opn:List Bool}(ha:atF l r=(a0:Int))(h:Bst l r a0 inn opn)(hc:Clo l inn opn∨l.length+1<=jP opn):∀x,mk inn x=true ↔ ∃y,Bel l r y/\atF l y=(x:Int):=by
 have hc:Clo l inn opn:=by
  rcases hc with hc|hc
  ·exact hc
  ·have:=uA opn;rw[h.lo] at this;omega
 have all:∀y,Bel l r y->∀x:Nat,atF l y=(x:Int)->mk inn x=true/\mk opn x=true:=by
  intro y hy;induction hy with
  | kid k hk hak e he=>exact fun x hx=>hc k (by have:k=a0:=(by omega);rw[this];exact h.o0) x ⟨hk,e,he,hx⟩
  | more y _ k hk hak e he ih=>exact fun x hx=>hc k (ih k hak).2 x ⟨hk,e,he,hx⟩
 exact fun x=>⟨h.si x,fun ⟨y,hy,hx⟩=>(all y hy x hx).1⟩
theorem mr {next:Int}{l:List InoL}(hr:eE next l l.length=true)(inn:List Bool)(hm:∀x,mk inn x=true ↔ ∃y,Bel l 1 y/\atF l y=(x:Int)):fP l=true ↔ ∀x,1<=x->x<l.length->mk inn x=true:=by
 unfold fP;rw[@decide_eq_true_iff _ (_)];constructor
 ·intro h x h1 h2;rw[hm x];refine⟨l[x].id,h _ ?_,tp hr x h2⟩;rw[List.mem_iff_getElem];exact⟨x - 1,by rw[List.length_tail];omega,by rw[List.getElem_tail];congr 1;omega⟩
 ·intro h y hy;obtain⟨k,hk,rfl⟩:=List.mem_iff_getElem.1 hy;rw[List.length_tail] at hk;rw[List.getElem_tail];obtain⟨z,hz,hz2⟩:=(hm (k+1)).1 (h (k+1) (by omega) (by omega));obtain⟨_,e⟩:=gL l z (k+1) hz2;rw[e];exact hz
theorem oS {l:List InoL}(out:List Int)(h:∀y,y∈out ↔ Bel l 1 y):fP l=true ↔ ∀x∈l.tail,x.id∈out:=by
 unfold fP;rw[@decide_eq_true_iff _ (_)];exact⟨fun g x hx=>(h _).2 (g x hx),fun g x hx=>(h _).1 (g x hx)⟩
structure InoP where
 x:InoL
 ad:Option Addr
 cap:Nat
def in1 (y:InoP):List Value:=[.int .i64 y.x.id,.int .i64 y.x.kind,.int .i64 y.x.links,.string y.x.data,.slice y.ad y.x.ents.length y.cap]
def ins (l:List InoP):List Value:=l.flatMap in1
theorem ez (y:InoP):(in1 y).length=5:=rfl
@[simp] theorem oI (l:List InoP):(ins l).length=l.length*5:=gn in1 5 ez l
theorem fI (a b:List InoP):ins (a++b)=ins a++ins b:=by simp[ins]
theorem jS (l:List InoP)(k:Nat)(h:k<l.length)(j:Nat)(hj:j<5):(ins l)[k*5+j]'(by simp;omega)=(in1 l[k])[j]'(by rw[ez];exact hj):=by
 have:=nE in1 5 ez l k j h hj;rw[←ins,List.getElem?_eq_getElem (by simp;omega),List.getElem?_eq_getElem (by rw[ez];exact hj)] at this;exact Option.some.inj this
def VolRd (w:World)(a:Option Addr)(n cap:Nat)(l:List InoL):Prop:=
 ∃m:List InoP,m.map (·.x)=l/\Rd w a n cap 5 (ins m)/\∀y∈m,Rd w y.ad y.x.ents.length y.cap 4 (ens y.x.ents)
theorem VolRd.below {B:Nat}{w w':World}{a:Option Addr}{n cap:Nat}{l:List InoL}(h:VolRd w a n cap l)(hb:Below B w w')(hB:w.heap.size<=B):VolRd w' a n cap l:=by
 obtain⟨m,e,h1,h2⟩:=h;exact⟨m,e,h1.below hb hB,fun y hy=>(h2 y hy).below hb hB⟩
theorem VolRd.step {w w':World}{a:Option Addr}{n cap:Nat}{l:List InoL}(h:VolRd w a n cap l)(hb:Below w.heap.size w w'):VolRd w' a n cap l:=h.below hb zN
theorem VolRd.alloc {w:World}{a:Option Addr}{n cap:Nat}{l:List InoL}(h:VolRd w a n cap l)(o:Obj):VolRd (w.alloc o) a n cap l:=
 h.below ((Below.refl w.heap.size w).alloc zN o) zN
theorem VolRd.drew {w:World}{a:Option Addr}{n cap:Nat}{l:List InoL}(h:VolRd w a n cap l):VolRd w.drew a n cap l:=
 h.below (Below.refl w.heap.size w).drew zN
theorem VolRd.len {w:World}{a:Option Addr}{n cap:Nat}{l:List InoL}(h:VolRd w a n cap l):l.length=n:=by
 obtain⟨m,rfl,h1,_⟩:=h;have:=h1.len;simp at this ⊢;omega
theorem VolRd.room {w:World}{a:Option Addr}{n cap:Nat}{l:List InoL}(h:VolRd w a n cap l):n<=cap/\cap<=9223372036854775807:=by
 obtain⟨m,rfl,h1,_⟩:=h;have:=h1.max;unfold maxLen at this;exact⟨h1.le,this⟩
theorem bF {w:World}{a:Option Addr}{n cap:Nat}{l:List InoL}(h:VolRd w a n cap l)(k:Nat)(hk:k<l.length) :
  ∃b off ad c,a=some ⟨b,off,none⟩/\b<w.heap.size/\w.cell? ⟨b,off+k*5,none⟩=some (.int .i64 l[k].id)/\w.cell? ⟨b,off+k*5+1,none⟩=some (.int .i64 l[k].kind)/\w.cell? ⟨b,off+k*5+2,none⟩=some (.int .i64 l[k].links)/\w.cell? ⟨b,off+k*5+3,none⟩=some (.string l[k].data)/\w.cell? ⟨b,off+k*5+4,none⟩=some (.slice ad l[k].ents.length c)/\Rd w ad l[k].ents.length c 4 (ens l[k].ents):=by
 have hn:=h.len;obtain⟨m,rfl,h1,h2⟩:=h;have hk2:k<m.length:=by simpa using hk
 obtain⟨b,off,e,hlt,hc⟩:=h1.at' (by omega);have g:∀j (hj:j<5),w.cell? ⟨b,off+k*5+j,none⟩=some ((in1 m[k])[j]'(by rw[ez];exact hj)):=fun j hj=>by
  rw[Nat.add_assoc,hc (k*5+j) (by simp;omega),jS m k hk2 j hj]
 refine⟨b,off,m[k].ad,m[k].cap,e,hlt,?_⟩;simp only[List.getElem_map];exact⟨g 0 (by omega),g 1 (by omega),g 2 (by omega),g 3 (by omega),g 4 (by omega),h2 _ (List.getElem_mem hk2)⟩
section
open Go.ChangeShapes Go.WideShapes Go.RowKit Go.Deep
section
variable {H:Type} {enc:TypeId × Value->H} {P:Program} {w:World} {spare:Nat->Bool} {held:Bool}
end
def InoP.blk (y:InoP):Option Nat:=(Value.slice y.ad y.x.ents.length y.cap).ownBlock
structure VolOwn (B:Nat)(W0:World)(a:Option Addr)(cap:Nat)(m:List InoP)(w:World):Prop where
 top:Own 45 5 B W0 (.slice a m.length cap) m.length (ins m) w
 sub:∀y∈m,Own 74 4 B W0 (.slice y.ad y.x.ents.length y.cap) y.x.ents.length (ens y.x.ents) w
 apart:m.Pairwise (fun y z => ∀k,y.blk=some k->z.blk≠some k)
theorem jX {w:World}{B B' e e':Nat}{W0 W0':World}{size size' n n':Nat}{v v':Value}{xs xs':List Value}(h:Own e size B W0 v n xs w)(h':Own e' size' B' W0' v' n' xs' w)(hne:e≠e'):∀k,v'.ownBlock=some k->v.ownBlock≠some k:=by
 intro k hk hk';rcases h.row.2 with ⟨rfl,_⟩|⟨g,cap,cur,rfl,_,hg,_⟩
 ·cases hk'
 ·rcases h'.row.2 with ⟨rfl,_⟩|⟨g',cap',cur',rfl,_,hg',_⟩
  ·cases hk
  ·cases hk;cases hk';rw[hg] at hg';simp only[Option.some.injEq,Obj.cells.injEq] at hg';exact hne hg'.2.1
theorem VolOwn.side {B:Nat}{W0 w:World}{a:Option Addr}{cap:Nat}{m:List InoP}(h:VolOwn B W0 a cap m w):∀y∈m,∀k,y.blk=some k->(Value.slice a m.length cap).ownBlock≠some k:=
 fun y hy=>jX h.top (h.sub y hy) (by decide)
theorem d7 {w:World}{B B':Nat}{e:TypeId}{size:Nat}{v:Value}{n:Nat}{xs:List Value}(h:w.ownsRow B e size v n xs)(hB:B'<=B):w.ownsRow B' e size v n xs:=by
 refine⟨h.1,?_⟩;rcases h.2 with hn|⟨g,cap,cur,e1,hg,rest⟩
 ·exact .inl hn
 ·exact .inr ⟨g,cap,cur,e1,Nat.le_trans hB hg,rest⟩
theorem VolOwn.kept {B:Nat}{W0 w w':World}{a:Option Addr}{cap:Nat}{m:List InoP}(h:VolOwn B W0 a cap m w)(hb:Below w.heap.size w w'):VolOwn B W0 a cap m w':=
 ⟨h.top.kept hb,fun y hy=>(h.sub y hy).kept hb,h.apart⟩
theorem VolOwn.alloc {B:Nat}{W0 w:World}{a:Option Addr}{cap:Nat}{m:List InoP}(h:VolOwn B W0 a cap m w)(o:Obj):VolOwn B W0 a cap m (w.alloc o):=
 h.kept (az w o)
theorem VolOwn.drew {B:Nat}{W0 w:World}{a:Option Addr}{cap:Nat}{m:List InoP}(h:VolOwn B W0 a cap m w):VolOwn B W0 a cap m w.drew:=
 h.kept zB.drew
theorem VolOwn.rd {B:Nat}{W0 w:World}{a:Option Addr}{cap:Nat}{m:List InoP}(h:VolOwn B W0 a cap m w):VolRd w a m.length cap (m.map (·.x)):=
 ⟨m,rfl,h.top.rd,fun y hy=>(h.sub y hy).rd⟩
theorem VolOwn.below {B:Nat}{W0 w:World}{a:Option Addr}{cap:Nat}{m:List InoP}(h:VolOwn B W0 a cap m w):Below B W0 w:=h.top.below
theorem VolOwn.self {B:Nat}{W0 w:World}{a:Option Addr}{cap:Nat}{m:List InoP}(h:VolOwn B W0 a cap m w):VolOwn B w a cap m w:=
 ⟨h.top.self,fun y hy=>(h.sub y hy).self,h.apart⟩
theorem bk {e:TypeId}{size B B':Nat}{W0 w W1:World}{v:Value}{n:Nat}{xs:List Value}(h:Own e size B W0 v n xs w)(hB:B'<=B)(hb:Below B' W1 W0)(_h0:B'<=W0.heap.size):Own e size B' W1 v n xs w:=
 ⟨d7 h.row hB,hb.trans (h.below.mono hB),Nat.le_trans hB h.base⟩
theorem iV (m:List InoP)(k:Nat)(h:k<m.length)(y:InoP) :
  (((((ins m).set (k*5) (.int .i64 y.x.id)).set (k*5+1) (.int .i64 y.x.kind)).set (k*5+2) (.int .i64 y.x.links)).set (k*5+3) (.string y.x.data)).set (k*5+4) (.slice y.ad y.x.ents.length y.cap)=ins (m.set k y):=by
 have hk:(ins (m.take k)).length=k*5:=by simp;omega
 have e1:m.set k y=m.take k++y::m.drop (k+1):=by rw[List.set_eq_take_append_cons_drop,if_pos h]
 have e2:ins m=ins (m.take k)++(in1 m[k]++ins (m.drop (k+1))):=by
  conv=>lhs;rw[←List.take_append_drop k m,List.drop_eq_getElem_cons h]
  rw[fI];rfl
 rw[e1,e2,fI,List.set_append_right _ _ (by omega),List.set_append_right _ _ (by omega),List.set_append_right _ _ (by omega),List.set_append_right _ _ (by omega),List.set_append_right _ _ (by omega),hk,Nat.sub_self,
  show k*5+1 - k*5=1 from by omega,show k*5+2 - k*5=2 from by omega,show k*5+3 - k*5=3 from by omega,show k*5+4 - k*5=4 from by omega]
 simp[ins,in1]
theorem VolOwn.put {B:Nat}{W0 w w':World}{g cap:Nat}{m:List InoP}(h:VolOwn B W0 (some ⟨g,0,none⟩) cap m w)(k:Nat)(y:InoP)
  (ht:Own 45 5 B W0 (.slice (some ⟨g,0,none⟩) m.length cap) m.length (ins (m.set k y)) w') (hg:w.grownBy w' (some g))
  (hy:Own 74 4 B W0 (.slice y.ad y.x.ents.length y.cap) y.x.ents.length (ens y.x.ents) w')
  (hn:∀i (hi:i<m.length),i≠k->∀q,m[i].blk=some q->y.blk≠some q):VolOwn B W0 (some ⟨g,0,none⟩) cap (m.set k y) w':=by
 have hB:=(h.top.blk g rfl).1;refine⟨by rw[List.length_set];exact ht,fun z hz=>?_,?_⟩
 ·obtain⟨i,hi,rfl⟩:=List.mem_iff_getElem.1 hz;rw[List.getElem_set];split
  ·exact hy
  ·have hi2:i<m.length:=by simpa using hi
   exact(h.sub m[i] (List.getElem_mem hi2)).other hg (fun q hq=>by cases hq;exact hB) (fun q hq e=>h.side m[i] (List.getElem_mem hi2) q hq e)
 ·rw[List.pairwise_iff_getElem];intro i j hi hj hij;rw[List.getElem_set,List.getElem_set];have hi2:i<m.length:=by simpa using hi
  have hj2:j<m.length:=by simpa using hj
  have hp:=List.pairwise_iff_getElem.1 h.apart i j hi2 hj2 hij;split
  ·split
   ·omega
   ·intro q hq e;exact hn j hj2 (by omega) q e hq
  ·split
   ·intro q hq;exact hn i hi2 (by omega) q hq
   ·exact hp
def au (a:Option Addr)(cap:Nat)(m:List InoP)(k:Nat):Prop:=(Value.slice a m.length cap).ownBlock=some k∨∃y∈m,y.blk=some k
theorem VolOwn.bl {B:Nat}{W0 w:World}{a:Option Addr}{cap:Nat}{m:List InoP}(h:VolOwn B W0 a cap m w)(k:Nat)(hk:au a cap m k):B<=k/\k<w.heap.size:=by
 rcases hk with hk|⟨y,hy,hk⟩
 ·exact h.top.blk k hk
 ·exact(h.sub y hy).blk k hk
theorem VolOwn.other {B:Nat}{W0 w w':World}{a:Option Addr}{cap:Nat}{m:List InoP}(h:VolOwn B W0 a cap m w){r:Option Nat}(hg:w.grownBy w' r)(hr:∀k,r=some k->B<=k)(hne:∀k,au a cap m k->r≠some k):VolOwn B W0 a cap m w':=
 ⟨h.top.other hg hr (fun k hk=>hne k (.inl hk)),fun y hy=>(h.sub y hy).other hg hr (fun k hk=>hne k (.inr ⟨y,hy,hk⟩)),h.apart⟩
theorem ae (w:World)(b j:Nat)(u:Value):w.grownBy (w.setCell ⟨b,j,none⟩ u) (some b):=
 ⟨rfl,rfl,rfl,by simp[World.setCell],fun k _ hk=>heap_setCell_other w ⟨b,j,none⟩ k u (fun e=>hk (by simp[e]))⟩
theorem VolOwn.far {B:Nat}{W0 w:World}{a:Option Addr}{cap:Nat}{m:List InoP}(h:VolOwn B W0 a cap m w)(b j:Nat)(u:Value)(hB:B<=b)(hne:∀k,au a cap m k->k≠b):VolOwn B W0 a cap m (w.setCell ⟨b,j,none⟩ u):=
 h.other (ae w b j u) (fun k hk=>by cases hk;exact hB) (fun k hk e=>hne k hk (by cases e;rfl))
theorem fx {e:TypeId}{size B:Nat}{W0 w:World}(hb:Below B W0 w)(hB:B<=w.heap.size):Own e size B W0 (.slice none 0 0) 0 [] w:=⟨World.ownsRow_nil _ _ _ _,hb,hB⟩
end
theorem sm (w:World)(e:TypeId)(u0 u1 u2 u3 u4:Value) :
  (w.alloc (.cells #[u0,u1,u2,u3,u4] e)).cell? ⟨w.heap.size,0,none⟩=some u0/\(w.alloc (.cells #[u0,u1,u2,u3,u4] e)).cell? ⟨w.heap.size,1,none⟩=some u1/\(w.alloc (.cells #[u0,u1,u2,u3,u4] e)).cell? ⟨w.heap.size,2,none⟩=some u2/\(w.alloc (.cells #[u0,u1,u2,u3,u4] e)).cell? ⟨w.heap.size,3,none⟩=some u3/\(w.alloc (.cells #[u0,u1,u2,u3,u4] e)).cell? ⟨w.heap.size,4,none⟩=some u4:=by
 go_simp
def gW (l:List InoL):Nat:=(l.map (·.ents.length)).sum
theorem dB {e:TypeId}{size B:Nat}{W0 w:World}{v:Value}{n:Nat}{xs:List Value}(h:Own e size B W0 v n xs w)(b j:Nat)(u:Value)(hne:∀k,v.ownBlock=some k->k≠b):Own e size B (w.setCell ⟨b,j,none⟩ u) v n xs (w.setCell ⟨b,j,none⟩ u):=
 h.otherLow (r:=some b) ⟨rfl,rfl,rfl,by simp[World.setCell],fun k _ hk=>heap_setCell_other w ⟨b,j,none⟩ k u (fun e=>hk (by simp[e]))⟩ (fun k hk e=>hne k hk (by simpa using e.symm))
theorem oB {w w':World}{b:Nat}(h:Below w.heap.size w w')(hb:w.heap.size<=b)(u0 u1 u2 u3 u4:Value):Below w.heap.size w (((((w'.setCell ⟨b,0,none⟩ u0).setCell ⟨b,1,none⟩ u1).setCell ⟨b,2,none⟩ u2).setCell ⟨b,3,none⟩ u3).setCell ⟨b,4,none⟩ u4):=
 ((((h.setCell (p:=⟨b,0,none⟩) hb _).setCell (p:=⟨b,1,none⟩) hb _).setCell (p:=⟨b,2,none⟩) hb _).setCell (p:=⟨b,3,none⟩) hb _).setCell (p:=⟨b,4,none⟩) hb _
theorem uJ {e:TypeId}{size B:Nat}{W0 w:World}{v:Value}{n:Nat}{xs:List Value}(h:Own e size B W0 v n xs w)(b:Nat)(u0 u1 u2 u3 u4:Value)(hne:∀k,v.ownBlock=some k->k≠b):(((((w.setCell ⟨b,0,none⟩ u0).setCell ⟨b,1,none⟩ u1).setCell ⟨b,2,none⟩ u2).setCell ⟨b,3,none⟩ u3).setCell ⟨b,4,none⟩ u4).ownsRow B e size v n xs:=
 (dB (dB (dB (dB (dB h b 0 u0 hne) b 1 u1 hne) b 2 u2 hne) b 3 u3 hne) b 4 u4 hne).row
theorem fa:(Tryz.prog.info? 45).map (fun i=>(i.zero,i.size,i.bytes))=some (some (.agg #[.int .i64 0,.int .i64 0,.int .i64 0,.string ByteArray.empty,.slice none 0 0]),5,64):=by kernel_rfl
def mke (k:Nat)(n:Nat):List EntL:=(List.range n).map fun i=>⟨((k+4*i:Nat):Int),((k+4*i+1:Nat):Int),mtF (k+4*i+2),((k+4*i+3:Nat):Int)⟩
@[simp] theorem uw (k n:Nat):(mke k n).length=n:=by simp[mke]
def mk1 (k:Nat)(x:InoL):InoL:=⟨(k:Int),((k+1:Nat):Int),((k+2:Nat):Int),mtF (k+3),mke (k+4) x.ents.length⟩
def mkN (k:Nat)(n:Nat):Nat:=k+4+4*n
def mkP (k:Nat):List InoP->List InoP
 | []=>[]
 | y::m=>⟨mk1 k y.x,y.ad,y.cap⟩::mkP (mkN k y.x.ents.length) m
@[simp] theorem uC:∀(m:List InoP) (k:Nat),(mkP k m).length=m.length:=by
 intro m;induction m with
 | nil=>intro k;rfl
 | cons y m ih=>intro k;show (_::mkP _ m).length=_;rw[List.length_cons,ih,List.length_cons]
structure Touch (S:Nat->Prop)(w w':World):Prop where
 os:w'.os=w.os
 tape:w'.tape=w.tape
 output:w'.output=w.output
 size:w.heap.size<=w'.heap.size
 block:∀k,k<w.heap.size->¬S k->w'.heap[k]? = w.heap[k]?
theorem Touch.refl (S:Nat->Prop)(w:World):Touch S w w:=⟨rfl,rfl,rfl,zN,fun _ _ _=>rfl⟩
theorem Touch.grown {S:Nat->Prop}{w w1 w2:World}{r:Option Nat}(h:Touch S w w1)(hg:w1.grownBy w2 r)(hr:∀k,r=some k->S k∨w.heap.size<=k):Touch S w w2:=
 ⟨hg.os.trans h.os,hg.tape.trans h.tape,hg.output.trans h.output,Nat.le_trans h.size hg.size,fun k hk hs=>(hg.block k (Nat.lt_of_lt_of_le hk h.size) (fun e=>by
  rcases hr k e.symm with h1|h1
  ·exact hs h1
  ·omega)).trans (h.block k hk hs)⟩
theorem Touch.below {S:Nat->Prop}{w w':World}{B:Nat}(h:Touch S w w')(hS:∀k,S k->B<=k)(hB:B<=w.heap.size):Below B w w':=
 ⟨h.os,h.tape,h.output,h.size,fun k hk=>h.block k (by omega) (fun hs=>by have:=hS k hs;omega)⟩
theorem VolOwn.mark {B:Nat}{W0 w w1 w':World}{g cap:Nat}{m:List InoP}(h:VolOwn B W0 (some ⟨g,0,none⟩) cap m w)(k:Nat)(hk:k<m.length)(y:InoP)(hb:y.blk=m[k].blk)
  (hg1:w.grownBy w1 (some g)) (hg2:w1.grownBy w' y.blk) (ht:Own 45 5 B W0 (.slice (some ⟨g,0,none⟩) m.length cap) m.length (ins (m.set k y)) w')
  (hy:Own 74 4 B W0 (.slice y.ad y.x.ents.length y.cap) y.x.ents.length (ens y.x.ents) w'):VolOwn B W0 (some ⟨g,0,none⟩) cap (m.set k y) w':=by
 have hB:=(h.top.blk g rfl).1;have hap:∀i j (hi:i<m.length) (hj:j<m.length),i≠j->∀q,m[i].blk=some q->m[j].blk≠some q:=by
  intro i j hi hj hne q hq e;rcases Nat.lt_or_gt_of_ne hne with h1|h1
  ·exact List.pairwise_iff_getElem.1 h.apart i j hi hj h1 q hq e
  ·exact List.pairwise_iff_getElem.1 h.apart j i hj hi h1 q e hq
 refine⟨by rw[List.length_set];exact ht,fun z hz=>?_,?_⟩
 ·obtain⟨i,hi,rfl⟩:=List.mem_iff_getElem.1 hz;rw[List.getElem_set];split
  ·exact hy
  ·rename_i hne
   have hi2:i<m.length:=by simpa using hi
   refine((h.sub m[i] (List.getElem_mem hi2)).other hg1 (fun q hq=>by cases hq;exact hB) (fun q hq e=>h.side m[i] (List.getElem_mem hi2) q hq e)).other hg2 (fun q hq=>?_) (fun q hq e=>?_)
   ·rw[hb] at hq;exact((h.sub m[k] (List.getElem_mem hk)).blk q hq).1
   ·rw[hb] at e;exact hap i k hi2 hk (fun e=>hne e.symm) q hq e
 ·rw[List.pairwise_iff_getElem];intro i j hi hj hij q hq e;rw[List.getElem_set] at hq e;have hi2:i<m.length:=by simpa using hi
  have hj2:j<m.length:=by simpa using hj
  have h1:m[i].blk=some q:=by
   split at hq
   ·rename_i e2;subst e2;rw[←hb];exact hq
   ·exact hq
  have h2:m[j].blk=some q:=by
   split at e
   ·rename_i e2;subst e2;rw[←hb];exact e
   ·exact e
  exact hap i j hi2 hj2 (by omega) q h1 h2
end Go.Proofs.YtlkfabkkjfmnmaaGreatDoor
