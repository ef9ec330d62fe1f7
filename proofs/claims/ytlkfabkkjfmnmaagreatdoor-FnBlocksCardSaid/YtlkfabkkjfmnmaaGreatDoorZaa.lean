import Derived.WalkKit
import Derived.WalkSpells
import Derived.WalkLawsBesides
import Derived.PlainAid
import Derived.Lib.Hide
import Derived.Handy
import Derived.Deep.LoopGhost
import Derived.Laws.IdiomStrings
import Derived.Laws.AppendOwnNone
import Derived.Deep.RegionLaw
import Derived.Deep.QuietTactic
import Derived.BigQuiet
import Derived.BigRegion
import Derived.Test.YtlkfabkkjfmnmaaGreatDoorProg
import Derived.Lib.LaidTab
import Derived.Deep.Slices
import Derived.Deep.Fields
import Derived.Lib.SmallJoins
import Derived.ChangeSame
import Derived.ChangeMaps5
import Derived.Maps.AppendAt
import Derived.WalkSmall
import Derived.OrdersHeld
import Derived.Deep.RegionHeld3
import Derived.IntWalk
namespace Go.Proofs.YtlkfabkkjfmnmaaGreatDoor
open Go.RowKit
set_option linter.all false
set_option maxRecDepth 1000000
set_option maxHeartbeats 6000000
theorem zB {B : Nat} {w : World} : Below B w w := Below.refl _ _
theorem zN {n : Nat} : n <= n := Nat.le_refl _
theorem zH {p : Prop} (h : p) : Hid p := Lib.hid h
structure Rd (w:World)(a:Option Addr)(n cap size:Nat)(xs:List Value):Prop where
 len:xs.length=n*size
 le:n<=cap
 max:cap<=maxLen
 nil:a=none->cap=0
 at':0<n->∃b off,a=some ⟨b,off,none⟩/\b<w.heap.size/\∀j (h:j<xs.length),w.cell? ⟨b,off+j,none⟩=some xs[j]
theorem Rd.below {B:Nat}{w w':World}{a:Option Addr}{n cap size:Nat}{xs:List Value}(h:Rd w a n cap size xs)(hb:Below B w w')(hB:w.heap.size<=B):Rd w' a n cap size xs:=
 ⟨h.len,h.le,h.max,h.nil,fun h0=>let ⟨b,off,e,hlt,hc⟩:=h.at' h0;⟨b,off,e,Nat.lt_of_lt_of_le hlt hb.size,fun j hj=>(hb.cell (by show b<B;omega)).trans (hc j hj)⟩⟩
theorem Rd.alloc {w:World}{a:Option Addr}{n cap size:Nat}{xs:List Value}(h:Rd w a n cap size xs)(o:Obj):Rd (w.alloc o) a n cap size xs:=
 h.below ((Below.refl w.heap.size w).alloc zN o) zN
theorem Rd.drew {w:World}{a:Option Addr}{n cap size:Nat}{xs:List Value}(h:Rd w a n cap size xs):Rd w.drew a n cap size xs:=
 h.below (Below.refl w.heap.size w).drew zN
structure Own (e:TypeId)(size B:Nat)(W0:World)(v:Value)(n:Nat)(xs:List Value)(w:World):Prop where
 row:w.ownsRow B e size v n xs
 below:Below B W0 w
 base:B<=w.heap.size
theorem Own.alloc {e:TypeId}{size B:Nat}{W0 w:World}{v:Value}{n:Nat}{xs:List Value}(h:Own e size B W0 v n xs w)(o:Obj):Own e size B W0 v n xs (w.alloc o):=
 ⟨h.row.alloc o,h.below.alloc h.base o,by have:=h.base;simp;omega⟩
theorem Own.drew {e:TypeId}{size B:Nat}{W0 w:World}{v:Value}{n:Nat}{xs:List Value}(h:Own e size B W0 v n xs w):Own e size B W0 v n xs w.drew:=
 ⟨h.row.drew,h.below.drew,h.base⟩
theorem Own.kept {e:TypeId}{size B:Nat}{W0 w w':World}{v:Value}{n:Nat}{xs:List Value}(h:Own e size B W0 v n xs w)(hb:Below w.heap.size w w'):Own e size B W0 v n xs w':=by
 refine⟨⟨h.row.1,?_⟩,h.below.trans (hb.mono h.base),Nat.le_trans h.base hb.size⟩;rcases h.row.2 with hn|⟨g,cap,cur,rfl,hg,hgg,rest⟩
 ·exact .inl hn
 ·exact .inr ⟨g,cap,cur,rfl,hg,(hb.block g (Array.getElem?_eq_some_iff.1 hgg).1).trans hgg,rest⟩
theorem Own.set {e:TypeId}{size B:Nat}{W0 w:World}{g n cap:Nat}{xs:List Value}(h:Own e size B W0 (.slice (some ⟨g,0,none⟩) n cap) n xs w)(j:Nat)(u:Value) :
  Own e size B W0 (.slice (some ⟨g,0,none⟩) n cap) n (xs.set j u) (w.setCell ⟨g,j,none⟩ u):=by
 have hs:=h.row.stored j u;have hg:=(h.row.lt g rfl).1;exact⟨hs.1,h.below.setCell hg u,Nat.le_trans h.base hs.2.size⟩
theorem Own.cell {e:TypeId}{size B:Nat}{W0 w:World}{g n cap:Nat}{xs:List Value}(h:Own e size B W0 (.slice (some ⟨g,0,none⟩) n cap) n xs w)(j:Nat)(hj:j<xs.length):w.cell? ⟨g,j,none⟩=some xs[j]:=by
 rw[h.row.cellAt j (by have:=h.row.1;omega),List.getElem?_eq_getElem hj]
theorem Own.free {e:TypeId}{size B:Nat}{W0 w:World}{g n cap:Nat}{xs:List Value}(h:Own e size B W0 (.slice (some ⟨g,0,none⟩) n cap) n xs w)(j:Nat):w.frozen? ⟨g,j,none⟩=false:=h.row.frozenAt j
theorem Own.other {e:TypeId}{size B:Nat}{W0 w w':World}{v:Value}{n:Nat}{xs:List Value}{r:Option Nat}(h:Own e size B W0 v n xs w)(hg:w.grownBy w' r)(hr:∀k,r=some k->B<=k)(hne:∀k,v.ownBlock=some k->r≠some k):Own e size B W0 v n xs w':=
 ⟨h.row.kept hg (by cases hv:v.ownBlock with
  | none=>exact .inl rfl
  | some k=>exact .inr (fun e=>hne k hv e.symm)),h.below.grown hg h.base hr,Nat.le_trans h.base hg.size⟩
theorem Own.otherLow {e:TypeId}{size B:Nat}{W0 w w':World}{v:Value}{n:Nat}{xs:List Value}{r:Option Nat}(h:Own e size B W0 v n xs w)(hg:w.grownBy w' r)(hne:∀k,v.ownBlock=some k->r≠some k):Own e size B w' v n xs w':=
 ⟨h.row.kept hg (by cases hv:v.ownBlock with
  | none=>exact .inl rfl
  | some k=>exact .inr (fun e=>hne k hv e.symm)),zB,Nat.le_trans h.base hg.size⟩
theorem Own.shape {e:TypeId}{size B:Nat}{W0 w:World}{v:Value}{n:Nat}{xs:List Value}(h:Own e size B W0 v n xs w) :
  ∃a cap,v=.slice a n cap/\Rd w a n cap size xs/\(∀x,a=some x->B<=x.block):=by
 obtain⟨h1,h2⟩:=h.row;rcases h2 with ⟨rfl,rfl⟩|⟨g,cap,cur,rfl,hg,hgg,hn,hm,hs,ht⟩
 ·exact⟨none,0,rfl,⟨h1,zN,by unfold maxLen;omega,fun _=>rfl,(fun h=>by omega)⟩,fun x hx=>by cases hx⟩
 ·refine⟨some ⟨g,0,none⟩,cap,rfl,⟨h1,hn,hm,(fun h=>by cases h),fun h0=>⟨g,0,rfl,(Array.getElem?_eq_some_iff.1 hgg).1,fun j hj=>?_⟩⟩,fun x hx=>by cases hx;exact hg⟩;have hj':=h.row.cellAt j (by omega);rw[Nat.zero_add,hj',List.getElem?_eq_getElem hj]
theorem Own.shape1 {e:TypeId}{size B:Nat}{W0 w:World}{v:Value}{n:Nat}{xs:List Value}(h:Own e size B W0 v n xs w)(hn:0<n) :
  ∃g cap,v=.slice (some ⟨g,0,none⟩) n cap/\B<=g:=by
 rcases h.row.2 with ⟨rfl,rfl⟩|⟨g,cap,cur,rfl,hg,_⟩
 ·omega
 ·exact⟨g,cap,rfl,hg⟩
theorem Own.rd {e:TypeId}{size B:Nat}{W0 w:World}{a:Option Addr}{n cap:Nat}{xs:List Value}(h:Own e size B W0 (.slice a n cap) n xs w):Rd w a n cap size xs:=by
 obtain⟨a',cap',he,hr,_⟩:=h.shape;cases he;exact hr
theorem Own.nil (e:TypeId)(size:Nat)(w:World):Own e size w.heap.size w (.slice none 0 0) 0 [] w:=⟨World.ownsRow_nil _ _ _ _,zB,zN⟩
theorem Own.lit {e:TypeId}{size n:Nat}{W0 w:World}{B:Nat}(hb:Below B W0 w)(hB:B<=w.heap.size)(cs:Array Value)(hn:cs.size=n*size)(hm:n<=maxLen) :
  Own e size B W0 (.slice (some ⟨w.heap.size,0,none⟩) n n) n cs.toList (w.alloc (.cells cs e)):=
 ⟨World.ownsRow_lit w cs n hB hm hn,hb.alloc hB _,by simp;omega⟩
section
variable {P:Program}
theorem sC {w:World}{o:Oper}{a:Act}{K:Act->World->Prop}{Q:Exit->Act->World->Prop}(s x:Operand)(t:TypeId)
  (ho:o.op=.call { callee:=.builtin .append,args:=#[s,x],argTypes:=#[t,t] })
  (e:TypeId) (z:Value) (size bytes:Nat) (ht:P.underlying t=some (.slice e)) (hi:(P.info? e).map (fun i=>(i.zero,i.size,i.bytes))=some (some z,size,bytes)) (hzs:z.cells.size=size) (hsz:0<size)
  (B:Nat) (W0:World) (v:Value) (n:Nat) (xs:List Value) (hs:a.eval s=v) (hown:Own e size B W0 v n xs w)
  (ad:Option Addr) (m c:Nat) (news:List Value) (hx:a.eval x=.slice ad m c) (hr:Rd w ad m c size news) (h1:∀u∈news,u.oneCell'=true)
  (hlim:(n+m)*bytes<=140737488355328) (hmax:n+m<=maxLen)
  (h:∀a' cap' w',Own e size B W0 (.slice a' (n+m) cap') (n+m) (xs++news) w'->K (a.put o.dst (.slice a' (n+m) cap')) w'):Oper.wp P o a w K Q:=by
 obtain⟨i,hi,hz,hsize,hby⟩:=info_parts hi;cases ad with
 | some ad =>
  refine wp_append_own w s x t ho B e i z size bytes ht hi hz hsize hby hzs hsz v n xs hs hown.row ad m c news hx hr.len ?_ h1 hmax hlim hown.base ?_
  ·intro j u hj;have hj':=(List.getElem?_eq_some_iff.1 hj).1;have hm0:0<m:=by
    rcases Nat.eq_zero_or_pos m with h0|h0
    ·have:=hr.len;rw[h0] at this;simp at this;subst this;simp at hj'
    ·exact h0
   obtain⟨b,off,e1,_,hc⟩:=hr.at' hm0;cases e1;rw[Addr.add_lit,hc j hj'];rw[List.getElem?_eq_getElem hj'] at hj;exact hj
  ·intro v' w' ho' hg _;have hO:Own e size B W0 v' (n+m) (xs++news) w':=⟨ho',hown.below.grown hg hown.base (fun k hk=>(hown.row.lt k hk).1),Nat.le_trans hown.base hg.size⟩;obtain⟨a',cap',rfl,_,_⟩:=hO.shape;exact h a' cap' w' hO
 | none =>
  have hc0:=hr.nil rfl;have hm0:m=0:=by have:=hr.le;omega
  subst hc0;subst hm0;have hn:news = []:=List.eq_nil_of_length_eq_zero (by have:=hr.len;simpa using this);subst hn;have hrun:=run_append_owned_none (P:=P) w B t o.type e i size ht hi v n xs hown.row;unfold Oper.wp;simp[execOp,ho,resolve,invoke,builtin,hs,hx,hrun,Result.andThen];obtain⟨a',cap',rfl,_,_⟩:=hown.shape;exact h a' cap' w (by simpa using hown)
theorem eu {w:World}{ops:Array Oper}{rest:List Oper}{o:Oper}{a:Act}{Q:Exit->Act->World->Prop}(hgd:o.guard=none)(s x:Operand)(t:TypeId)
  (ho:o.op=.call { callee:=.builtin .append,args:=#[s,x],argTypes:=#[t,t] })
  (e:TypeId) (z:Value) (size bytes:Nat) (ht:P.underlying t=some (.slice e)) (hi:(P.info? e).map (fun i=>(i.zero,i.size,i.bytes))=some (some z,size,bytes)) (hzs:z.cells.size=size) (hsz:0<size)
  (B:Nat) (W0:World) (v:Value) (n:Nat) (xs:List Value) (hs:a.eval s=v) (hown:Own e size B W0 v n xs w)
  (ad:Option Addr) (m c:Nat) (news:List Value) (hx:a.eval x=.slice ad m c) (hr:Rd w ad m c size news) (h1:∀u∈news,u.oneCell'=true)
  (hlim:(n+m)*bytes<=140737488355328) (hmax:n+m<=maxLen)
  (h:∀a' cap' w',Own e size B W0 (.slice a' (n+m) cap') (n+m) (xs++news) w'->wpList P ops Q rest (a.put o.dst (.slice a' (n+m) cap')) w'):wpList P ops Q (o::rest) a w:=
 wpList_plain hgd fun _ hK=>sC s x t ho e z size bytes ht hi hzs hsz B W0 v n xs hs hown ad m c news hx hr h1 hlim hmax fun a' cap' w' hO=>hK _ _ (h a' cap' w' hO)
theorem aM {w0:World}{e:TypeId}{size m:Nat}{news:Array Value}(hl:news.size=m*size)(hm:m<=maxLen):Rd (w0.alloc (.cells news e)) (some ⟨w0.heap.size,0,none⟩) m m size news.toList:=
 (Own.lit (Below.refl w0.heap.size w0) zN news hl hm:Own e size _ _ _ m _ _).rd
theorem cV {w0:World}{ops:Array Oper}{rest:List Oper}{o:Oper}{a:Act}{Q:Exit->Act->World->Prop}(hgd:o.guard=none)(s x:Operand)(t:TypeId)
  (ho:o.op=.call { callee:=.builtin .append,args:=#[s,x],argTypes:=#[t,t] })
  (e:TypeId) (z:Value) (size bytes:Nat) (ht:P.underlying t=some (.slice e)) (hi:(P.info? e).map (fun i=>(i.zero,i.size,i.bytes))=some (some z,size,bytes)) (hzs:z.cells.size=size) (hsz:0<size)
  (B:Nat) (W0:World) (v:Value) (n:Nat) (xs:List Value) (hs:a.eval s=v) (hown:Own e size B W0 v n xs w0)
  (m:Nat) (news:Array Value) (hx:a.eval x=.slice (some ⟨w0.heap.size,0,none⟩) m m) (hl:news.size=m*size) (h1:∀u∈news.toList,u.oneCell'=true)
  (hlim:(n+m)*bytes<=140737488355328) (hmax:n+m<=maxLen)
  (h:∀a' cap' w',Own e size B W0 (.slice a' (n+m) cap') (n+m) (xs++news.toList) w'->wpList P ops Q rest (a.put o.dst (.slice a' (n+m) cap')) w'):wpList P ops Q (o::rest) a (w0.alloc (.cells news e)):=
 eu hgd s x t ho e z size bytes ht hi hzs hsz B W0 v n xs hs (hown.alloc _) (some ⟨w0.heap.size,0,none⟩) m m news.toList hx (aM hl (by omega)) h1 hlim hmax h
theorem ni {w:World}{ops:Array Oper}{rest:List Oper}{o:Oper}{a:Act}{Q:Exit->Act->World->Prop}
  (hg:o.guard=none) (l c:Operand) (t:TypeId) (hop:o.op=Op.makeSlice t l c)
  (e:TypeId) (z:Value) (bytes:Nat) (ht:P.underlying t=some (.slice e)) (hi:(P.info? e).map (fun i=>(i.zero,i.size,i.bytes))=some (some z,1,bytes)) (hz1:z.cells = #[z])
  (B:Nat) (W0:World) (hb:Below B W0 w) (hB:B<=w.heap.size)
  (kl kc:IntKind) (L C:Int) (n:Nat) (hl:a.eval l=.int kl L) (hc:a.eval c=.int kc C) (hL:L=(n:Int)) (hC:C=(n:Int)) (b2:bytes*n<=281474976710656) (b3:n<=maxLen)
  (hK:∀w',Own e 1 B W0 (.slice (some ⟨w.heap.size,0,none⟩) n n) n (List.replicate n z) w'->wpList P ops Q rest (a.put o.dst (.slice (some ⟨w.heap.size,0,none⟩) n n)) w') :
  wpList P ops Q (o::rest) a w:=by
 obtain⟨i,hi,hz,hsize,hby⟩:=info_parts hi;refine wpList_make_full w hg l c t hop B e i z 1 ht hi hz hsize kl kc L C n hl hc hL hC (by rw[hby];exact b2) b3 hB ?_;intro w' ho hg';rw[hz1,Nat.mul_one,toList_madeCells_one] at ho;exact hK w' ⟨ho,hb.grown hg' hB (fun k hk=>by cases hk),Nat.le_trans hB hg'.size⟩
def u8s (bs:List UInt8):List Value:=bs.map fun b => .int .u8 (b.toNat:Int)
@[simp] theorem uo (bs:List UInt8):(u8s bs).length=bs.length:=by simp[u8s]
theorem bS (a b:List UInt8):u8s (a++b)=u8s a++u8s b:=by simp[u8s]
def ub (x:Int):UInt8:=UInt8.ofNat x.toNat
theorem dw (x:Int)(h0:0<=x)(h1:x<256):((ub x).toNat:Int)=x:=by unfold ub;rw[UInt8.toNat_ofNat'];omega
theorem pB (a:Int)(a0:0<=a)(a1:a<256):u8s [ub a] = [.int .u8 a]:=by simp only[u8s,List.map_cons,List.map_nil,dw a a0 a1]
theorem tA (a b:Int)(a0:0<=a)(a1:a<256)(b0:0<=b)(b1:b<256):u8s [ub a,ub b] = [.int .u8 a,.int .u8 b]:=by simp only[u8s,List.map_cons,List.map_nil,dw a a0 a1,dw b b0 b1]
theorem tl (a b c:Int)(a0:0<=a)(a1:a<256)(b0:0<=b)(b1:b<256)(c0:0<=c)(c1:c<256):u8s [ub a,ub b,ub c] = [.int .u8 a,.int .u8 b,.int .u8 c]:=by
 simp only[u8s,List.map_cons,List.map_nil,dw a a0 a1,dw b b0 b1,dw c c0 c1]
theorem ts (a b c d:Int)(a0:0<=a)(a1:a<256)(b0:0<=b)(b1:b<256)(c0:0<=c)(c1:c<256)(d0:0<=d)(d1:d<256):u8s [ub a,ub b,ub c,ub d] = [.int .u8 a,.int .u8 b,.int .u8 c,.int .u8 d]:=by
 simp only[u8s,List.map_cons,List.map_nil,dw a a0 a1,dw b b0 b1,dw c c0 c1,dw d d0 d1]
def aE (l:List Int):List Value:=l.map (Value.int .i64)
@[simp] theorem uj (l:List Int):(aE l).length=l.length:=by simp[aE]
theorem cm (a b:List Int):aE (a++b)=aE a++aE b:=by simp[aE]
theorem e8 (l:List Int):∀u∈aE l,u.oneCell'=true:=by
 intro u hu;obtain⟨_,_,rfl⟩:=List.mem_map.1 hu;rfl
theorem br (l:List Int)(k:Nat)(h:k<l.length):(aE l)[k]'(by simpa using h)=.int .i64 l[k]:=by simp[aE]
def uk (k:Int)(n:Nat):List Int:=(List.range n).map fun (i:Nat)=>k+(i:Int)
@[simp] theorem tX (k:Int) (n:Nat):(uk k n).length=n:=by simp[uk]
theorem ms (c:Int)(h0:0<=c)(h1:c<256):u8s [UInt8.ofNat c.toNat] = [.int .u8 c]:=by
 simp only[u8s,List.map_cons,List.map_nil];have:(UInt8.ofNat c.toNat).toNat=c.toNat:=by simp;omega
 rw[this,Int.toNat_of_nonneg h0]
theorem p8 (w0:World)(e:TypeId)(c:Int)(h0:0<=c)(h1:c<256):Rd (w0.alloc (.cells #[.int .u8 c] e)) (some ⟨w0.heap.size,0,none⟩) 1 1 1 (u8s [UInt8.ofNat c.toNat]):=by
 rw[ms c h0 h1];exact aM rfl (by decide)
theorem iU {w:World}(src dst e:TypeId)(hs:P.underlying src=some (.slice e))(he:P.underlying e=some (.int .u8))(hd:P.underlying dst=some .string)
  {ad:Option Addr} {n cap:Nat} {bs:List UInt8} (hr:Rd w ad n cap 1 (u8s bs)):(convert src dst (.slice ad n cap)).run P w=.ok (.string ⟨bs.toArray⟩) w:=by
 have hl:bs.length=n:=by have:=hr.len;simpa using this
 subst hl;cases ad with
 | some ad =>
  rcases Nat.eq_zero_or_pos bs.length with h0|h0
  ·have hb:bs = []:=List.eq_nil_of_length_eq_zero h0;subst hb;exact run_convert_bytes_back w src dst e ad cap [] hs he hd (fun j hj=>by simp at hj)
  ·refine run_convert_bytes_back w src dst e ad cap bs hs he hd ?_;intro j hj;obtain⟨b,off,e1,_,hc⟩:=hr.at' h0;cases e1;rw[Addr.add_lit,hc j (by simpa using hj)];simp[u8s]
 | none =>
  have hc0:=hr.nil rfl;have hm0:=hr.le;have hb:bs = []:=List.eq_nil_of_length_eq_zero (by omega);subst hb;subst hc0;rw[run_convert_bytes_string w src dst e none _ 0 hs he hd];simp[Conv.bytesToString,Sem.run_pure];rfl
theorem pj {w:World}{ops:Array Oper}{rest:List Oper}{o:Oper}{a:Act}{Q:Exit->Act->World->Prop}(hgd:o.guard=none)(x:Operand)(src dst e:TypeId)
  (ho:o.op=.convert src dst x) (hs:P.underlying src=some (.slice e)) (he:P.underlying e=some (.int .u8)) (hd:P.underlying dst=some .string)
  (ad:Option Addr) (n cap:Nat) (bs:List UInt8) (hx:a.eval x=.slice ad n cap) (hr:Rd w ad n cap 1 (u8s bs))
  (h:wpList P ops Q rest (a.put o.dst (.string ⟨bs.toArray⟩)) w):wpList P ops Q (o::rest) a w:=by
 have hrun:=iU (P:=P) src dst e hs he hd hr;refine wpList_plain hgd fun K hK=>?_
 unfold Oper.wp;simp[execOp,ho,hx,hrun,Result.andThen];exact hK _ _ h
end
theorem fR (s:ByteArray)(k:Nat):(s.extract 0 k).toList=s.data.toList.take k:=by
 rw[ByteArray.toList_eq];simp[ByteArray.data_extract]
theorem cN (n:Int)(h₀ : 0<=n)(h₁ : n<2 ^ 63):IntKind.i64.wrap n=n:=by rw[IntKind.wrap_i64];omega
theorem pp (x:Int)(h₀ : 0<=x)(h₁ : x<9223372036854775808):bits .and .i64 x 255=x % 256:=bits_mask .i64 63 (by decide) cN 8 (by decide) x h₀ h₁
theorem bR (x:Int)(h₀ : 0<=x)(h₁ : x<9223372036854775808):bits .and .i64 x 63=x % 64:=bits_mask .i64 63 (by decide) cN 6 (by decide) x h₀ h₁
theorem lU (x:Int)(h₀ : 0<=x)(h₁ : x<9223372036854775808):bits .and .i64 x 31=x % 32:=bits_mask .i64 63 (by decide) cN 5 (by decide) x h₀ h₁
theorem lE (x:Int)(h₀ : 0<=x)(h₁ : x<9223372036854775808):bits .and .i64 x 15=x % 16:=bits_mask .i64 63 (by decide) cN 4 (by decide) x h₀ h₁
theorem nj (x:Int)(h₀ : 0<=x)(h₁ : x<9223372036854775808):bits .and .i64 x 7=x % 8:=bits_mask .i64 63 (by decide) cN 3 (by decide) x h₀ h₁
theorem nr (x:Int)(h₀ : 0<=x)(h₁ : x<9223372036854775808):bits .and .i64 x 1=x % 2:=bits_mask .i64 63 (by decide) cN 1 (by decide) x h₀ h₁
theorem cP (i:Nat)(x y:Int)(hx₀ : 0<=x)(hx:x % 2 ^ i=0)(hx₁ : x<2 ^ 63)(hy₀ : 0<=y)(hy:y<2 ^ i)(hy₁ : y<2 ^ 63):bits .or .i64 x y=x+y:=
 bits_join .i64 63 (by decide) cN i x y hx₀ hx hx₁ hy₀ hy hy₁
theorem iQ (k:IntKind)(x y:Int):bits .or k x y=bits .or k y x:=by simp only[bits,BitVec.or_comm]
theorem eI {k:IntKind}{a b:Int}(h:a=b):Ending.returned (.int k a)=.returned (.int k b):=by rw[h]
theorem ah {a b:Bool}(h:a=b):Ending.returned (.bool a)=.returned (.bool b):=by rw[h]
theorem iG {a b:ByteArray}(h:a=b):Ending.returned (.string a)=.returned (.string b):=by rw[h]
def IsRow (k:IntKind)(w:World)(a:Option Addr)(len cap:Nat)(zs:List Int):Prop:=
 (a=none/\len=0/\cap=0/\zs = []) ∨
 ∃x,a=some x/\len<=cap/\cap<=maxLen/\zs.length=cap/\(∀i,i<zs.length->w.cell? (x.add i)=some (.int k (zs.getD i 0)))/\∀n∈zs,(Lit.int k n).wf=true
theorem IsRow.rd {k:IntKind}{w:World}{a:Option Addr}{len cap:Nat}{zs:List Int}(h:IsRow k w a len cap zs) :
  Rd w a len cap 1 ((zs.take len).map (Value.int k))/\(∀n∈zs.take len,(Lit.int k n).wf=true):=by
 rcases h with ⟨rfl,rfl,rfl,rfl⟩|⟨x,rfl,h1,h2,h3,h4,h5⟩
 ·exact⟨⟨rfl,zN,by unfold maxLen;omega,fun _=>rfl,fun h=>by omega⟩,fun n hn=>by simp at hn⟩
 ·refine⟨⟨by simp;omega,h1,h2,(fun h=>by cases h),fun h0=>?_⟩,fun n hn=>h5 n (List.mem_of_mem_take hn)⟩;obtain⟨b,off,spot⟩:=x;have hc:=h4 0 (by omega);have hspot:spot=none:=by simpa[Addr.add] using World.cell?_spot hc
  subst hspot;refine⟨b,off,rfl,?_,?_⟩
  ·have:=World.block_lt_of_cell? w _ hc;simpa[Addr.add] using this
  ·intro j hj;simp only[List.length_map,List.length_take] at hj;have:=h4 j (by omega);rw[Addr.add_lit] at this;rw[this];simp[List.getD,show j<zs.length by omega]
theorem cW:(Tryz.prog.info? 5).map (fun i=>(i.zero,i.size,i.bytes))=some (some (.int .u8 0),1,1):=by kernel_rfl
theorem am (x lo hi:Int)(w:World)(h1:lo<=x)(h2:x<=hi):Calls Tryz.prog 51 #[.int .i64 x,.int .i64 lo,.int .i64 hi] w fun e w'=>e=.returned (.bool true)/\w=w':=by
 go_enter Tryz.func51,Tryz.ntmps51
 go_wp2;go_ret;exact⟨rfl,rfl⟩
theorem aB (x lo hi:Int)(w:World)(h:x<lo∨hi<x):Calls Tryz.prog 51 #[.int .i64 x,.int .i64 lo,.int .i64 hi] w fun e w'=>e=.returned (.bool false)/\w=w':=by
 by_cases h1:x<lo
 ·go_enter Tryz.func51,Tryz.ntmps51
  go_wp2;go_ret;exact⟨rfl,rfl⟩
 ·have h2:¬x<=hi:=by omega
  clear h;go_enter Tryz.func51,Tryz.ntmps51
  go_wp2;go_ret;exact⟨rfl,rfl⟩
theorem ao (x lo hi:Int)(w:World)(h1:lo<=x)(h2:x<=hi):Calls Tryz.prog 39 #[.int .i64 x,.int .i64 lo,.int .i64 hi] w fun e w'=>e=.returned (.bool true)/\w=w':=by
 go_enter Tryz.func39,Tryz.ntmps39
 go_wp2;go_ret;exact⟨rfl,rfl⟩
theorem aG (x lo hi:Int)(w:World)(h:x<lo∨hi<x):Calls Tryz.prog 39 #[.int .i64 x,.int .i64 lo,.int .i64 hi] w fun e w'=>e=.returned (.bool false)/\w=w':=by
 by_cases h1:x<lo
 ·go_enter Tryz.func39,Tryz.ntmps39
  go_wp2;go_ret;exact⟨rfl,rfl⟩
 ·have h2:¬x<=hi:=by omega
  clear h;go_enter Tryz.func39,Tryz.ntmps39
  go_wp2;go_ret;exact⟨rfl,rfl⟩
theorem cA:(Tryz.prog.info? 3).map (fun i=>(i.zero,i.size,i.bytes))=some (some (.int .i64 0),1,8):=by kernel_rfl
def knA:List Int:=[32,161,768,776,778,803,807,902,904,908,910,913,931,940,945,972,1040,469,7840,7852,8486,8491,4352,4449,4520,44032]
def knB:List Int:=[126,255,772,776,778,803,807,902,906,908,911,929,937,943,969,974,1103,470,7841,7853,8486,8491,4370,4469,4546,55203]
def bA (c:Int):Bool:=(knA.zip knB).any (fun p=>decide (p.1<=c/\c<=p.2))&&c != 47
theorem oK (c:Int)(k:Nat)(h:k<26)(h1:knA[k]'h<=c)(h2:c<=knB[k]'h):bA c=(c != 47):=by
 unfold bA;have e:(knA.zip knB).any (fun p=>decide (p.1<=c/\c<=p.2))=true:=by
  rw[List.any_eq_true];refine⟨(knA[k]'h,knB[k]'h),?_,by simp[h1,h2]⟩;have hz:k<(knA.zip knB).length:=h;have:=List.getElem_mem hz;rwa [List.getElem_zip] at this
 rw[e,Bool.true_and]
theorem nS (c:Int)(h:∀k (hk:k<26),¬(knA[k]'hk<=c/\c<=knB[k]'hk)):bA c=false:=by
 unfold bA;have e:(knA.zip knB).any (fun p=>decide (p.1<=c/\c<=p.2))=false:=by
  rw[List.any_eq_false];intro p hp;obtain⟨k,hk,rfl⟩:=List.getElem_of_mem hp;rw[List.getElem_zip];have hk':k<26:=hk;exact fun hc=>h k hk' (of_decide_eq_true hc)
 rw[e,Bool.false_and]
theorem t6 {P:Program}{c:Code}{Q:Exit->Act->World->Prop}{a:Act}{W0:World}(F:World->Prop)(h:F W0)(k:∀W,F W->Code.wp P c Q a W):Code.wp P c Q a W0:=k W0 h
theorem pI {w0:World}{e:TypeId}{size m b:Nat}{news:Array Value}(hb:b=w0.heap.size)(hl:news.size=m*size)(hm:m<=maxLen):Rd (w0.alloc (.cells news e)) (some ⟨b,0,none⟩) m m size news.toList:=by
 subst hb;exact aM hl hm
theorem py {W:World}{b n cap size:Nat}{xs:List Value}(h:Rd W (some ⟨b,0,none⟩) n cap size xs)(h0:0<n)(j:Nat)(hj:j<xs.length):W.cell? ⟨b,j,none⟩=some xs[j]:=by
 obtain⟨b',off,e,_,hc⟩:=h.at' h0;cases e;have:=hc j hj;rwa [Nat.zero_add] at this
theorem la (c:Int)(w:World):Calls Tryz.prog 122 #[.int .i64 c] w fun e w'=>e=.returned (.bool (bA c))/\Below w.heap.size w w':=by
 go_enter Tryz.func122,Tryz.ntmps122
 go_wp2;refine t6 (fun W=>Below w.heap.size w W/\Rd W (some ⟨w.heap.size,0,none⟩) 26 26 1 (aE knA)/\Rd W (some ⟨w.heap.size+1,0,none⟩) 26 26 1 (aE knB)) (by exact⟨(zB.alloc zN _).alloc (by simp) _,(pI (news:=(aE knA).toArray) rfl rfl (by decide)).alloc _,pI (news:=(aE knB).toArray) (by simp) rfl (by decide)⟩) ?_;generalize w.heap.size+1=b2;intro W hW;have HW:=zH hW;clear hW;go_loopg [5] 26 (fun gg i wr => ∃k:Nat,k+gg=26/\i=.int .i64 k/\(∀j (hj:j<k) (hf:j<26),¬(knA[j]'hf<=c/\c<=knB[j]'hf))/\Below W.heap.size W wr)
 case atStart=>exact⟨0,by omega,rfl,(fun j hj=>by omega),zB⟩
 case round =>
  obtain⟨k,hk,rfl,hno,hB⟩:=hrel;have HN:=zH hno;have HB:=zH hB;have HB2:Hid (Below w.heap.size w wr):=zH (HW.out.1.trans (hB.mono HW.out.1.size));clear hno;by_cases hlt:k<26
  ·have hc1:=py (HW.out.2.1.below hB zN) (by omega) k (by exact hlt);have hc2:=py (HW.out.2.2.below hB zN) (by omega) k (by exact hlt);replace hc1:=hc1.trans (congrArg some (br knA k hlt));replace hc2:=hc2.trans (congrArg some (br knB k hlt));clear hB;by_cases hin:knA[k]'hlt<=c/\c<=knB[k]'hlt
   ·have HR:Hid (bA c=(c != 47)):=zH (oK c k hlt hin.1 hin.2);obtain⟨h1,h2⟩:=hin;generalize knA[k]'hlt=x at *;generalize knB[k]'hlt=y at *;go_wp2;go_quiet (refine Calls.quiet_of_same ((ao _ _ _ _ (by omega) (by omega)).mono fun e w' h=>⟨h.1,h.2.symm⟩))
    go_wp2;go_ret;exact⟨ah HR.out.symm,below_drewN HB2.out _⟩
   ·have HI:=zH hin;have hin2:c<knA[k]'hlt∨knB[k]'hlt<c:=by omega
    clear hin;have yf:Hid (∀j (hj:j<k+1) (hf:j<26),¬(knA[j]'hf<=c/\c<=knB[j]'hf)):=zH (fun j hj hf=>by
     by_cases e:j=k
     ·subst e;exact HI.out
     ·exact HN.out j (by omega) hf)
    clear HI HN;generalize knA[k]'hlt=x at *;generalize knB[k]'hlt=y at *;go_wp2;go_quiet (refine Calls.quiet_of_same ((aG _ _ _ _ (by omega)).mono fun e w' h=>⟨h.1,h.2.symm⟩))
    go_wp2;go_roundg (gk - 1)
    case measure=>omega
    case rel=>exact⟨k+1,by omega,by go_num,yf.out,below_drewN HB.out _⟩
  ·have hkl:k=26:=by omega
   have HR:Hid (bA c=false):=zH (nS c (fun j hj=>HN.out j (by omega) hj));subst hkl;go_wp2;go_ret;exact⟨ah HR.out.symm,HB2.out⟩
def kpT:List Int:=[32,46,48,126,161,255,469,470,768,772,776,776,778,778,803,803,807,807,902,902,904,906,908,908,910,911,913,929,931,937,940,943,945,969,972,974,1040,1103,4352,4370,4449,4469,4520,4546,7840,7841,7852,7853,8486,8486,8491,8491,44032,55203]
def kpI:List (Int × Int):=[(32,46),(48,126),(161,255),(469,470),(768,772),(776,776),(778,778),(803,803),(807,807),(902,902),(904,906),(908,908),(910,911),(913,929),(931,937),(940,943),(945,969),(972,974),(1040,1103),(4352,4370),(4449,4469),(4520,4546),(7840,7841),(7852,7853),(8486,8486),(8491,8491),(44032,55203)]
theorem rr : Tryz.prog.globalNamed "loop.example/g00773/impl.knownParts" = some 0 := by kernel_rfl
def KTab (w : World) : Prop := Lib.TabIs Tryz.prog w "loop.example/g00773/impl.knownParts" .i64 kpT
theorem qV {P:Program}{w w':World}{n:String}{g B:Nat}{cs:Array Value}(h:w.var? P n=some cs)(hg:P.globalNamed n=some g)(hb:Below B w w')(hlt:g<B):w'.var? P n=some cs:=by
 unfold World.var? at h ⊢;rw[hg] at h ⊢;simp only[Option.bind_some] at h ⊢;rw[hb.block g hlt];exact h
theorem KTab.cell {w:World}(h:KTab w)(i:Nat)(hi:i<54):w.cell? ⟨0,i,none⟩=some (.int .i64 (kpT.getD i 0)):=Lib.TabIs.cell h rr i hi
theorem KTab.below {B:Nat}{w w':World}(h:KTab w)(hb:Below B w w')(hB:w.heap.size<=B):KTab w':=
 qV h rr hb (Nat.lt_of_lt_of_le (World.block_lt_of_cell? w _ (h.cell 0 (by omega))) hB)
theorem KTab.step {w w':World}(h:KTab w)(hb:Below w.heap.size w w'):KTab w':=h.below hb zN
theorem tI:∀k:Fin 27,kpI[k.val]'k.isLt=(kpT.getD (2*k.val) 0,kpT.getD (2*k.val+1) 0):=by decide
theorem uH:∀p∈kpI,(∃q∈knA.zip knB,q.1<=p.1/\p.2<=q.2)/\¬(p.1<=47/\47<=p.2):=by decide
theorem uq:∀q∈knA.zip knB,q∈kpI∨q=(32,126):=by decide
theorem qr (c:Int)(p:Int × Int)(hp:p∈kpI)(h1:p.1<=c)(h2:c<=p.2):bA c=true:=by
 obtain⟨⟨q,hq,q1,q2⟩,hn⟩:=uH p hp;have hc:c≠47:=fun e=>hn (by omega)
 unfold bA;rw[List.any_eq_true.2 ⟨q,hq,by simp;omega⟩,Bool.true_and];simp[hc]
theorem qT (c:Int)(h:∀p∈kpI,¬(p.1<=c/\c<=p.2)):bA c=false:=by
 unfold bA;by_cases hc:c=47
 ·subst hc;simp
 ·have e:(knA.zip knB).any (fun p=>decide (p.1<=c/\c<=p.2))=false:=by
   rw[List.any_eq_false];intro q hq;rcases uq q hq with hk|rfl
   ·simpa using h q hk
   ·have h1:=h (32,46) (by decide);have h2:=h (48,126) (by decide);simp at h1 h2 ⊢;omega
  rw[e,Bool.false_and]
theorem lg (c:Int)(w:World)(hT:KTab w):Calls Tryz.prog 133 #[.int .i64 c] w fun e w'=>e=.returned (.bool (bA c))/\Below w.heap.size w w':=by
 have HT:=zH hT;clear hT;go_enter Tryz.func133,Tryz.ntmps133
 go_wp2;go_loopg [3] 27 (fun gg i wr => ∃k q:Nat,k+gg=27/\Hid (q=2*k)/\i=.int .i64 (q:Int)/\Hid (∀p∈kpI.take k,¬(p.1<=c/\c<=p.2))/\Hid (Below w.heap.size w wr))
 case atStart=>exact⟨0,0,by omega,zH rfl,rfl,zH (fun p hp=>by simp at hp),zH zB⟩
 case round =>
  obtain⟨k,q,hk,HQ,rfl,HN,HB⟩:=hrel;by_cases hlt:k<27
  ·have c1:=(HT.out.below HB.out zN).cell q (by have:=HQ.out;omega);have c2:=(HT.out.below HB.out zN).cell (q+1) (by have:=HQ.out;omega);have hkl:k<kpI.length:=hlt;have HP:Hid (kpI[k]=(kpT.getD q 0,kpT.getD (q+1) 0)):=zH (by rw[HQ.out];exact tI ⟨k,hlt⟩);have hq1:(q:Int)<54:=by have:=HQ.out;omega
   have hq2:(q:Int)+1<54:=by have:=HQ.out;omega
   by_cases hin:kpT.getD q 0<=c/\c<=kpT.getD (q+1) 0
   ·have HR:Hid (bA c=true):=zH (qr c kpI[k] (List.getElem_mem hkl) (by rw[HP.out];exact hin.1) (by rw[HP.out];exact hin.2));obtain⟨h1,h2⟩:=hin;clear HP hkl;generalize kpT.getD q 0=x at *;generalize kpT.getD (q+1) 0=y at *;go_wp2;go_quiet (refine Calls.quiet_of_same ((am _ _ _ _ (by omega) (by omega)).mono fun e w' h=>⟨h.1,h.2.symm⟩))
    go_wp2;go_ret;exact⟨ah HR.out.symm,below_drewN HB.out _⟩
   ·have yf:Hid (∀p∈kpI.take (k+1),¬(p.1<=c/\c<=p.2)):=zH (fun p hp=>by
     rw[List.take_succ_eq_append_getElem hkl,List.mem_append,List.mem_singleton] at hp;rcases hp with hp|rfl
     ·exact HN.out p hp
     ·rw[HP.out];exact hin)
    have hin2:c<kpT.getD q 0∨kpT.getD (q+1) 0<c:=by omega
    clear hin HP hkl;generalize kpT.getD q 0=x at *;generalize kpT.getD (q+1) 0=y at *;go_wp2;go_quiet (refine Calls.quiet_of_same ((aB _ _ _ _ (by omega)).mono fun e w' h=>⟨h.1,h.2.symm⟩))
    go_wp2;go_roundg (gk - 1)
    case measure=>omega
    case rel=>exact⟨k+1,q+2,by omega,zH (by have:=HQ.out;omega),by go_num,yf,zH (below_drewN HB.out _)⟩
  ·have hq1:¬(q:Int)<54:=by have:=HQ.out;omega
   have HR:Hid (bA c=false):=zH (qT c (fun p hp=>HN.out p (by rw[List.take_of_length_le (by show 27<=k;omega)];exact hp)));go_wp2;go_ret;exact⟨ah HR.out.symm,HB.out⟩
section
open Go.ChangeShapes Go.WideShapes Go.RowKit Go.Deep
theorem gn {α : Type}(f : α -> List Value)(size:Nat)(hf:∀x,(f x).length=size):∀xs:List α,(xs.flatMap f).length=xs.length*size:=by
 intro xs;induction xs with
 | nil=>simp
 | cons x xs ih=>rw[List.flatMap_cons,List.length_append,hf,ih,List.length_cons,Nat.succ_mul];omega
theorem nE {α : Type}(f : α -> List Value)(size:Nat)(hf:∀x,(f x).length=size):∀(xs:List α) (i j:Nat) (hi:i<xs.length),j<size->(xs.flatMap f)[i*size+j]? = (f xs[i])[j]? := by
 intro xs;induction xs with
 | nil=>intro i j hi;simp at hi
 | cons x xs ih =>
  intro i j hi hj;rw[List.flatMap_cons];cases i with
  | zero=>rw[Nat.zero_mul,Nat.zero_add,List.getElem?_append_left (by rw[hf];exact hj)];rfl
  | succ i =>
   rw[List.getElem?_append_right (by rw[hf,Nat.succ_mul];omega),hf];have e:(i+1)*size+j - size=i*size+j:=by rw[Nat.succ_mul];omega
   rw[e,ih i j (by simpa using hi) hj];rfl
def cR (l:List ByteArray):List Value:=l.flatMap fun s=>[.string s]
theorem jV (l:List ByteArray):cR l=l.map Value.string:=by
 induction l with
 | nil=>rfl
 | cons s l ih=>simp only[cR,List.flatMap_cons,List.map_cons] at *;rw[ih];rfl
@[simp] theorem uh (l:List ByteArray):(cR l).length=l.length:=by simp[jV]
theorem dJ (a b:List ByteArray):cR (a++b)=cR a++cR b:=by simp[cR]
theorem cE (l:List ByteArray)(k:Nat)(h:k<l.length):(cR l)[k]'(by simpa using h)=.string l[k]:=by simp[jV]
def wr1 (x:Int × ByteArray):List Value:=[.int .i64 x.1,.string x.2]
def wrs (l:List (Int × ByteArray)):List Value:=l.flatMap wr1
theorem tY (x:Int × ByteArray):(wr1 x).length=2:=rfl
@[simp] theorem uy (l:List (Int × ByteArray)):(wrs l).length=l.length*2:=gn wr1 2 tY l
structure EntL where
 hash:Int
 index:Int
 name:ByteArray
 id:Int
def en1 (x:EntL):List Value:=[.int .i64 x.hash,.int .i64 x.index,.string x.name,.int .i64 x.id]
def ens (l:List EntL):List Value:=l.flatMap en1
theorem fm (x:EntL):(en1 x).length=4:=rfl
@[simp] theorem oU (l:List EntL):(ens l).length=l.length*4:=gn en1 4 fm l
theorem a5 (a b:List EntL):ens (a++b)=ens a++ens b:=by simp[ens]
theorem mm (l:List EntL)(k:Nat)(h:k<l.length)(j:Nat)(hj:j<4):(ens l)[k*4+j]'(by simp;omega)=(en1 l[k])[j]'(by rw[fm];exact hj):=by
 have:=nE en1 4 fm l k j h hj;rw[←ens,List.getElem?_eq_getElem (by simp;omega),List.getElem?_eq_getElem (by rw[fm];exact hj)] at this;exact Option.some.inj this
theorem iK (l:List EntL):∀u∈ens l,u.oneCell'=true:=by
 intro u hu;unfold ens at hu;obtain⟨x,_,h⟩:=List.mem_flatMap.1 hu;unfold en1 at h;simp only[List.mem_cons,List.not_mem_nil,or_false] at h;rcases h with rfl|rfl|rfl|rfl <;> rfl
section
variable {P:Program}
end
section
variable {H:Type} {enc:TypeId × Value->H} {P:Program} {w:World} {spare:Nat->Bool} {held:Bool}
end
end
theorem Own.drewN {e:TypeId}{size B:Nat}{W0 w:World}{v:Value}{n:Nat}{xs:List Value}(h:Own e size B W0 v n xs w)(q:Nat):Own e size B W0 v n xs (w.drewN q):=
 ⟨h.row,below_drewN h.below q,h.base⟩
theorem Rd.drewN {w:World}{a:Option Addr}{n cap size:Nat}{xs:List Value}(h:Rd w a n cap size xs)(q:Nat):Rd (w.drewN q) a n cap size xs:=
 h.below (below_drewN (Below.refl w.heap.size w) q) zN
theorem Rd.grown {w w':World}{r:Option Nat}{a:Option Addr}{n cap size:Nat}{xs:List Value}(h:Rd w a n cap size xs)(hg:w.grownBy w' r)(hne:∀x,a=some x->0<n->r≠some x.block):Rd w' a n cap size xs:=
 ⟨h.len,h.le,h.max,h.nil,fun h0=>by
  obtain⟨b,off,e,hlt,hc⟩:=h.at' h0;refine⟨b,off,e,Nat.lt_of_lt_of_le hlt hg.size,fun j hj=>?_⟩;rw[World.cell?_of_block (a:=⟨b,off+j,none⟩) (hg.block b hlt (fun e2=>hne _ e h0 e2.symm))];exact hc j hj⟩
theorem Own.self {e:TypeId}{size B:Nat}{W0 w:World}{v:Value}{n:Nat}{xs:List Value}(h:Own e size B W0 v n xs w):Own e size B w v n xs w:=⟨h.row,zB,h.base⟩
theorem Own.stay {e:TypeId}{size B:Nat}{W0 w w':World}{v:Value}{n:Nat}{xs:List Value}(h:Own e size B W0 v n xs w)(hb:Below w.heap.size w w'):Own e size B w' v n xs w':=(h.kept hb).self
theorem Own.blk {e:TypeId}{size B:Nat}{W0 w:World}{v:Value}{n:Nat}{xs:List Value}(h:Own e size B W0 v n xs w)(k:Nat)(hk:v.ownBlock=some k):B<=k/\k<w.heap.size:=h.row.lt k hk
theorem aA {w w':World}(r:Option Nat)(h:Below w.heap.size w w'):w.grownBy w' r:=⟨h.os,h.tape,h.output,h.size,fun k hk _=>h.block k hk⟩
theorem aq {a b c:World}{r r':Option Nat}(h:a.grownBy b r)(k:b.grownBy c r')(hr:∀g,r'=some g->r=some g∨a.heap.size<=g):a.grownBy c r:=
 ⟨k.os.trans h.os,k.tape.trans h.tape,k.output.trans h.output,Nat.le_trans h.size k.size,fun i hi hne=>(k.block i (Nat.lt_of_lt_of_le hi h.size) (fun e=>by
  rcases hr i e.symm with h1|h1
  ·exact hne h1.symm
  ·omega)).trans (h.block i hi hne)⟩
theorem eB {w w':World}{r:Option Nat}(h:w.grownBy w' r)(q:Nat):w.grownBy (w'.drewN q) r:=⟨h.os,h.tape,h.output,h.size,h.block⟩
theorem aS {w w':World}{r:Option Nat}(h:w.grownBy w' r):w.grownBy w'.drew r:=⟨h.os,h.tape,h.output,h.size,h.block⟩
section
variable {P:Program}
theorem rI {md:Region.Mode}{ops:Array Oper}{Q:Exit->Act->World->Prop}{S:World->Prop}{i:Nat}{oi:Oper}{v:Value}{fuel:Nat}{listed:Array Bool}{a:Act}{w:World}(hi:ops.toList[i]? = some oi)
  (hs:Region.noSelect ops=true) (hf:Region.free md ops listed i=true) (hr:(Region.ready md ops listed).contains i=true)
  (hQ:∀c a w,Q (.panic c) (a.put oi.dst v) w->Q (.panic c) a w) (hw:Region.wanted oi (yielded ops a.tmps)=true) (hv:∀w,S w->(execOp a.eval oi).run P w=.ok (.value v) w) (hS:S w)
  (h:wpAnyH P md ops Q S fuel (listed.setIfInBounds i true) (a.put oi.dst v) w):wpAnyH P md ops Q S (fuel+1) listed a w:=
 wpAnyH_take (by simpa using hi) hs hf hr hQ (.inl ⟨hw,hv⟩) hS h
theorem tT {md:Region.Mode}{ops:Array Oper}{Q:Exit->Act->World->Prop}{S:World->Prop}{i:Nat}{oi:Oper}{fuel:Nat}{listed:Array Bool}{a:Act}{w:World}(hi:ops.toList[i]? = some oi)
  (hs:Region.noSelect ops=true) (hf:Region.free md ops listed i=true) (hr:(Region.ready md ops listed).contains i=true)
  (hQ:∀c a w,Q (.panic c) (a.put oi.dst undef) w->Q (.panic c) a w) (hw:Region.wanted oi (yielded ops a.tmps)=false) (hS:S w)
  (h:wpAnyH P md ops Q S fuel (listed.setIfInBounds i true) (a.put oi.dst undef) w):wpAnyH P md ops Q S (fuel+1) listed a w:=
 wpAnyH_take (by simpa using hi) hs hf hr hQ (.inr ⟨hw,rfl⟩) hS h
def Tk (_:List Nat)(p:Prop):Prop:=p
theorem tkI (is:List Nat){p:Prop}(h:Tk is p):p:=h
theorem tkE {p:Prop}(h:p):Tk [] p:=h
theorem tkS {is:List Nat}{md:Region.Mode}{ops:Array Oper}{Q:Exit->Act->World->Prop}{S:World->Prop}{i:Nat}{oi:Oper}{v:Value}{fuel:Nat}{listed:Array Bool}{a:Act}{w:World}(hi:ops.toList[i]? = some oi)
  (hc:(Region.noSelect ops&&Region.free md ops listed i&&(Region.ready md ops listed).contains i)=true) (hQ:∀c a w,Q (.panic c) (a.put oi.dst v) w->Q (.panic c) a w) (hw:Region.wanted oi (yielded ops a.tmps)=true)
  (hv:∀w,S w->(execOp a.eval oi).run P w=.ok (.value v) w) (hS:S w) (h:Tk is (wpAnyH P md ops Q S fuel (listed.setIfInBounds i true) (a.put oi.dst v) w)):Tk (i::is) (wpAnyH P md ops Q S (fuel+1) listed a w):=by
 simp only[Bool.and_eq_true] at hc;exact rI hi hc.1.1 hc.1.2 hc.2 hQ hw hv hS h
theorem tkO {is:List Nat}{md:Region.Mode}{ops:Array Oper}{Q:Exit->Act->World->Prop}{S:World->Prop}{i:Nat}{oi:Oper}{fuel:Nat}{listed:Array Bool}{a:Act}{w:World}(hi:ops.toList[i]? = some oi)
  (hc:(Region.noSelect ops&&Region.free md ops listed i&&(Region.ready md ops listed).contains i)=true) (hQ:∀c a w,Q (.panic c) (a.put oi.dst undef) w->Q (.panic c) a w) (hw:Region.wanted oi (yielded ops a.tmps)=false)
  (hS:S w) (h:Tk is (wpAnyH P md ops Q S fuel (listed.setIfInBounds i true) (a.put oi.dst undef) w)):Tk (i::is) (wpAnyH P md ops Q S (fuel+1) listed a w):=by
 simp only[Bool.and_eq_true] at hc;exact tT hi hc.1.1 hc.1.2 hc.2 hQ hw hS h
theorem wR {md:Region.Mode}{ops:Array Oper}{Q:Exit->Act->World->Prop}{S:World->Prop}(i:Nat){o:Oper}{fuel:Nat}{listed:Array Bool}{a:Act}{w:World}(ho:ops[i]? = some o)(hr:Region.ready md ops listed = [i])
  (h:∀K':Act->World->Prop,Shut (∀a w,S w->(S w->wpAnyH P md ops Q S fuel (listed.setIfInBounds i true) a w)->K' a w)->if Region.wanted o (yielded ops a.tmps)=true then Oper.wp P o a w K' Q else K' (a.put o.dst undef) w):wpAnyH P md ops Q S (fuel+1) listed a w:=
 wpAnyH_ready hr (by simp) (.cons ho h .nil)
theorem tkA {α : Type}(l:List α)(i:Nat)(a : α):l.toArray.setIfInBounds i a=(l.set i a).toArray:=List.setIfInBounds_toArray ..
theorem tk0 {α : Type}(x : α)(l:List α)(a : α):(x::l).set 0 a=a::l:=rfl
theorem tk1 {α : Type}(x : α)(l:List α)(n:Nat)(a : α):(x::l).set (n+1) a=x::l.set n a:=rfl
theorem tkB {ops:Array Oper}{Q:Exit->Act->World->Prop}{S:World->Prop}{id B:Nat}{a:Act}{w W0:World}(H:Hid (∀W,Below B W0 W->S W))(n:Nat)(hn:ops.size=n)(hm:P.follows .mixedOrders=true)(hb:Below B W0 w)
  (h:S w.drew->wpAnyH P .any ops Q S n (List.replicate n false).toArray a w.drew):(Code.region id ops true).wp P Q a w:=by
 subst hn;exact wp_region_held_drew hm (H.out _ hb.drew) (fun hS=>by have:=h hS;simpa using this)
theorem cI {w0:World}{ops:Array Oper}{rest:List Oper}{o:Oper}{a:Act}{Q:Exit->Act->World->Prop}(hgd:o.guard=none)(s x:Operand)(t:TypeId)
  (ho:o.op=.call { callee:=.builtin .append,args:=#[s,x],argTypes:=#[t,t] })
  (e:TypeId) (z:Value) (size bytes:Nat) (ht:P.underlying t=some (.slice e)) (hi:(P.info? e).map (fun i=>(i.zero,i.size,i.bytes))=some (some z,size,bytes)) (hzs:z.cells.size=size) (hsz:0<size)
  (B:Nat) (W0:World) (v:Value) (n:Nat) (xs:List Value) (hs:a.eval s=v) (hown:Own e size B W0 v n xs w0)
  (m:Nat) (news:Array Value) (hx:a.eval x=.slice (some ⟨w0.heap.size,0,none⟩) m m) (hl:news.size=m*size) (h1:∀u∈news.toList,u.oneCell'=true)
  (hlim:(n+m)*bytes<=140737488355328) (hmax:n+m<=maxLen)
  (h:∀a' cap' w',Own e size B W0 (.slice a' (n+m) cap') (n+m) (xs++news.toList) w'->w0.grownBy w' v.ownBlock->((Value.slice a' (n+m) cap').ownBlock=v.ownBlock∨∃k,(Value.slice a' (n+m) cap').ownBlock=some k/\w0.heap.size<=k) ->
   wpList P ops Q rest (a.put o.dst (.slice a' (n+m) cap')) w'):wpList P ops Q (o::rest) a (w0.alloc (.cells news e)):=by
 obtain⟨i,hi,hz,hsize,hby⟩:=info_parts hi;have hown2:=hown.alloc (.cells news e);have hr:Rd (w0.alloc (.cells news e)) (some ⟨w0.heap.size,0,none⟩) m m size news.toList:=aM hl (by omega);refine wpList_append_own_at _ hgd s x t ho B e i z size bytes ht hi hz hsize hby hzs hsz v n xs hs hown2.row ⟨w0.heap.size,0,none⟩ m m news.toList hx hr.len ?_ h1 hmax hlim hown2.base ?_
 ·intro j u hj;have hj':=(List.getElem?_eq_some_iff.1 hj).1;have hm0:0<m:=by
   rcases Nat.eq_zero_or_pos m with h0|h0
   ·have:=hr.len;rw[h0,Nat.zero_mul] at this;omega
   ·exact h0
  obtain⟨b,off,e1,_,hc⟩:=hr.at' hm0;cases e1;rw[Addr.add_lit,hc j hj'];rw[List.getElem?_eq_getElem hj'] at hj;exact hj
 ·intro v' w' ho' hg _ hN;have hO:Own e size B W0 v' (n+m) (xs++news.toList) w':=⟨ho',hown2.below.grown hg hown2.base (fun k hk=>(hown2.row.lt k hk).1),Nat.le_trans hown2.base hg.size⟩;obtain⟨a',cap',rfl,_,_⟩:=hO.shape;refine h a' cap' w' hO ?_ ?_
  ·exact aq (World.grownBy_alloc w0 _ _) hg (fun g hg' => .inl hg')
  ·rcases hN with hN|hN
   ·exact .inl hN
   ·exact .inr ⟨_,hN,by simp⟩
theorem qD {w:World}{o:Oper}{a:Act}{K:Act->World->Prop}{Q:Exit->Act->World->Prop}(s x:Operand)(t:TypeId)
  (ho:o.op=.call { callee:=.builtin .append,args:=#[s,x],argTypes:=#[t,t] })
  (e:TypeId) (z:Value) (size bytes:Nat) (ht:P.underlying t=some (.slice e)) (hi:(P.info? e).map (fun i=>(i.zero,i.size,i.bytes))=some (some z,size,bytes)) (hzs:z.cells.size=size) (hsz:0<size)
  (B:Nat) (W0:World) (v:Value) (n:Nat) (xs:List Value) (hs:a.eval s=v) (hown:Own e size B W0 v n xs w)
  (ad:Option Addr) (m c:Nat) (news:List Value) (hx:a.eval x=.slice ad m c) (hr:Rd w ad m c size news) (h1:∀u∈news,u.oneCell'=true)
  (hlim:(n+m)*bytes<=140737488355328) (hmax:n+m<=maxLen)
  (h:∀a' cap' w',Own e size B W0 (.slice a' (n+m) cap') (n+m) (xs++news) w'->w.grownBy w' v.ownBlock->K (a.put o.dst (.slice a' (n+m) cap')) w'):Oper.wp P o a w K Q:=by
 obtain⟨i,hi,hz,hsize,hby⟩:=info_parts hi;cases ad with
 | some ad =>
  refine wp_append_own w s x t ho B e i z size bytes ht hi hz hsize hby hzs hsz v n xs hs hown.row ad m c news hx hr.len ?_ h1 hmax hlim hown.base ?_
  ·intro j u hj;have hj':=(List.getElem?_eq_some_iff.1 hj).1;have hm0:0<m:=by
    rcases Nat.eq_zero_or_pos m with h0|h0
    ·have:=hr.len;rw[h0] at this;simp at this;subst this;simp at hj'
    ·exact h0
   obtain⟨b,off,e1,_,hc⟩:=hr.at' hm0;cases e1;rw[Addr.add_lit,hc j hj'];rw[List.getElem?_eq_getElem hj'] at hj;exact hj
  ·intro v' w' ho' hg _;have hO:Own e size B W0 v' (n+m) (xs++news) w':=⟨ho',hown.below.grown hg hown.base (fun k hk=>(hown.row.lt k hk).1),Nat.le_trans hown.base hg.size⟩;obtain⟨a',cap',rfl,_,_⟩:=hO.shape;exact h a' cap' w' hO hg
 | none =>
  have hc0:=hr.nil rfl;have hm0:m=0:=by have:=hr.le;omega
  subst hc0;subst hm0;have hn:news = []:=List.eq_nil_of_length_eq_zero (by have:=hr.len;simpa using this);subst hn;have hrun:=run_append_owned_none (P:=P) w B t o.type e i size ht hi v n xs hown.row;unfold Oper.wp;simp[execOp,ho,resolve,invoke,builtin,hs,hx,hrun,Result.andThen];obtain⟨a',cap',rfl,_,_⟩:=hown.shape;exact h a' cap' w (by simpa using hown) (aA _ zB)
end
theorem gT (s:ByteArray)(k:Nat)(h:k<s.size):s.data.toList.take (k+1)=s.data.toList.take k ++ [s[k]]:=by
 rw[List.take_succ_eq_append_getElem (by simpa using h)];rfl
theorem dP (a k n:Nat)(h:k<=n)(ha:0<a):a ^ k<=a ^ n:=Nat.pow_le_pow_right ha h
def lo7 (m:Nat):UInt8:=UInt8.ofNat m
def Df (m:Nat):UInt8:=UInt8.ofNat (128+m % 128)
def cr (n:Nat):List UInt8:=if h:n<128 then [lo7 n] else Df n::cr (n / 128)
termination_by n
decreasing_by omega
theorem fJ {n:Nat}(h:n<128):cr n = [lo7 n]:=by rw[cr];simp[h]
theorem gN {n:Nat}(h:¬n<128):cr n=Df n::cr (n / 128):=by rw[cr];simp[h]
theorem sd (k:Nat):∀n,n<128 ^ (k+1)->(cr n).length<=k+1:=by
 induction k with
 | zero=>intro n h;rw[fJ (by simpa using h)];simp
 | succ k ih =>
  intro n h;by_cases h1:n<128
  ·rw[fJ h1];simp
  ·rw[gN h1];have:=ih (n / 128) (by rw[Nat.pow_succ] at h;omega);simp only[List.length_cons];omega
theorem gU (n:Nat)(h:n<=562949953421311):(cr n).length<=7:=sd 6 n (by omega)
theorem pL (n:Nat):cr n ≠ []:=by
 by_cases h:n<128
 ·rw[fJ h];simp
 ·rw[gN h];simp
theorem pS (m:Nat)(h:m<128):u8s [lo7 m] = [.int .u8 (m:Int)]:=by have:=ms (m:Int) (by omega) (by omega);rw[Int.toNat_natCast] at this;exact this
theorem pE (m:Nat):u8s [Df m] = [.int .u8 (128+(m:Int) % 128)]:=by
 have:=ms (128+(m:Int) % 128) (by omega) (by omega);rw[show (128+(m:Int) % 128).toNat=128+m % 128 from by omega] at this;exact this
def uI (m:Nat):UInt8:=UInt8.ofNat (48+m % 10)
def uK (m:Nat):List UInt8:=if h:m=0 then [] else uI m::uK (m / 10)
termination_by m
decreasing_by omega
end Go.Proofs.YtlkfabkkjfmnmaaGreatDoor
