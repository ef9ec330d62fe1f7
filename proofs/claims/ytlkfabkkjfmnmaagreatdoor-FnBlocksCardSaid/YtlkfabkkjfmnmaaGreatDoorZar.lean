import Derived.Test.YtlkfabkkjfmnmaaGreatDoorZaa
import Derived.Test.YtlkfabkkjfmnmaaGreatDoorZaq
import Derived.ArgAppend
import Derived.Deep.DeepCutAuto
namespace Go.Proofs.YtlkfabkkjfmnmaaGreatDoor
open Go.RowKit
set_option linter.all false
set_option maxRecDepth 1000000
set_option maxHeartbeats 6000000
structure Qu (B:Nat)(W0:World)(g off cap:Nat)(xs:List Int)(w:World):Prop where
 base:B<=g
 lt:g<w.heap.size
 len:xs.length<=cap
 max:cap<=maxLen
 cells:∀j (h:j<xs.length),w.cell? ⟨g,off+j,none⟩=some (.int .i64 xs[j])
 spare:∀j,j<cap->(w.cell? ⟨g,off+j,none⟩).isSome=true/\w.frozen? ⟨g,off+j,none⟩=false
 below:Below B W0 w
 bse:B<=w.heap.size
section
variable {B:Nat} {W0 w w':World} {g off cap:Nat} {xs:List Int}
theorem Qu.block (h:Qu B W0 g off cap xs w)(hb:w'.heap[g]? = w.heap[g]?)(hB:Below B W0 w')(hs:w.heap.size<=w'.heap.size):Qu B W0 g off cap xs w':=
 ⟨h.base,Nat.lt_of_lt_of_le h.lt hs,h.len,h.max,fun j hj=>(World.cell?_of_block (a:=⟨g,off+j,none⟩) hb).trans (h.cells j hj),fun j hj=>by
  rw[World.cell?_of_block (a:=⟨g,off+j,none⟩) hb,World.frozen?_of_block (a:=⟨g,off+j,none⟩) hb];exact h.spare j hj,hB,Nat.le_trans h.bse hs⟩
theorem Qu.kept (h:Qu B W0 g off cap xs w)(hb:Below w.heap.size w w'):Qu B W0 g off cap xs w':=
 h.block (hb.block g h.lt) (h.below.trans (hb.mono h.bse)) hb.size
theorem Qu.other (h:Qu B W0 g off cap xs w){r:Option Nat}(hg:w.grownBy w' r)(hr:∀k,r=some k->B<=k)(hne:r≠some g):Qu B W0 g off cap xs w':=
 h.block (hg.block g h.lt (fun e=>hne e.symm)) (h.below.grown hg h.bse hr) hg.size
theorem Qu.alloc (h:Qu B W0 g off cap xs w)(o:Obj):Qu B W0 g off cap xs (w.alloc o):=h.kept (zB.alloc zN _)
theorem Qu.drew (h:Qu B W0 g off cap xs w):Qu B W0 g off cap xs w.drew:=h.kept zB.drew
theorem Qu.pop {x:Int}(h:Qu B W0 g off cap (x::xs) w):Qu B W0 g (if cap=1 then off else off+1) (cap - 1) xs w:=by
 have hl:=h.len;simp only[List.length_cons] at hl;by_cases hc:cap=1
 ·rw[if_pos hc];subst hc;have e:xs = []:=List.eq_nil_of_length_eq_zero (by omega);subst e;exact⟨h.base,h.lt,zN,by unfold maxLen;omega,fun j hj=>by simp at hj,fun j hj=>by omega,h.below,h.bse⟩
 ·rw[if_neg hc];refine⟨h.base,h.lt,by omega,by have:=h.max;omega,fun j hj=>?_,fun j hj=>?_,h.below,h.bse⟩
  ·have:=h.cells (j+1) (by simp;omega);rw[List.getElem_cons_succ] at this;rw[show off+1+j=off+(j+1) from by omega];exact this
  ·have:=h.spare (j+1) (by omega);rw[show off+1+j=off+(j+1) from by omega];exact this
theorem Qu.head {x:Int}(h:Qu B W0 g off cap (x::xs) w):w.cell? ⟨g,off,none⟩=some (.int .i64 x):=by
 have:=h.cells 0 (by simp);simpa using this
theorem us {W0 w:World}{B:Nat}(hb:Below B W0 w)(hB:B<=w.heap.size)(x:Int)(e:TypeId):Qu B W0 w.heap.size 0 1 [x] (w.alloc (.cells #[.int .i64 x] e)):=by
 have ho:=Own.lit (e:=e) (size:=1) (n:=1) hb hB #[.int .i64 x] rfl (by decide);refine⟨hB,by simp,by simp,by unfold maxLen;omega,fun j hj=>?_,fun j hj=>?_,ho.below,ho.base⟩
 ·have e:j=0:=by simp at hj;omega
  subst e;simp
 ·have e:j=0:=by omega
  subst e;have:=ho.cell 0 (by simp);rw[this];exact⟨rfl,ho.free 0⟩
theorem uD {W0 w:World}{B b:Nat}{e:TypeId}{v:Value}{n:Nat}{ys:List Int}(h:w.ownsRow b e 1 v n (aE ys))(hB:B<=b)(hn:0<n)(hbl:Below B W0 w)(hs:B<=w.heap.size):∃g' cap',v=.slice (some ⟨g',0,none⟩) n cap'/\b<=g'/\Qu B W0 g' 0 cap' ys w:=by
 have hl:ys.length=n:=by have:=h.1;simpa using this
 rcases h.2 with ⟨_,h0⟩|⟨g',cap',cur,rfl,hg,hgg,hle,hmx,hcs,htk⟩
 ·omega
 ·refine⟨g',cap',rfl,hg,⟨Nat.le_trans hB hg,(Array.getElem?_eq_some_iff.1 hgg).1,by omega,hmx,fun j hj=>?_,fun j hj=>?_,hbl,hs⟩⟩
  ·rw[Nat.zero_add,h.cellAt j (by omega),List.getElem?_eq_getElem (by simpa using hj),br ys j hj]
  ·rw[Nat.zero_add];refine⟨?_,frozen_of_row w g' j cur e hgg⟩;rw[cell_of_row w g' j cur e (0,0) hgg];have:j<cur.size:=by omega
   simp[this]
end
section
variable {P:Program}
theorem d6 {w0:World}{ops:Array Oper}{rest:List Oper}{o:Oper}{a:Act}{Q:Exit->Act->World->Prop}(hgd:o.guard=none)(s x:Operand)(t:TypeId)
  (ho:o.op=.call { callee:=.builtin .append,args:=#[s,x],argTypes:=#[t,t] })
  (e:TypeId) (z:Value) (size bytes:Nat) (ht:P.underlying t=some (.slice e)) (hi:(P.info? e).map (fun i=>(i.zero,i.size,i.bytes))=some (some z,size,bytes)) (hzs:z.cells.size=size) (hsz:0<size)
  (B:Nat) (W0:World) (v:Value) (n:Nat) (xs:List Value) (hs:a.eval s=v) (hown:Own e size B W0 v n xs w0)
  (m:Nat) (news:Array Value) (b:Nat) (hx:a.eval x=.slice (some ⟨b,0,none⟩) m m) (hb:b=w0.heap.size) (hl:news.size=m*size) (h1:∀u∈news.toList,u.oneCell'=true)
  (hlim:(n+m)*bytes<=140737488355328) (hmax:n+m<=maxLen)
  (h:∀a' cap' w',Own e size B W0 (.slice a' (n+m) cap') (n+m) (xs++news.toList) w'->w0.grownBy w' v.ownBlock->((Value.slice a' (n+m) cap').ownBlock=v.ownBlock∨∃k,(Value.slice a' (n+m) cap').ownBlock=some k/\w0.heap.size<=k) ->
   wpList P ops Q rest (a.put o.dst (.slice a' (n+m) cap')) w'):wpList P ops Q (o::rest) a (w0.alloc (.cells news e)):=by
 subst hb;exact cI hgd s x t ho e z size bytes ht hi hzs hsz B W0 v n xs hs hown m news hx hl h1 hlim hmax h
theorem ti {w0:World}{ops:Array Oper}{rest:List Oper}{o:Oper}{a:Act}{Q:Exit->Act->World->Prop}(hgd:o.guard=none)(s x:Operand)(t:TypeId)
  (ho:o.op=.call { callee:=.builtin .append,args:=#[s,x],argTypes:=#[t,t] })
  (e:TypeId) (ht:P.underlying t=some (.slice e)) (hi:(P.info? e).map (fun i=>(i.zero,i.size,i.bytes))=some (some (.int .i64 0),1,8))
  (B:Nat) (W0:World) (g off cap:Nat) (xs:List Int) (n:Nat) (hn:xs.length=n) (hs:a.eval s=.slice (some ⟨g,off,none⟩) n cap) (h:Qu B W0 g off cap xs w0)
  (y:Int) (b:Nat) (hx:a.eval x=.slice (some ⟨b,0,none⟩) 1 1) (hb:b=w0.heap.size) (hlim:n<=1073741824)
  (hk:∀g' off' cap' w',Qu B W0 g' off' cap' (xs ++ [y]) w'->w0.grownBy w' (some g)->(g'=g∨w0.heap.size<=g')->wpList P ops Q rest (a.put o.dst (.slice (some ⟨g',off',none⟩) (n+1) cap')) w'):wpList P ops Q (o::rest) a (w0.alloc (.cells #[.int .i64 y] e)):=by
 subst hb;subst hn;obtain⟨i,hi,hz,hsize,hby⟩:=info_parts hi;have h1:=h.alloc (.cells #[.int .i64 y] e);have Ny:(w0.alloc (.cells #[.int .i64 y] e)).cell? ⟨w0.heap.size,0,none⟩=some (.int .i64 y):=by go_simp
 refine wpList_append_arg _ hgd s x t ho e i (.int .i64 0) 1 8 ht hi hz hsize hby rfl (by decide) g off xs.length cap (aE xs) hs (by simp) ?_ ⟨w0.heap.size,0,none⟩ 1 1 [.int .i64 y] hx rfl ?_ (by simp[Value.oneCell']) ?_ (by unfold maxLen;omega) (by omega) ?_ ?_
 ·intro j u hj;have hj':=(List.getElem?_eq_some_iff.1 hj).1;rw[List.getElem?_eq_getElem hj',br xs j (by simpa using hj')] at hj;rw[h1.cells j (by simpa using hj')];exact hj
 ·intro j u hj;have hj':=(List.getElem?_eq_some_iff.1 hj).1;have e0:j=0:=by simp at hj';omega
  subst e0;simp only[List.getElem?_cons_zero,Option.some.injEq] at hj;subst hj;exact Ny
 ·intro hr j hj;have e0:j=0:=by simp at hj;omega
  subst e0;have:=h1.spare xs.length (by omega);rw[Nat.mul_one,Nat.add_zero];exact this
 ·intro hr;rw[Nat.mul_one];have hsp:=h1.spare xs.length (by omega);have hset:(w0.alloc (.cells #[.int .i64 y] e)).setCells g (off+xs.length) [.int .i64 y]=(w0.alloc (.cells #[.int .i64 y] e)).setCell ⟨g,off+xs.length,none⟩ (.int .i64 y):=rfl;rw[hset];have hin:=World.cell?_setCells_in g [.int .i64 y] (off+xs.length) (w0.alloc (.cells #[.int .i64 y] e)) (fun j hj=>by
   have e0:j=0:=by simp at hj;omega
   subst e0;exact hsp.1) 0 (by simp)
  rw[hset,Nat.add_zero] at hin;have hout:∀j,j≠xs.length->((w0.alloc (.cells #[.int .i64 y] e)).setCell ⟨g,off+xs.length,none⟩ (.int .i64 y)).cell? ⟨g,off+j,none⟩=(w0.alloc (.cells #[.int .i64 y] e)).cell? ⟨g,off+j,none⟩:=fun j hj=>by
   have:=World.cell?_setCells_out g [.int .i64 y] (off+xs.length) (w0.alloc (.cells #[.int .i64 y] e)) ⟨g,off+j,none⟩ (fun _ _=>by simp only[List.length_singleton];omega);rw[hset] at this;exact this
  refine hk g off cap _ ⟨h1.base,by simpa[World.setCell] using h1.lt,by simp;omega,h1.max,fun j hj=>?_,fun j hj=>?_,h1.below.setCell (p:=⟨g,off+xs.length,none⟩) h1.base _,by simpa[World.setCell] using h1.bse⟩ (aq (World.grownBy_alloc w0 _ _) ⟨rfl,rfl,rfl,by simp[World.setCell],fun k _ hk=>heap_setCell_other _ ⟨g,off+xs.length,none⟩ k _ (fun e=>hk (by simp[e]))⟩ (fun q hq => .inl hq)) (.inl rfl)
  ·by_cases hjl:j=xs.length
   ·subst hjl;rw[hin];simp
   ·have hj2:j<xs.length:=by simp at hj;omega
    rw[hout j hjl,h1.cells j hj2,List.getElem_append_left hj2]
  ·by_cases hjl:j=xs.length
   ·subst hjl;rw[hin];exact⟨rfl,by rw[World.frozen?_setCell];exact hsp.2⟩
   ·rw[hout j hjl,World.frozen?_setCell];exact h1.spare j hj
 ·intro hr v' w' hown hg;have hg2:w0.grownBy w' (some g):=aq (World.grownBy_alloc w0 _ _) hg (fun q hq=>by cases hq);have hB:=h.below.grown hg2 h.bse (fun q hq=>by cases hq;exact h.base);obtain⟨g',cap',rfl,hgg,hq⟩:=uD (ys:=xs ++ [y]) (B:=B) (W0:=W0) (by rw[cm];exact hown) (by simp;have:=h.bse;omega) (by omega) hB (Nat.le_trans h.bse hg2.size);exact hk g' 0 cap' w' hq hg2 (.inr (by have:(w0.alloc (.cells #[.int .i64 y] e)).heap.size=w0.heap.size+1:=(by simp);omega))
end
def uM (l:List Int)(x:Int)(w:World)(e:Ending)(w':World):Prop := ∃r:Int,e=.returned (.int .i64 r)/\decide (0<=r)=decide (x∈l) /\ -1<=r/\r<=l.length/\w=w'
theorem oQ (a:Option Addr)(n cap:Nat)(l:List Int)(x:Int)(w:World)(h:Rd w a n cap 1 (aE l)) :
  Calls Tryz.prog 88 #[.slice a n cap,.int .i64 x] w (uM l x w):=by
 have hl:l.length=n:=by have:=h.len;simpa using this
 subst hl;have hm:=Nat.le_trans h.le h.max;unfold maxLen at hm;have H:=zH h;clear h;go_enter Tryz.func88,Tryz.ntmps88
 go_wp2;go_loopg [8] l.length (fun gg i wr => ∃k:Nat,k+gg=l.length/\i=.int .i64 (k:Int)/\Hid (x ∉ l.take k)/\wr=w)
 case atStart=>exact⟨0,by omega,rfl,zH (by simp),rfl⟩
 case round =>
  obtain⟨k,hk,rfl,HA,rfl⟩:=hrel;by_cases hlt:k<l.length
  ·obtain⟨b,off,rfl,hbs,hc⟩:=H.out.at' (by omega);have hc0:=hc k (by simpa using hlt);rw[br l k hlt] at hc0;have hi:(k:Int)<(l.length:Int):=by omega
   have hi0:(0:Int)<=(k:Int):=by omega
   have HY:Hid (x=l[k]->x∈l):=zH (fun e=>by rw[e];exact List.getElem_mem hlt);have HN:Hid (¬x=l[k]->x ∉ l.take (k+1)):=zH (fun e=>by
    rw[List.take_succ_eq_append_getElem hlt,List.mem_append,List.mem_singleton];exact fun h=>h.elim HA.out e)
   clear hc H;generalize l[k]=y at *;by_cases hq:x=y
   ·have xG:=zH (HY.out hq);have hqe:(x==y)=true:=by simp[hq]
    clear HY HN hq;go_wp2;go_ret;exact⟨_,rfl,by rw[decide_eq_true hi0,decide_eq_true xG.out],by omega,by omega,rfl⟩
   ·have yf:=zH (HN.out hq);have hqe:(x==y)=false:=by simp[hq]
    clear HY HN hq;go_wp2;go_roundg (gk - 1)
    case measure=>omega
    case rel=>exact⟨k+1,by omega,by go_num,yf,rfl⟩
  ·have hkl:k=l.length:=by omega
   subst hkl;rw[List.take_length] at HA;go_wp2;go_ret;exact⟨-1,rfl,by rw[decide_eq_false HA.out];rfl,by omega,by omega,rfl⟩
theorem jH (a:Option Addr)(n cap:Nat)(l:List Int)(x:Int)(w:World)(h:Rd w a n cap 1 (aE l)) :
  Calls Tryz.prog 59 #[.slice a n cap,.int .i64 x] w fun e w'=>e=.returned (.bool (decide (x∈l)))/\w=w':=by
 have hl:l.length=n:=by have:=h.len;simpa using this
 have hm:=Nat.le_trans h.le h.max;unfold maxLen at hm;have H:=zH h;clear h;go_enter Tryz.func59,Tryz.ntmps59
 go_wp2_with fail
 refine(oQ a n cap l x _ H.out).mono ?_;rintro e w1 ⟨r,rfl,hr,hr0,hr1,rfl⟩;have HR:=zH hr;clear hr;go_wp2;go_ret;exact⟨ah HR.out,rfl⟩
structure QInv (l:List InoL)(r:Int)(out:List Int)(p:Nat):Prop where
 ple:p<=out.length+1
 nd:out.Nodup
 bel:∀y∈out,Bel l r y
 clo:∀i,i<p->∀(hi:i<(r::out).length) (k:Nat) (hk:k<l.length),atF l (r::out)[i]=(k:Int)->∀e∈l[k].ents,e.id∈out
structure QIn (l:List InoL)(r:Int)(out0:List Int)(es:List EntL)(out:List Int)(j:Nat):Prop where
 pre:∃t,out=out0++t
 nd:out.Nodup
 bel:∀y∈out,Bel l r y
 don:∀m,m<j->∀hm:m<es.length,es[m].id∈out
theorem oX (l:List InoL)(r:Int):QInv l r [] 0:=⟨by omega,List.nodup_nil,fun y h=>(by cases h),fun i h=>by omega⟩
theorem QInv.inn {l:List InoL}{r:Int}{out:List Int}{p:Nat}(h:QInv l r out p)(es:List EntL):QIn l r out es out 0:=⟨⟨[],by simp⟩,h.nd,h.bel,fun m hm=>by omega⟩
theorem QIn.yes {l:List InoL}{r:Int}{out0 out:List Int}{es:List EntL}{j:Nat}(h:QIn l r out0 es out j)(hj:j<es.length)(hy:es[j].id∈out):QIn l r out0 es out (j+1):=
 ⟨h.pre,h.nd,h.bel,fun m hm hm2=>by
  by_cases e:m=j
  ·subst e;exact hy
  ·exact h.don m (by omega) hm2⟩
theorem QIn.no {l:List InoL}{r:Int}{out0 out:List Int}{es:List EntL}{j:Nat}(h:QIn l r out0 es out j)(hj:j<es.length)(hy:es[j].id ∉ out)(hb:Bel l r es[j].id):QIn l r out0 es (out ++ [es[j].id]) (j+1):=by
 obtain⟨t,ht⟩:=h.pre;refine⟨⟨t ++ [es[j].id],by rw[ht,List.append_assoc]⟩,?_,?_,?_⟩
 ·rw[List.nodup_append];exact⟨h.nd,by simp,fun a ha b hb2 e=>by
   rw[List.mem_singleton] at hb2;subst hb2;subst e;exact hy ha⟩
 ·intro y hy2;rcases List.mem_append.1 hy2 with hy2|hy2
  ·exact h.bel y hy2
  ·rw[List.mem_singleton] at hy2;subst hy2;exact hb
 ·intro m hm hm2;by_cases e:m=j
  ·subst e;simp
  ·exact List.mem_append.2 (.inl (h.don m (by omega) hm2))
theorem QIn.fin {l:List InoL}{r:Int}{out0 out:List Int}{p k:Nat}(h0:QInv l r out0 p)(hp:p<out0.length+1)(hk:k<l.length)(ha:atF l ((r::out0)[p]'(by simp;omega))=(k:Int))(h:QIn l r out0 l[k].ents out l[k].ents.length):QInv l r out (p+1):=by
 obtain⟨t,rfl⟩:=h.pre;refine⟨by simp;omega,h.nd,h.bel,?_⟩;intro i hi hil k2 hk2 ha2 e he;have Gr:i<(r::out0).length:=by simp;omega
 have hget:(r::(out0++t))[i]'hil=(r::out0)[i]'Gr:=by
  have:r::(out0++t)=(r::out0)++t:=rfl;simp only[this];exact List.getElem_append_left Gr
 rw[hget] at ha2;by_cases e2:i=p
 ·subst e2;have:k2=k:=by have:=ha2.symm.trans ha;omega
  subst this;obtain⟨m,hm,rfl⟩:=List.mem_iff_getElem.1 he;exact h.don m hm hm
 ·exact List.mem_append.2 (.inl (h0.clo i (by omega) Gr k2 hk2 ha2 e he))
theorem QInv.all {l:List InoL}{r:Int}{out:List Int}{p:Nat}(h:QInv l r out p)(hp:p=out.length+1):∀y,y∈out ↔ Bel l r y:=by
 refine oY out h.bel ?_;intro y hy k hk ha e he;have:∃i,i<p/\∃hi:i<(r::out).length,(r::out)[i]=y:=by
  rcases hy with rfl|hy
  ·exact⟨0,by omega,by simp,rfl⟩
  ·obtain⟨i,hi,rfl⟩:=List.mem_iff_getElem.1 hy;exact⟨i+1,by omega,by simp;omega,rfl⟩
 obtain⟨i,hi,hil,rfl⟩:=this;exact h.clo i hi hil k hk ha e he
theorem QInv.short {l:List InoL}{r:Int}{out:List Int}{p:Nat}(h:QInv l r out p)(hk:∀x∈l,∀e∈x.ents,0<=atF l e.id):out.length<=l.length:=lI l out h.nd (fun y hy=>jb hk (h.bel y hy))
theorem QIn.short {l:List InoL}{r:Int}{out0 out:List Int}{es:List EntL}{j:Nat}(h:QIn l r out0 es out j)(hk:∀x∈l,∀e∈x.ents,0<=atF l e.id):out.length<=l.length:=lI l out h.nd (fun y hy=>jb hk (h.bel y hy))
theorem qy (r x:Int)(out:List Int)(p:Nat)(h:p<=out.length):(r::(out ++ [x])).drop (p+1)=(r::out).drop (p+1) ++ [x]:=by
 rw[List.drop_succ_cons,List.drop_succ_cons,List.drop_append_of_le_length h]
theorem lm (next:Int)(a:Option Addr)(n cap:Nat)(l:List InoL)(r:Int)(w:World)(hr:VolRd w a n cap l)(hk:∀x∈l,∀e∈x.ents,0<=atF l e.id)(h0:0<=atF l r)(hn:n<=1000) :
  Calls Tryz.prog 56 #[.agg #[.int .i64 next,.slice a n cap],.int .i64 r] w fun e w' => ∃g c out,e=.returned (.slice g out.length c)/\(∀y,y∈out ↔ Bel l r y)/\Rd w' g out.length c 1 (aE out)/\out.length<=l.length/\Below w.heap.size w w':=by
 have hl:l.length=n:=hr.len;subst hl;have hm:=hr.room;have HB:=zH (az w (.cells #[.int .i64 next,.slice a l.length cap] 26));have H:=zH (hr.step HB.out);obtain⟨c0,c1⟩:=gZ w 26 (.int .i64 next) (.slice a l.length cap);have HK:=zH hk;have zM:=zH h0;clear hr hk h0;go_enter Tryz.func56,Tryz.ntmps56
 go_upto_region 1 with fail
 have hw0:w.heap.size<(w.alloc (.cells #[.int .i64 next,.slice a l.length cap] 26)).heap.size:=by simp
 generalize w.alloc (.cells #[.int .i64 next,.slice a l.length cap] 26)=w1 at *;have uR:Hid (∀W,Below w1.heap.size w1 W->(W.cell? ⟨w.heap.size,0,none⟩=some (.int .i64 next)/\W.cell? ⟨w.heap.size,1,none⟩=some (.slice a l.length cap))):=zH (fun W hW=>⟨af c0 hW,af c1 hW⟩);have CY:=zH ((Own.lit (e:=3) (size:=1) (n:=0) (Below.refl w1.heap.size w1) zN #[] rfl (by decide)).alloc (.cells #[.int .i64 r] 3));have OQ:=zH (us (w:=w1.alloc (.cells #[] 3)) (az w1 (.cells #[] 3)) (by simp) r 3);have hs1:(w1.alloc (.cells #[] 3)).heap.size=w1.heap.size+1:=by simp
 rw[hs1] at OQ;clear c0 c1 hs1;go_wp2;go_loopg [5,6] (l.length+1) (fun gg o q wr => ∃(p nq:Nat) (out:List Int) (ga:Option Addr) (ca g off cq:Nat),p+gg=l.length+1/\nq+p=out.length+1/\o=.slice ga out.length ca/\q=.slice (some ⟨g,off,none⟩) nq cq/\Hid (QInv l r out p)/\Hid (Own 3 1 w1.heap.size w1 (.slice ga out.length ca) out.length (aE out) wr)/\Hid (Qu w1.heap.size w1 g off cq ((r::out).drop p) wr)/\Hid (∀k,(Value.slice ga out.length ca).ownBlock=some k->k≠g))
 case atStart =>
  refine⟨0,1,[],_,_,_,_,_,by omega,by simp,rfl,rfl,zH (oX l r),zH (by exact CY.out),zH (by exact OQ.out),zH (fun k hk=>?_)⟩;have h2:w1.heap.size=k:=by simpa[Value.ownBlock] using hk
  omega
 case round=>as_aux_lemma =>
  obtain⟨p,nq,out,ga,ca,g,off,cq,hp,hnq,rfl,rfl,HI,HO,HQ,wY⟩:=hrel;obtain⟨G1,hG1⟩:∃x:Nat,x=gk:=⟨_,rfl⟩;subst hG1;have hsh:=HI.out.short HK.out;by_cases hq0:0<nq
  ·have hpl:p<(r::out).length:=by simp;omega
   obtain⟨y,hy⟩:∃y,y=(r::out)[p]:=⟨_,rfl⟩;have hdr:(r::out).drop p=y::(r::out).drop (p+1):=by rw[hy];exact List.drop_eq_getElem_cons hpl
   have IL:Hid (Qu w1.heap.size w1 g off cq (y::(r::out).drop (p+1)) wr):=zH (by rw[←hdr];exact HQ.out);have hcy:=IL.out.head;have hnl:((r::out).drop (p+1)).length=nq - 1:=by simp;omega
   have hcl:=IL.out.len;simp only[List.length_cons] at hcl;have hcm:=IL.out.max;unfold maxLen at hcm;have ML:y=r∨Bel l r y:=by
    rcases Nat.eq_zero_or_pos p with h0|h0
    ·subst h0;left;rw[hy];rfl
    ·right
     obtain⟨p',rfl⟩:∃p',p=p'+1:=⟨p - 1,by omega⟩;rw[hy,List.getElem_cons_succ];exact HI.out.bel _ (List.getElem_mem _)
   have OT:0<=atF l y:=by
    rcases ML with h1|h1
    ·rw[h1];exact zM.out
    ·exact jb HK.out h1
   obtain⟨k,hk⟩:=Int.eq_ofNat_of_zero_le OT;obtain⟨hkl,Nz⟩:=gL l y k hk;have HAT:Hid (∀W,Below w1.heap.size w1 W->Calls Tryz.prog 86 #[.agg #[.int .i64 next,.slice a l.length cap],.int .i64 y] W fun e w'=>e=.returned (.int .i64 (k:Int))/\Below W.heap.size W w'):=zH (fun W hW=>by rw[←hk];exact jY next a _ cap l y W (H.out.step hW));have Ff:=zH (And.intro hk (And.intro ML hy));have wy:=zH HO.out.below;obtain⟨c0,c1⟩:=uR.out wr wy.out;have zO:Hid (∀W,Below wr.heap.size wr W->(W.cell? ⟨w.heap.size,0,none⟩=some (.int .i64 next)/\W.cell? ⟨w.heap.size,1,none⟩=some (.slice a l.length cap)/\W.cell? ⟨g,off,none⟩=some (.int .i64 y)/\Below wr.heap.size wr W)):=zH (fun W hW=>⟨af c0 hW,af c1 hW,af hcy hW,hW⟩);have hB0:=Below.refl wr.heap.size wr;have hq1:(0:Int)<(nq:Int):=by omega
   have OU:=zH hnq;have OV:=zH hpl;clear hk ML hy hdr OT Nz c0 c1 hcy hnq HQ;go_wp2;refine tkB zO 6 rfl (by kernel_rfl) (by first|exact zB|assumption) (fun uQ=>?_);simp only[List.replicate];clear hB0;refine tkI [0,1,2,3] ?_;(iterate 4 (refine tkS rfl (by kernel_rfl) (fun _ _ _=>id) (by rfl) (by intro w h;(try dsimp only at h);go_simp;try rfl) uQ ?_;try simp only[Act.put,tkA,tk0,tk1]));refine tkE ?_;refine wR 4 rfl (by kernel_rfl) (fun K hK=>?_);(try dsimp only at uQ);go_simp;(go_at_call 86;refine(HAT.out _ (ac wy.out uQ.2.2.2)).mono ?_;rintro e w2 ⟨rfl,hbk⟩)
   refine hK.out _ _ ?_ ?_
   ·(try dsimp only);(go_split_ands;first|exact zO.out _ (by assumption)|exact zO.out _ (Below.drew (by assumption))|exact zO.out _ (ac (by assumption) (by assumption)))
   clear hK K uQ;intro uQ;clear hbk;refine tkI [5] ?_;(iterate 1 (refine tkS rfl (by kernel_rfl) (fun _ _ _=>id) (by rfl) (by intro w h;(try dsimp only at h);go_simp;try rfl) uQ ?_;try simp only[Act.put,tkA,tk0,tk1]));refine tkE ?_;refine wpAnyH_done (by kernel_rfl) ?_ _;(try dsimp only at uQ);have zA:=zH uQ.2.2.2;have c1:=uQ.2.1;clear uQ zO HAT;have xK:=zH (HO.out.kept zA.out);have NA:=zH ((IL.out.kept zA.out).pop);clear HO IL;go_upto_region 6 with fail
   have hif:(if cq=1 then some (⟨g,off,none⟩:Addr) else some ⟨g,off+1,none⟩)=some ⟨g,if cq=1 then off else off+1,none⟩:=by split <;> rfl
   rw[hif];clear hif;obtain⟨n2,hn2⟩:∃n2,nq - 1=n2:=⟨_,rfl⟩;obtain⟨c2,hc2⟩:∃c2,cq - 1=c2:=⟨_,rfl⟩;obtain⟨o2,ho2⟩:∃o2,(if cq=1 then off else off+1)=o2:=⟨_,rfl⟩;rw[hc2,ho2] at NA;rw[hn2,hc2,ho2];have hpo:p<=out.length:=by have:=OV.out;simp at this;omega
   have yf:Hid (n2+(p+1)=out.length+1):=zH (by have:=OU.out;omega);obtain⟨b,offi,ad,ci,rfl,hbs,d0,d1,d2,d3,d4,hrd⟩:=bF H.out k hkl;replace d4:=af d4 (ac wy.out zA.out);have xz:=zH (HI.out.inn l[k].ents);have P7:Hid (∀out',QIn l r out l[k].ents out' l[k].ents.length->QInv l r out' (p+1)):=zH (fun out' h=>by
    obtain⟨h1,-,h3⟩:=Ff.out;exact QIn.fin HI.out (by omega) hkl (by rw[←h3];exact h1) h)
   have NB:Hid (∀e∈l[k].ents,Bel l r e.id):=zH (fun e he=>rY Ff.out.2.1 k hkl Ff.out.1 e he);have hki:(k:Int)<(l.length:Int):=by omega
   have Gs:(0:Int)<=(k:Int):=by omega
   have Gj:b<w2.heap.size:=World.block_lt_of_cell? w2 _ d4;have hz2:w.heap.size<w2.heap.size:=World.block_lt_of_cell? w2 _ c1;have yQ:=zH hrd;have hem:=Nat.le_trans hrd.le hrd.max;unfold maxLen at hem;clear hrd d0 d1 d2 d3 HI OV OU Ff zA hn2 hc2 ho2;generalize l[k].ents=es at *;clear hnl hcl hkl;go_wp2;go_loopg [5,6,32] es.length (fun gg o q i wr => ∃(j nq:Nat) (out':List Int) (ga:Option Addr) (ca g off cq:Nat),j+gg=es.length/\i=.int .i64 (j:Int)/\nq+(p+1)=out'.length+1/\o=.slice ga out'.length ca/\q=.slice (some ⟨g,off,none⟩) nq cq/\Hid (QIn l r out es out' j)/\Hid (Own 3 1 w1.heap.size w1 (.slice ga out'.length ca) out'.length (aE out') wr)/\Hid (Qu w1.heap.size w1 g off cq ((r::out').drop (p+1)) wr)/\Hid (∀k,(Value.slice ga out'.length ca).ownBlock=some k->k≠g))
   case atStart=>exact⟨0,n2,out,ga,ca,g,o2,c2,by omega,rfl,yf.out,rfl,rfl,xz,xK,NA,wY⟩
   case round =>
    clear xK NA wY xz yf c1 d4 Gj hz2;obtain⟨j,nq2,out',ga,ca,g,off,cq,hj,rfl,hnq,rfl,rfl,HI,HO,HQ,wY⟩:=hrel;have P8:=HI.out.short HK.out;by_cases hjl:j<es.length
    ·obtain⟨be,oe,rfl,hbe,e0,e1,e2,e3⟩:=ay (yQ.out.below HO.out.below zN) j hjl;have HY:Hid (es[j].id∈out'->QIn l r out es out' (j+1)):=zH (fun h=>HI.out.yes hjl h);have HN:Hid (es[j].id ∉ out'->QIn l r out es (out' ++ [es[j].id]) (j+1)):=zH (fun h=>HI.out.no hjl h (NB.out _ (List.getElem_mem hjl)));have hji:(j:Int)<(es.length:Int):=by omega
     have hj0:(0:Int)<=(j:Int):=by omega
     have P9:Hid (((r::out').drop (p+1)).length=nq2):=zH (by rw[List.length_drop,List.length_cons];omega);have NC:p<=out'.length:=by obtain⟨t,ht⟩:=HI.out.pre;rw[ht,List.length_append];omega
     generalize es[j].hash=y0 at *;generalize es[j].index=y1 at *;generalize es[j].name=y2 at *;generalize es[j].id=y3 at *;have xq:=zH (HO.out.alloc (.cells #[.int .i64 y0,.int .i64 y1,.string y2,.int .i64 y3] 74));have IM:=zH (HQ.out.alloc (.cells #[.int .i64 y0,.int .i64 y1,.string y2,.int .i64 y3] 74));obtain⟨b0,b1,b2,b3⟩:=sL wr 74 (.int .i64 y0) (.int .i64 y1) (.string y2) (.int .i64 y3);clear b0 b1 b2;go_wp2_with fail
     refine(jH ga _ ca out' y3 _ xq.out.rd).mono ?_;rintro e w' ⟨rfl,rfl⟩;by_cases hmem:y3∈out'
     ·have xG:=zH (HY.out hmem);rw[decide_eq_true hmem];clear HY HN hmem;go_wp2;go_roundg (gk - 1)
      case measure=>omega
      case rel=>exact⟨j+1,nq2,out',ga,ca,g,off,cq,by omega,by go_num,hnq,rfl,rfl,xG,xq,IM,wY⟩
     ·have yf:=zH (HN.out hmem);rw[decide_eq_false hmem];clear HY HN hmem;go_wp2_with (first|(at_builtin;go_loud (refine d6 rfl _ _ 40 rfl 3 (.int .i64 0) 1 8 Tryz.underlying40 cA rfl (by decide) _ _ _ _ _ (by rfl) (by exact xq.out) _ _ _ (by rfl) (by first|rfl|simp) (by rfl) (by intro u hu;simp at hu;subst hu;rfl) (by omega) (by unfold maxLen;omega) ?_);intro a9 c9 w9 vQ vZ wO;have xy:=zH vQ;have IP:=zH vZ;have Fg:=zH wO;have Qa:=zH (IM.out.other vZ (fun k hk=>(HO.out.blk k hk).1) (fun e=>wY.out _ e rfl));replace b3:=(World.cell?_of_block (a:=⟨wr.heap.size,3,none⟩) (vZ.block wr.heap.size (by simp) (fun e=>by have:=(HO.out.blk _ e.symm).2;omega))).trans b3;have Nv:wr.heap.size<w9.heap.size:=World.block_lt_of_cell? w9 _ b3;clear vQ vZ wO)|(at_builtin;go_loud (refine ti rfl _ _ 40 rfl 3 Tryz.underlying40 cA _ _ _ _ _ _ _ P9.out (by rfl) (by exact Qa.out) _ _ (by rfl) (by first|rfl|simp) (by omega) ?_);intro g8 f8 c8 w8 OW Ii Ij;have Qb:=zH OW;have AJ:=zH Ii;have zC:=zH Ij;clear OW Ii Ij)|fail)
      go_roundg (gk - 1)
      case measure=>omega
      case rel =>
       refine⟨j+1,nq2+1,out' ++ [y3],a9,c9,g8,f8,c8,by omega,by go_num,by simp;omega,by rw[List.length_append];rfl,rfl,yf,zH ?_,zH ?_,zH ?_⟩
       ·rw[List.length_append,cm];exact xy.out.other AJ.out (fun q hq=>by cases hq;exact IM.out.base) (fun q hq e=>by
         cases e;rcases Fg.out with h|⟨q,h1,h2⟩
         ·exact wY.out _ (h.symm.trans hq) rfl
         ·have h3:q=g:=by have:=h1.symm.trans hq;simpa using this
          have:=IM.out.lt;omega)
       ·rw[qy r y3 out' p NC];exact Qb.out
       ·intro q hq;rw[List.length_append] at hq;rcases zC.out with h|h
        ·rw[h];rcases Fg.out with h9|⟨q2,h1,h2⟩
         ·exact wY.out _ (h9.symm.trans hq)
         ·have h3:q2=q:=by have:=h1.symm.trans hq;simpa using this
          have:=IM.out.lt;omega
        ·have:=(xy.out.blk q hq).2;omega
    ·obtain rfl:j=es.length:=by omega
     have Dz:=zH (P7.out _ HI.out);go_wp2;go_roundg (G1 - 1)
     case measure=>omega
     case rel=>exact⟨p+1,nq2,out',ga,ca,g,off,cq,by omega,hnq,rfl,rfl,Dz,HO,HQ,wY⟩
  ·obtain rfl:nq=0:=by omega
   have IQ:=zH (HI.out.all (by omega));go_wp2;go_ret;exact⟨ga,ca,out,rfl,IQ.out,HO.out.rd,hsh,ac HB.out HO.out.below⟩
theorem lS:(Tryz.prog.info? 4).map (fun i=>(i.zero,i.size,i.bytes))=some (some (.bool false),1,1):=by kernel_rfl
def bls (l:List Bool):List Value:=l.map Value.bool
@[simp] theorem uv (l:List Bool):(bls l).length=l.length:=by simp[bls]
theorem p6 (l:List Bool)(k:Nat)(b:Bool):(bls l).set k (.bool b)=bls (l.set k b):=by unfold bls;rw[List.map_set]
theorem pR (l:List Bool)(k:Nat)(h:k<l.length):(bls l)[k]'(by simpa using h)=.bool l[k]:=by simp[bls]
theorem pH (n:Nat):bls (List.replicate n false)=List.replicate n (.bool false):=by simp[bls]
structure Bls (B:Nat)(W0:World)(gi go n ci co:Nat)(inn opn:List Bool)(w:World):Prop where
 i:Own 4 1 B W0 (.slice (some ⟨gi,0,none⟩) n ci) n (bls inn) w
 o:Own 4 1 B W0 (.slice (some ⟨go,0,none⟩) n co) n (bls opn) w
 ne:gi≠go
section
variable {B:Nat} {W0 w:World} {gi go n ci co:Nat} {inn opn:List Bool}
theorem Bls.kept (h:Bls B W0 gi go n ci co inn opn w){w':World}(hb:Below w.heap.size w w'):Bls B W0 gi go n ci co inn opn w':=⟨h.i.kept hb,h.o.kept hb,h.ne⟩
theorem Bls.setI (h:Bls B W0 gi go n ci co inn opn w)(k:Nat):Bls B W0 gi go n ci co (inn.set k true) opn (w.setCell ⟨gi,k,none⟩ (.bool true)):=
 ⟨by rw[←p6];exact h.i.set k (.bool true),h.o.other (ae w gi k _) (fun q hq=>by cases hq;exact(h.i.blk gi rfl).1) (fun q hq e=>h.ne ((Option.some.inj e).trans (Option.some.inj hq).symm)),h.ne⟩
theorem Bls.setO (h:Bls B W0 gi go n ci co inn opn w)(k:Nat):Bls B W0 gi go n ci co inn (opn.set k true) (w.setCell ⟨go,k,none⟩ (.bool true)):=
 ⟨h.i.other (ae w go k _) (fun q hq=>by cases hq;exact(h.o.blk go rfl).1) (fun q hq e=>h.ne ((Option.some.inj hq).trans (Option.some.inj e).symm)),by rw[←p6];exact h.o.set k (.bool true),h.ne⟩
end
theorem di (next:Int)(a:Option Addr)(n cap:Nat)(l:List InoL)(r:Int)(w:World)(hr:VolRd w a n cap l)(h0:0<=atF l r)(hn:n<=1000) :
  Calls Tryz.prog 41 #[.agg #[.int .i64 next,.slice a n cap],.int .i64 r] w fun e w' => ∃g c inn,e=.returned (.slice (some ⟨g,0,none⟩) n c)/\inn.length=l.length/\(∀x,mk inn x=true ↔ ∃y,Bel l r y/\atF l y=(x:Int))/\Rd w' (some ⟨g,0,none⟩) n c 1 (bls inn)/\Below w.heap.size w w':=by
 have hl:l.length=n:=hr.len;subst hl;have hm:=hr.room;obtain⟨a0,ha0⟩:=Int.eq_ofNat_of_zero_le h0;have hal:a0<l.length:=by have:=(cL l r).2;omega
 have zM:=zH ha0;have HB:=zH (az w (.cells #[.int .i64 next,.slice a l.length cap] 26));have H:=zH (hr.step HB.out);obtain⟨c0,c1⟩:=gZ w 26 (.int .i64 next) (.slice a l.length cap);clear hr h0 ha0;go_enter Tryz.func41,Tryz.ntmps41
 go_upto_region 1 with fail
 have hw0:w.heap.size<(w.alloc (.cells #[.int .i64 next,.slice a l.length cap] 26)).heap.size:=by simp
 generalize w.alloc (.cells #[.int .i64 next,.slice a l.length cap] 26)=w1 at *;have uR:Hid (∀W,Below w1.heap.size w1 W->(W.cell? ⟨w.heap.size,0,none⟩=some (.int .i64 next)/\W.cell? ⟨w.heap.size,1,none⟩=some (.slice a l.length cap))):=zH (fun W hW=>⟨af c0 hW,af c1 hW⟩);go_upto_region 3 with (first|(at_make;refine ni rfl _ _ 62 rfl 4 (.bool false) 1 Tryz.underlying62 lS rfl w1.heap.size w1 zB zN _ _ _ _ l.length (by rfl) (by rfl) (by rfl) (by rfl) (by omega) (by unfold maxLen;omega) ?_;intro w2 hO;have HO:=zH hO;obtain⟨c20,c21⟩:=uR.out w2 hO.below;have hz2:w.heap.size<w2.heap.size:=World.block_lt_of_cell? w2 _ c20;clear hO c0 c1)|(at_make;refine ni rfl _ _ 62 rfl 4 (.bool false) 1 Tryz.underlying62 lS rfl w2.heap.size w2 zB zN _ _ _ _ l.length (by rfl) (by rfl) (by rfl) (by rfl) (by omega) (by unfold maxLen;omega) ?_;intro w3 hO;have yj:=zH hO;obtain⟨c0,c1⟩:=uR.out w3 (ac HO.out.below hO.below);have hz3:w.heap.size<w3.heap.size:=World.block_lt_of_cell? w3 _ c0;clear hO c20 c21))
 have hlt2:w1.heap.size<w2.heap.size:=(HO.out.blk w1.heap.size rfl).2;have xO:Hid (Bls w1.heap.size w1 w1.heap.size w2.heap.size l.length l.length l.length (List.replicate l.length false) (List.replicate l.length false) w3):=zH ⟨by rw[pH];exact HO.out.kept yj.out.below,by rw[pH];exact bk yj.out (Nat.le_of_lt hlt2) HO.out.below (Nat.le_of_lt hlt2),Nat.ne_of_lt hlt2⟩;have HB3:=zH xO.out.i.below;clear HO yj;go_wp2_with fail
 refine(aT next a _ cap l r _ (H.out.step HB3.out)).mono ?_;rintro e w4 ⟨rfl,hb⟩;rw[zM.out];have zP:=zH (xO.out.kept hb);clear c0 c1 hb xO HB3;have hf:=zP.out.o.free a0;obtain⟨u0,hv⟩:∃u,w4.cell? ⟨w2.heap.size,a0,none⟩=some u:=⟨_,zP.out.o.cell a0 (by simp;omega)⟩;have HS:=zH (zP.out.setO a0);obtain⟨hst,hct⟩:=qi l r a0 zM.out;have HST:=zH (And.intro hst hct);have Bl:w.heap.size<w4.heap.size:=by have:=zP.out.i.below.size;omega
 have y9:w2.heap.size<w4.heap.size:=(zP.out.o.blk w2.heap.size rfl).2;have hai:(a0:Int)<(l.length:Int):=by omega
 have Qc:(0:Int)<=(a0:Int):=by omega
 obtain⟨c0,c1⟩:=uR.out _ HS.out.i.below;clear hst hct zP;go_wp2;clear c0 c1 hf hv;go_loopg [8] l.length (fun gg i wr => ∃(q:Nat) (inn opn:List Bool),q+gg=l.length/\i=.int .i64 (q:Int)/\Hid (Bst l r a0 inn opn)/\Hid (Clo l inn opn∨q+1<=jP opn)/\Hid (Bls w1.heap.size w1 w1.heap.size w2.heap.size l.length l.length l.length inn opn wr))
 case atStart=>exact⟨0,_,_,by omega,rfl,zH HST.out.1,zH (.inr HST.out.2),HS⟩
 case round=>as_aux_lemma =>
  clear HST HS;obtain⟨q,inn,opn,hq,rfl,Ag,Fh,HL⟩:=hrel;obtain⟨G1,hG1⟩:∃x:Nat,x=gk:=⟨_,rfl⟩;subst hG1;obtain⟨c0,c1⟩:=uR.out _ HL.out.i.below;have BK:w.heap.size<wr.heap.size:=World.block_lt_of_cell? wr _ c0;by_cases PM:q<l.length
  ·have hqi:(q:Int)<(l.length:Int):=by omega
   have wC:=zH (qN Ag.out);go_wp2;clear c0 c1;go_loopg [9] l.length (fun gg i wr => ∃(m:Nat) (inn' opn':List Bool),m+gg=l.length/\i=.int .i64 (m:Int)/\Hid (Rnd l r a0 inn opn m 0 inn' opn')/\Hid (Bls w1.heap.size w1 w1.heap.size w2.heap.size l.length l.length l.length inn' opn' wr))
   case atStart=>exact⟨0,inn,opn,by omega,rfl,wC,HL⟩
   case round=>as_aux_lemma =>
    clear HL BK;obtain⟨m,inn1,opn1,hm1,rfl,HR,HL⟩:=hrel;obtain⟨G2,hG2⟩:∃x:Nat,x=gk:=⟨_,rfl⟩;subst hG2;obtain⟨c0,c1⟩:=uR.out _ HL.out.i.below;have BK:w.heap.size<wr.heap.size:=World.block_lt_of_cell? wr _ c0;by_cases yg:m<l.length
    ·have OX:(m:Int)<(l.length:Int):=by omega
     have ND:(0:Int)<=(m:Int):=by omega
     obtain⟨b,off,ad,c,ha,hbs,d0,d1,d2,d3,d4,hrd⟩:=bF H.out m yg;subst ha;have IR:Hid (∀inn' opn' k (hk:k<l[m].ents.length) (x:Nat),mk opn' m=true->atF l l[m].ents[k].id=(x:Int)->Rnd l r a0 inn opn m k inn' opn'->Rnd l r a0 inn opn m (k+1) (inn'.set x true) (opn'.set x true)):=zH (fun inn' opn' k hk x ho hx h=>rp zM.out h yg hk ho x hx);have IU:Hid (∀inn' opn' k (hk:k<l[m].ents.length),mk opn' m=true->atF l l[m].ents[k].id<0->Rnd l r a0 inn opn m k inn' opn'->Rnd l r a0 inn opn m (k+1) inn' opn'):=zH (fun inn' opn' k hk ho hx h=>sc h yg hk ho hx);have Fj:Hid (∀inn' opn' k,(mk opn' m=false∨l[m].ents.length<=k)->Rnd l r a0 inn opn m k inn' opn'->Rnd l r a0 inn opn (m+1) 0 inn' opn'):=zH (fun inn' opn' k hk h=>sQ h yg hk);have yQ:=zH hrd;have hem:=Nat.le_trans hrd.le hrd.max;unfold maxLen at hem;have HD4:=zH d4;clear hrd d0 d1 d2 d3 d4;generalize l[m].ents=es at *;go_wp2;clear c0 c1;go_loopg [10] es.length (fun gg i wr => ∃(k:Nat) (inn' opn':List Bool),k+gg=es.length/\i=.int .i64 (k:Int)/\Hid (Rnd l r a0 inn opn m k inn' opn')/\Hid (Bls w1.heap.size w1 w1.heap.size w2.heap.size l.length l.length l.length inn' opn' wr))
     case atStart=>exact⟨0,inn1,opn1,by omega,rfl,HR,HL⟩
     case round=>as_aux_lemma =>
      clear HL HR BK;obtain⟨k,inn2,opn2,hk,rfl,HR,HL⟩:=hrel;obtain⟨c0,c1⟩:=uR.out _ HL.out.i.below;have BK:w.heap.size<wr.heap.size:=World.block_lt_of_cell? wr _ c0;have hoc:wr.cell? ⟨w2.heap.size,m,none⟩=some (.bool (mk opn2 m)):=by
       have hlo:=HR.out.st.lo;have:=HL.out.o.cell m (by simp;omega);rw[pR opn2 m (by omega),mt opn2 m (by omega)] at this;exact this
      have Rj:w2.heap.size<wr.heap.size:=(HL.out.o.blk w2.heap.size rfl).2;have d4:=af HD4.out HL.out.i.below;have hbr:b<wr.heap.size:=World.block_lt_of_cell? wr _ d4;cases hop:mk opn2 m with
      | false =>
       rw[hop] at hoc;have HN:=zH (Fj.out _ _ _ (.inl hop) HR.out);clear hop;go_wp2;go_roundg (G2 - 1)
       case measure=>omega
       case rel=>exact⟨m+1,inn2,opn2,by omega,by go_num,HN,HL⟩
      | true =>
       rw[hop] at hoc;have OY:=zH hop;clear hop;by_cases hkl:k<es.length
       ·obtain⟨be,oe,hae,hbe,e0,e1,e2,e3⟩:=ay (yQ.out.below HL.out.i.below zN) k hkl;subst hae;have Gt:Hid (∀x:Nat,atF l es[k].id=(x:Int)->Rnd l r a0 inn opn m (k+1) (inn2.set x true) (opn2.set x true)):=zH (fun x hx=>IR.out _ _ k hkl x OY.out hx HR.out);have HS2:Hid (atF l es[k].id<0->Rnd l r a0 inn opn m (k+1) inn2 opn2):=zH (fun hx=>IU.out _ _ k hkl OY.out hx HR.out);have hki:(k:Int)<(es.length:Int):=by omega
        have Gs:(0:Int)<=(k:Int):=by omega
        have har:=cL l es[k].id;have Rk:=HR.out.st.li;have hlo:=HR.out.st.lo;clear e0 e1 e2;generalize es[k].id=y at *;have HAT:Hid (∀W,Below w1.heap.size w1 W->Calls Tryz.prog 69 #[.agg #[.int .i64 next,.slice (some ⟨b,off,none⟩) l.length cap],.int .i64 y] W fun e w'=>e=.returned (.int .i64 (atF l y))/\Below W.heap.size W w'):=zH (fun W hW=>aT next _ _ cap l y W (H.out.step hW));generalize atF l y=rv at *;have zO:Hid (∀W,Below wr.heap.size wr W->(W.cell? ⟨w.heap.size,0,none⟩=some (.int .i64 next)/\W.cell? ⟨w.heap.size,1,none⟩=some (.slice (some ⟨b,off,none⟩) l.length cap)/\W.cell? ⟨b,off+m*5+4,none⟩=some (.slice (some ⟨be,oe,none⟩) es.length c)/\W.cell? ⟨be,oe+k*4+3,none⟩=some (.int .i64 y)/\Below wr.heap.size wr W)):=zH (fun W hW=>⟨af c0 hW,af c1 hW,af d4 hW,af e3 hW,hW⟩);have wy:=zH HL.out.i.below;have hB0:=Below.refl wr.heap.size wr;go_wp2;refine tkB zO 13 rfl (by kernel_rfl) (by first|exact zB|assumption) (fun uQ=>?_);simp only[List.replicate];clear hB0;refine tkI [0,1,2,3,4,5,6,7,8,9,10] ?_;(iterate 11 (refine tkS rfl (by kernel_rfl) (fun _ _ _=>id) (by rfl) (by intro w h;(try dsimp only at h);go_simp;try rfl) uQ ?_;try simp only[Act.put,tkA,tk0,tk1]));refine tkE ?_;refine wR 11 rfl (by kernel_rfl) (fun K hK=>?_);(try dsimp only at uQ);go_simp;(go_at_call 69;refine(HAT.out _ (ac wy.out uQ.2.2.2.2)).mono ?_;rintro e w5 ⟨rfl,hbk⟩)
        refine hK.out _ _ ?_ ?_
        ·(try dsimp only);(go_split_ands;first|exact zO.out _ (by assumption)|exact zO.out _ (Below.drew (by assumption))|exact zO.out _ (ac (by assumption) (by assumption)))
        clear hK K uQ;intro uQ;clear hbk;refine tkI [12] ?_;(iterate 1 (refine tkS rfl (by kernel_rfl) (fun _ _ _=>id) (by rfl) (by intro w h;(try dsimp only at h);go_simp;try rfl) uQ ?_;try simp only[Act.put,tkA,tk0,tk1]));refine tkE ?_;refine wpAnyH_done (by kernel_rfl) ?_ _;(try dsimp only at uQ);have zA:=zH uQ.2.2.2.2;clear uQ zO HAT c0 c1 d4 e3 hoc;have Ai:=zH (HL.out.kept zA.out);clear HL;by_cases hr0:0<=rv
        ·obtain⟨x,rfl⟩:=Int.eq_ofNat_of_zero_le hr0;have hxl:x<l.length:=by omega
         have Qd:=zH (Gt.out x rfl);have hfi:=Ai.out.i.free x;have hfo:=Ai.out.o.free x;obtain⟨u1,Rl⟩:∃u,w5.cell? ⟨w1.heap.size,x,none⟩=some u:=⟨_,Ai.out.i.cell x (by simp;omega)⟩;obtain⟨u2,MO⟩:∃u,w5.cell? ⟨w2.heap.size,x,none⟩=some u:=⟨_,Ai.out.o.cell x (by simp;omega)⟩;have Qe:=zH ((Ai.out.setI x).setO x);have hx0:(0:Int)<=(x:Int):=by omega
         have hxi:(x:Int)<(l.length:Int):=by omega
         have Qf:w1.heap.size<w5.heap.size:=(Ai.out.i.blk w1.heap.size rfl).2;have Qg:w2.heap.size<w5.heap.size:=(Ai.out.o.blk w2.heap.size rfl).2;have hne5:=Ai.out.ne;clear Ai Gt HS2 hr0 har;go_wp2;go_roundg (gk - 1)
         case measure=>omega
         case rel=>exact⟨k+1,inn2.set x true,opn2.set x true,by omega,by go_num,Qd,Qe⟩
        ·have EE:=zH (HS2.out (by omega));have hr1:¬(0:Int)<=rv:=hr0;go_wp2;go_roundg (gk - 1)
         case measure=>omega
         case rel=>exact⟨k+1,inn2,opn2,by omega,by go_num,EE,Ai⟩
       ·have HN:=zH (Fj.out _ _ _ (.inr (by omega)) HR.out);have hki:¬(k:Int)<(es.length:Int):=by omega
        go_wp2;go_roundg (G2 - 1)
        case measure=>omega
        case rel=>exact⟨m+1,inn2,opn2,by omega,by go_num,HN,HL⟩
    ·obtain rfl:m=l.length:=by omega
     have HE:=zH (tU HR.out Fh.out);go_wp2;go_roundg (G1 - 1)
     case measure=>omega
     case rel=>exact⟨q+1,inn1,opn1,by omega,by go_num,zH HR.out.st,HE,HL⟩
  ·obtain rfl:q=l.length:=by omega
   have HE:=zH (tK zM.out Ag.out Fh.out);have Qh:=zH Ag.out.li;go_wp2;go_ret;exact⟨_,_,inn,rfl,Qh.out,HE.out,HL.out.i.rd,ac HB.out HL.out.i.below⟩
end Go.Proofs.YtlkfabkkjfmnmaaGreatDoor
