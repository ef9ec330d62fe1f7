import Derived.Test.YtlkfabkkjfmnmaaGreatDoorZal
import Derived.Test.YtlkfabkkjfmnmaaGreatDoorZap
import Derived.Test.YtlkfabkkjfmnmaaGreatDoorZaq
namespace Go.Proofs.YtlkfabkkjfmnmaaGreatDoor
open Go.RowKit
set_option linter.all false
set_option maxRecDepth 1000000
set_option maxHeartbeats 6000000
def Cs (w:World)(b:Nat)(vs:List Value):Prop:=b<w.heap.size/\∀j (h:j<vs.length),w.cell? ⟨b,j,none⟩=some vs[j]/\w.frozen? ⟨b,j,none⟩=false
theorem Cs.lt {w:World}{b:Nat}{vs:List Value}(h:Cs w b vs):b<w.heap.size:=h.1
theorem Cs.kept {w w':World}{b:Nat}{vs:List Value}(h:Cs w b vs)(hb:w'.heap[b]? = w.heap[b]?)(hs:w.heap.size<=w'.heap.size):Cs w' b vs:=
 ⟨Nat.lt_of_lt_of_le h.1 hs,fun j hj=>⟨(World.cell?_of_block (a:=⟨b,j,none⟩) hb).trans (h.2 j hj).1,(World.frozen?_of_block (a:=⟨b,j,none⟩) hb).trans (h.2 j hj).2⟩⟩
theorem Cs.grown {w w':World}{b:Nat}{r:Option Nat}{vs:List Value}(h:Cs w b vs)(hg:w.grownBy w' r)(hne:r≠some b):Cs w' b vs:=h.kept (hg.block b h.1 (fun e=>hne e.symm)) hg.size
theorem Cs.below {w w':World}{b:Nat}{vs:List Value}(h:Cs w b vs)(hb:Below w.heap.size w w'):Cs w' b vs:=h.kept (hb.block b h.1) hb.size
theorem Cs.alloc {w:World}{b:Nat}{vs:List Value}(h:Cs w b vs)(o:Obj):Cs (w.alloc o) b vs:=h.below (az w o)
theorem Cs.drew {w:World}{b:Nat}{vs:List Value}(h:Cs w b vs):Cs w.drew b vs:=h.below zB.drew
theorem ar (w:World)(e:TypeId)(arr:Array Value):Cs (w.alloc (.cells arr e)) w.heap.size arr.toList:=by
 refine⟨by simp,fun j hj=>⟨?_,frozen_of_row _ _ j arr e (heap_alloc_new w _)⟩⟩;rw[cell_of_row _ _ j arr e (0,0) (heap_alloc_new w _)];simp only[Array.length_toList] at hj;simp[hj]
theorem Cs.set {w:World}{b:Nat}{vs:List Value}(h:Cs w b vs)(j:Nat)(u:Value):Cs (w.setCell ⟨b,j,none⟩ u) b (vs.set j u):=by
 have hset:w.setCells b j [u]=w.setCell ⟨b,j,none⟩ u:=rfl;refine⟨by simpa[World.setCell] using h.1,fun i hi=>⟨?_,?_⟩⟩
 ·have hi2:i<vs.length:=by simpa using hi
  by_cases e:i=j
  ·subst e;have:=World.cell?_setCells_in b [u] i w (fun k hk=>by
    have e0:k=0:=by simp at hk;omega
    subst e0;rw[Nat.add_zero,(h.2 i hi2).1];rfl) 0 (by simp)
   rw[hset,Nat.add_zero] at this;rw[this];simp
  ·have:=World.cell?_setCells_out b [u] j w ⟨b,i,none⟩ (fun _ _=>by simp only[List.length_singleton];omega);rw[hset] at this;rw[this,(h.2 i hi2).1,List.getElem_set_ne (fun e2=>e e2.symm)]
 ·have hi2:i<vs.length:=by simpa using hi
  rw[World.frozen?_setCell];exact(h.2 i hi2).2
theorem Cs.far {w:World}{b g j:Nat}{vs:List Value}{u:Value}(h:Cs w b vs)(hne:b≠g):Cs (w.setCell ⟨g,j,none⟩ u) b vs:=
 h.grown (ae w g j u) (fun e=>hne (Option.some.inj e).symm)
theorem Cs.two {w:World}{b:Nat}{u0 u1:Value}(h:Cs w b [u0,u1]):(w.cell? ⟨b,0,none⟩=some u0/\w.cell? ⟨b,1,none⟩=some u1)/\(w.frozen? ⟨b,0,none⟩=false/\w.frozen? ⟨b,1,none⟩=false):=
 ⟨⟨(h.2 0 (by simp)).1,(h.2 1 (by simp)).1⟩,⟨(h.2 0 (by simp)).2,(h.2 1 (by simp)).2⟩⟩
theorem Cs.four {w:World}{b:Nat}{u0 u1 u2 u3:Value}(h:Cs w b [u0,u1,u2,u3]):(w.cell? ⟨b,0,none⟩=some u0/\w.cell? ⟨b,1,none⟩=some u1/\w.cell? ⟨b,2,none⟩=some u2/\w.cell? ⟨b,3,none⟩=some u3)/\(w.frozen? ⟨b,0,none⟩=false/\w.frozen? ⟨b,1,none⟩=false/\w.frozen? ⟨b,2,none⟩=false/\w.frozen? ⟨b,3,none⟩=false):=
 ⟨⟨(h.2 0 (by simp)).1,(h.2 1 (by simp)).1,(h.2 2 (by simp)).1,(h.2 3 (by simp)).1⟩,⟨(h.2 0 (by simp)).2,(h.2 1 (by simp)).2,(h.2 2 (by simp)).2,(h.2 3 (by simp)).2⟩⟩
theorem Cs.five {w:World}{b:Nat}{u0 u1 u2 u3 u4:Value}(h:Cs w b [u0,u1,u2,u3,u4]):(w.cell? ⟨b,0,none⟩=some u0/\w.cell? ⟨b,1,none⟩=some u1/\w.cell? ⟨b,2,none⟩=some u2/\w.cell? ⟨b,3,none⟩=some u3/\w.cell? ⟨b,4,none⟩=some u4)/\(w.frozen? ⟨b,0,none⟩=false/\w.frozen? ⟨b,1,none⟩=false/\w.frozen? ⟨b,2,none⟩=false/\w.frozen? ⟨b,3,none⟩=false/\w.frozen? ⟨b,4,none⟩=false):=
 ⟨⟨(h.2 0 (by simp)).1,(h.2 1 (by simp)).1,(h.2 2 (by simp)).1,(h.2 3 (by simp)).1,(h.2 4 (by simp)).1⟩,⟨(h.2 0 (by simp)).2,(h.2 1 (by simp)).2,(h.2 2 (by simp)).2,(h.2 3 (by simp)).2,(h.2 4 (by simp)).2⟩⟩
theorem VolOwn.app {B:Nat}{W0 w w':World}{a a':Option Addr}{cap c':Nat}{m:List InoP}(h:VolOwn B W0 a cap m w)(y:InoP)
  (hy:Own 74 4 B W0 (.slice y.ad y.x.ents.length y.cap) y.x.ents.length (ens y.x.ents) w')
  (ht:Own 45 5 B W0 (.slice a' (m.length+1) c') (m.length+1) (ins m++in1 y) w') (hg:w.grownBy w' (Value.slice a m.length cap).ownBlock)
  (hn:∀z∈m,∀q,z.blk=some q->y.blk≠some q):VolOwn B W0 a' c' (m ++ [y]) w':=by
 refine⟨?_,fun z hz=>?_,?_⟩
 ·rw[List.length_append,fI];have e:ins [y]=in1 y:=by simp[ins]
  rw[e];exact ht
 ·rcases List.mem_append.1 hz with hz|hz
  ·exact(h.sub z hz).other hg (fun q hq=>(h.top.blk q hq).1) (fun q hq e=>h.side z hz q hq e)
  ·rw[List.mem_singleton] at hz;subst hz;exact hy
 ·rw[List.pairwise_append];refine⟨h.apart,List.pairwise_singleton ..,fun z hz x hx q hq=>?_⟩;rw[List.mem_singleton] at hx;subst hx;exact hn z hz q hq
theorem i7 (B:Nat)(w:World)(W0:World)(hb:Below B W0 w)(hB:B<=w.heap.size):VolOwn B W0 none 0 [] w:=⟨fx hb hB,(fun y hy=>by cases hy),List.Pairwise.nil⟩
theorem cf {B B':Nat}{W0 w W1:World}{a:Option Addr}{cap:Nat}{m:List InoP}(h:VolOwn B W0 a cap m w)(hB:B'<=B)(hb:Below B' W1 w)(h0:B'<=w.heap.size):VolOwn B' W1 a cap m w:=
 ⟨⟨d7 h.top.row hB,hb,h0⟩,fun y hy=>⟨d7 (h.sub y hy).row hB,hb,h0⟩,h.apart⟩
theorem VolOwn.low {B:Nat}{W0 w w':World}{a:Option Addr}{cap:Nat}{m:List InoP}{r:Option Nat}(h:VolOwn B W0 a cap m w)(hg:w.grownBy w' r)(hne:∀k,au a cap m k->r≠some k):VolOwn B w' a cap m w':=
 ⟨h.top.otherLow hg (fun k hk=>hne k (.inl hk)),fun y hy=>(h.sub y hy).otherLow hg (fun k hk=>hne k (.inr ⟨y,hy,hk⟩)),h.apart⟩
theorem bm {w:World}{R:Nat}{u0 u1 u2 u3 u4:Value}(h:Cs w R [u0,u1,u2,u3,u4])(v0 v1 v2 v3 v4:Value) :
  Cs (((((w.setCell ⟨R,0,none⟩ v0).setCell ⟨R,1,none⟩ v1).setCell ⟨R,2,none⟩ v2).setCell ⟨R,3,none⟩ v3).setCell ⟨R,4,none⟩ v4) R [v0,v1,v2,v3,v4]:=
 ((((h.set 0 v0).set 1 v1).set 2 v2).set 3 v3).set 4 v4
theorem sG {w:World}{b g:Nat}{vs:List Value}(h:Cs w b vs)(hne:b≠g)(u0 u1 u2 u3 u4:Value) :
  Cs (((((w.setCell ⟨g,0,none⟩ u0).setCell ⟨g,1,none⟩ u1).setCell ⟨g,2,none⟩ u2).setCell ⟨g,3,none⟩ u3).setCell ⟨g,4,none⟩ u4) b vs:=by
 refine Cs.far ?_ hne;refine Cs.far ?_ hne;refine Cs.far ?_ hne;refine Cs.far ?_ hne;exact Cs.far h hne
theorem fW {w:World}{b g j:Nat}{v:Value}(h:w.cell? ⟨b,j,none⟩=some v)(hne:b≠g)(u0 u1 u2 u3 u4:Value) :
  (((((w.setCell ⟨g,0,none⟩ u0).setCell ⟨g,1,none⟩ u1).setCell ⟨g,2,none⟩ u2).setCell ⟨g,3,none⟩ u3).setCell ⟨g,4,none⟩ u4).cell? ⟨b,j,none⟩=some v:=by
 have hl:b<w.heap.size:=World.block_lt_of_cell? w _ h;have f:∀(W:World) (i:Nat) (u:Value),b<W.heap.size->(W.setCell ⟨g,i,none⟩ u).cell? ⟨b,j,none⟩=W.cell? ⟨b,j,none⟩:=fun W i u hW=>World.cell?_of_block (a:=⟨b,j,none⟩) ((ae W g i u).block b hW (fun e=>hne (Option.some.inj e)))
 have z:∀(W:World) (i:Nat) (u:Value),(W.setCell ⟨g,i,none⟩ u).heap.size=W.heap.size:=fun W i u=>by simp[World.setCell]
 rw[f _ _ _ (by rw[z,z,z,z];exact hl),f _ _ _ (by rw[z,z,z];exact hl),f _ _ _ (by rw[z,z];exact hl),f _ _ _ (by rw[z];exact hl),f _ _ _ hl];exact h
theorem ag {w:World}{b j g i:Nat}{v u:Value}(h:w.cell? ⟨b,j,none⟩=some v)(hne:b≠g):(w.setCell ⟨g,i,none⟩ u).cell? ⟨b,j,none⟩=some v:=
 (World.cell?_of_block (a:=⟨b,j,none⟩) ((ae w g i u).block b (World.block_lt_of_cell? w _ h) (fun e=>hne (Option.some.inj e)))).trans h
theorem ai {w w':World}{b j:Nat}{r:Option Nat}{v:Value}(h:w.cell? ⟨b,j,none⟩=some v)(hg:w.grownBy w' r)(hne:r≠some b):w'.cell? ⟨b,j,none⟩=some v:=
 (World.cell?_of_block (a:=⟨b,j,none⟩) (hg.block b (World.block_lt_of_cell? w _ h) (fun e=>hne e.symm))).trans h
section
variable {P:Program}
theorem je {w:World}{ops:Array Oper}{o:Oper}{a:Act}{K:Act->World->Prop}{Q:Exit->Act->World->Prop}{E:Prop}(hgd:o.guard=none)(s x:Operand)(t:TypeId)
  (ho:o.op=.call { callee:=.builtin .append,args:=#[s,x],argTypes:=#[t,t] })
  (e:TypeId) (z:Value) (size bytes:Nat) (ht:P.underlying t=some (.slice e)) (hi:(P.info? e).map (fun i=>(i.zero,i.size,i.bytes))=some (some z,size,bytes)) (hzs:z.cells.size=size) (hsz:0<size)
  (B:Nat) (W0:World) (v:Value) (n:Nat) (xs:List Value) (hs:a.eval s=v) (hown:Own e size B W0 v n xs w)
  (ad:Option Addr) (m c:Nat) (news:List Value) (hx:a.eval x=.slice ad m c) (hr:Rd w ad m c size news) (h1:∀u∈news,u.oneCell'=true)
  (hlim:(n+m)*bytes<=140737488355328) (hmax:n+m<=maxLen)
  (h:∀a' cap' w',Own e size B W0 (.slice a' (n+m) cap') (n+m) (xs++news) w'->w.grownBy w' v.ownBlock->K (a.put o.dst (.slice a' (n+m) cap')) w') :
  if Region.wanted o (yielded ops a.tmps)=true then Oper.wp P o a w K Q else E:=by
 rw[if_pos (by simp[Region.wanted,hgd])];exact qD s x t ho e z size bytes ht hi hzs hsz B W0 v n xs hs hown ad m c news hx hr h1 hlim hmax h
end
def VolP (w:World)(a:Option Addr)(n cap:Nat)(m:List InoP):Prop:=
 Rd w a n cap 5 (ins m)/\∀y∈m,Rd w y.ad y.x.ents.length y.cap 4 (ens y.x.ents)
def xs (m:List InoP):List InoL:=m.map (·.x)
theorem cy (m:List InoP):(xs m).length=m.length:=by simp[xs]
theorem fH (m:List InoP)(k:Nat)(hk:k<m.length):(xs m)[k]'(by rw[cy];exact hk)=m[k].x:=by simp[xs]
theorem fX (m:List InoP)(k:Nat)(y:InoP):xs (m.set k y)=(xs m).set k y.x:=by simp[xs,List.map_set]
theorem ri (m:List InoP)(p:InoL->Bool):xs (m.filter (fun y=>p y.x))=(xs m).filter p:=by
 unfold xs;rw[List.filter_map];rfl
theorem VolP.rd {w:World}{a:Option Addr}{n cap:Nat}{m:List InoP}(h:VolP w a n cap m):VolRd w a n cap (xs m):=⟨m,rfl,h.1,h.2⟩
theorem VolP.of {w:World}{a:Option Addr}{n cap:Nat}{l:List InoL}(h:VolRd w a n cap l):∃m,xs m=l/\VolP w a n cap m:=by
 obtain⟨m,e,h1,h2⟩:=h;exact⟨m,e,h1,h2⟩
theorem VolP.below {B:Nat}{w w':World}{a:Option Addr}{n cap:Nat}{m:List InoP}(h:VolP w a n cap m)(hb:Below B w w')(hB:w.heap.size<=B):VolP w' a n cap m:=
 ⟨h.1.below hb hB,fun y hy=>(h.2 y hy).below hb hB⟩
theorem VolP.step {w w':World}{a:Option Addr}{n cap:Nat}{m:List InoP}(h:VolP w a n cap m)(hb:Below w.heap.size w w'):VolP w' a n cap m:=h.below hb zN
theorem VolP.len {w:World}{a:Option Addr}{n cap:Nat}{m:List InoP}(h:VolP w a n cap m):m.length=n:=by
 have:=h.1.len;simp at this;omega
theorem VolOwn.p {B:Nat}{W0 w:World}{a:Option Addr}{cap:Nat}{m:List InoP}(h:VolOwn B W0 a cap m w):VolP w a m.length cap m:=⟨h.top.rd,fun y hy=>(h.sub y hy).rd⟩
theorem aC {w:World}{a:Option Addr}{n cap:Nat}{m:List InoP}(h:VolP w a n cap m){k:Nat}{y:InoP}(hy:m[k]? = some y) :
  ∃b off,a=some ⟨b,off,none⟩/\b<w.heap.size/\w.cell? ⟨b,off+k*5,none⟩=some (.int .i64 y.x.id)/\w.cell? ⟨b,off+k*5+1,none⟩=some (.int .i64 y.x.kind)/\w.cell? ⟨b,off+k*5+2,none⟩=some (.int .i64 y.x.links)/\w.cell? ⟨b,off+k*5+3,none⟩=some (.string y.x.data)/\w.cell? ⟨b,off+k*5+4,none⟩=some (.slice y.ad y.x.ents.length y.cap)/\Rd w y.ad y.x.ents.length y.cap 4 (ens y.x.ents):=by
 obtain⟨hk,rfl⟩:=List.getElem?_eq_some_iff.1 hy;have hn:=h.len;obtain⟨b,off,e,hlt,hc⟩:=h.1.at' (by omega);have g:∀j (hj:j<5),w.cell? ⟨b,off+k*5+j,none⟩=some ((in1 m[k])[j]'(by rw[ez];exact hj)):=fun j hj=>by
  rw[Nat.add_assoc,hc (k*5+j) (by simp;omega),jS m k hk j hj]
 exact⟨b,off,e,hlt,g 0 (by omega),g 1 (by omega),g 2 (by omega),g 3 (by omega),g 4 (by omega),h.2 _ (List.getElem_mem hk)⟩
def cM (m:List InoP)(k:Nat)(v:Value):Prop := ∀i (hi:i<m.length),i≠k->∀q,m[i].blk=some q->v.ownBlock≠some q
theorem bu {B:Nat}{W0 w:World}{a:Option Addr}{cap:Nat}{m:List InoP}(h:VolOwn B W0 a cap m w)(k:Nat){v:Value}(hv:∀q,v.ownBlock=some q->w.heap.size<=q):cM m k v:=by
 intro i hi _ q hq e;have h1:=((h.sub m[i] (List.getElem_mem hi)).blk q hq).2;have h2:=hv q e;omega
theorem dU {B:Nat}{W0 w:World}{a:Option Addr}{cap:Nat}{m:List InoP}(h:VolOwn B W0 a cap m w)(k:Nat){y:InoP}(hy:m[k]? = some y):cM m k (.slice y.ad y.x.ents.length y.cap):=by
 obtain⟨hk,rfl⟩:=List.getElem?_eq_some_iff.1 hy;intro i hi hne q hq e;have hp:=List.pairwise_iff_getElem.1 h.apart;rcases Nat.lt_or_gt_of_ne hne with hlt|hlt
 ·exact hp i k hi hk hlt q hq e
 ·exact hp k i hk hi hlt q e hq
theorem VolOwn.turn {B:Nat}{W0 w w':World}{a:Option Addr}{cap:Nat}{m:List InoP}(h:VolOwn B W0 a cap m w){k:Nat}{y:InoP}(hy:m[k]? = some y)(es:List EntL)(hl:es.length=y.x.ents.length)
  (ho:Own 74 4 B W0 (.slice y.ad y.x.ents.length y.cap) y.x.ents.length (ens es) w') (hg:w.grownBy w' (Value.slice y.ad y.x.ents.length y.cap).ownBlock):VolOwn B W0 a cap (m.set k ⟨{ y.x with ents:=es },y.ad,y.cap⟩) w':=by
 obtain⟨hk,rfl⟩:=List.getElem?_eq_some_iff.1 hy;have hb:∀q,(Value.slice m[k].ad m[k].x.ents.length m[k].cap).ownBlock=some q->B<=q:=fun q hq=>((h.sub _ (List.getElem_mem hk)).blk q hq).1
 have hin:ins (m.set k ⟨{ m[k].x with ents:=es },m[k].ad,m[k].cap⟩)=ins m:=by
  unfold ins;rw[List.flatMap_def,List.flatMap_def,List.map_set];congr 1
  refine List.ext_getElem (by simp) fun i h1 h2=>?_
  rw[List.getElem_set];split
  ·next e=>subst e;simp[in1,hl]
  ·rfl
 have hblk:∀i (hi:i<m.length),((m.set k ⟨{ m[k].x with ents:=es },m[k].ad,m[k].cap⟩)[i]'(by simpa using hi)).blk=m[i].blk:=by
  intro i hi;rw[List.getElem_set];split
  ·next e=>subst e;unfold InoP.blk;simp only[hl]
  ·rfl
 refine⟨?_,fun z hz=>?_,?_⟩
 ·rw[hin,List.length_set];exact h.top.other hg hb (fun q hq e=>h.side _ (List.getElem_mem hk) q e hq)
 ·obtain⟨i,hi,rfl⟩:=List.mem_iff_getElem.1 hz;have hi2:i<m.length:=by simpa using hi
  rw[List.getElem_set];split
  ·simp only[hl];exact ho
  ·next hne =>
   exact(h.sub _ (List.getElem_mem hi2)).other hg hb (fun q hq e=>dU h k (List.getElem?_eq_getElem hk) i hi2 (fun e2=>hne e2.symm) q hq e)
 ·rw[List.pairwise_iff_getElem];intro i j hi hj hij;have hi2:i<m.length:=by simpa using hi
  have hj2:j<m.length:=by simpa using hj
  rw[hblk i hi2,hblk j hj2];exact List.pairwise_iff_getElem.1 h.apart i j hi2 hj2 hij
theorem VolOwn.filter {B B':Nat}{W0 w W1:World}{a a':Option Addr}{cap cap':Nat}{m:List InoP}(h:VolOwn B W0 a cap m w)(p:InoP->Bool)(ht:Own 45 5 B' W1 (.slice a' (m.filter p).length cap') (m.filter p).length (ins (m.filter p)) w)(hB:B'<=B):VolOwn B' W1 a' cap' (m.filter p) w:=
 ⟨ht,fun y hy=>⟨d7 (h.sub y (List.mem_filter.1 hy).1).row hB,ht.below,ht.base⟩,h.apart.sublist List.filter_sublist⟩
theorem VolOwn.res2 {B:Nat}{W0 w:World}{a:Option Addr}{cap:Nat}{m:List InoP}(h:VolOwn B W0 a cap m w)(R:Nat)(hB:B<=R)(hne:∀q,au a cap m q->q≠R)(u0 u1:Value):VolOwn B W0 a cap m ((w.setCell ⟨R,0,none⟩ u0).setCell ⟨R,1,none⟩ u1):=
 (h.far R 0 u0 hB hne).far R 1 u1 hB hne
theorem VolOwn.res2l {B:Nat}{W0 w:World}{a:Option Addr}{cap:Nat}{m:List InoP}(h:VolOwn B W0 a cap m w)(R:Nat)(hne:∀q,au a cap m q->q≠R)(u0 u1:Value):VolOwn B ((w.setCell ⟨R,0,none⟩ u0).setCell ⟨R,1,none⟩ u1) a cap m ((w.setCell ⟨R,0,none⟩ u0).setCell ⟨R,1,none⟩ u1):=
 (h.low (ae w R 0 u0) (fun q hq e=>hne q hq (Option.some.inj e).symm)).low (ae _ R 1 u1) (fun q hq e=>hne q hq (Option.some.inj e).symm)
theorem dd {w w':World}{r:Option Nat}(h:w.grownBy w' r)(R:Nat)(hR:w.heap.size<=R)(u0 u1:Value):w.grownBy ((w'.setCell ⟨R,0,none⟩ u0).setCell ⟨R,1,none⟩ u1) r:=
 aq (aq h (ae w' R 0 u0) (fun g hg => .inr (by cases hg;exact hR))) (ae _ R 1 u1) (fun g hg => .inr (by cases hg;exact hR))
theorem fG {B:Nat}{w w':World}(h:Below B w w')(R:Nat)(hR:B<=R)(u0 u1:Value):Below B w ((w'.setCell ⟨R,0,none⟩ u0).setCell ⟨R,1,none⟩ u1):=
 (h.setCell (p:=⟨R,0,none⟩) hR u0).setCell (p:=⟨R,1,none⟩) hR u1
theorem kh {B:Nat}{w w':World}(h:Below B w w')(R S:Nat)(hR:B<=R)(hS:B<=S)(u0 u1 v0 v1 v2 v3:Value) :
  Below B w ((((((w'.setCell ⟨R,0,none⟩ u0).setCell ⟨R,1,none⟩ u1).setCell ⟨S,0,none⟩ v0).setCell ⟨S,1,none⟩ v1).setCell ⟨S,2,none⟩ v2).setCell ⟨S,3,none⟩ v3):=
 ((((fG h R hR u0 u1).setCell (p:=⟨S,0,none⟩) hS v0).setCell (p:=⟨S,1,none⟩) hS v1).setCell (p:=⟨S,2,none⟩) hS v2).setCell (p:=⟨S,3,none⟩) hS v3
theorem VolOwn.res6 {B:Nat}{W0 w:World}{a:Option Addr}{cap:Nat}{m:List InoP}(h:VolOwn B W0 a cap m w)(R S:Nat)(hR:∀q,au a cap m q->q≠R)(hS:∀q,au a cap m q->q≠S)(u0 u1 v0 v1 v2 v3:Value) :
  VolOwn B ((((((w.setCell ⟨R,0,none⟩ u0).setCell ⟨R,1,none⟩ u1).setCell ⟨S,0,none⟩ v0).setCell ⟨S,1,none⟩ v1).setCell ⟨S,2,none⟩ v2).setCell ⟨S,3,none⟩ v3) a cap m ((((((w.setCell ⟨R,0,none⟩ u0).setCell ⟨R,1,none⟩ u1).setCell ⟨S,0,none⟩ v0).setCell ⟨S,1,none⟩ v1).setCell ⟨S,2,none⟩ v2).setCell ⟨S,3,none⟩ v3):=by
 have f:∀ {W0 W:World} (b j:Nat) (u:Value),VolOwn B W0 a cap m W->(∀q,au a cap m q->q≠b)->VolOwn B (W.setCell ⟨b,j,none⟩ u) a cap m (W.setCell ⟨b,j,none⟩ u):=fun b j u h hne=>h.low (ae _ b j u) (fun q hq e=>hne q hq (Option.some.inj e).symm)
 exact f _ _ _ (f _ _ _ (f _ _ _ (f _ _ _ (f _ _ _ (f _ _ _ h hR) hR) hS) hS) hS) hS
theorem pP {w:World}{R S:Nat}{x0 x1 y0 y1 y2 y3:Value}(hR:Cs w R [x0,x1])(hS:Cs w S [y0,y1,y2,y3])(hne:R≠S)(u0 u1 v0 v1 v2 v3:Value) :
  Cs ((((((w.setCell ⟨R,0,none⟩ u0).setCell ⟨R,1,none⟩ u1).setCell ⟨S,0,none⟩ v0).setCell ⟨S,1,none⟩ v1).setCell ⟨S,2,none⟩ v2).setCell ⟨S,3,none⟩ v3) R [u0,u1]/\Cs ((((((w.setCell ⟨R,0,none⟩ u0).setCell ⟨R,1,none⟩ u1).setCell ⟨S,0,none⟩ v0).setCell ⟨S,1,none⟩ v1).setCell ⟨S,2,none⟩ v2).setCell ⟨S,3,none⟩ v3) S [v0,v1,v2,v3]:=
 ⟨((((((hR.set 0 u0).set 1 u1).far hne).far hne).far hne).far hne),((((((hS.far hne.symm).far hne.symm).set 0 v0).set 1 v1).set 2 v2).set 3 v3)⟩
theorem Cs.six {w:World}{b:Nat}{u0 u1 u2 u3 u4 u5:Value}(h:Cs w b [u0,u1,u2,u3,u4,u5]):(w.cell? ⟨b,0,none⟩=some u0/\w.cell? ⟨b,1,none⟩=some u1/\w.cell? ⟨b,2,none⟩=some u2/\w.cell? ⟨b,3,none⟩=some u3/\w.cell? ⟨b,4,none⟩=some u4/\w.cell? ⟨b,5,none⟩=some u5):=
 ⟨(h.2 0 (by simp)).1,(h.2 1 (by simp)).1,(h.2 2 (by simp)).1,(h.2 3 (by simp)).1,(h.2 4 (by simp)).1,(h.2 5 (by simp)).1⟩
theorem bx {a:Option Addr}{cap:Nat}{m:List InoP}{k:Nat}{y:InoP}{q:Nat}(h:au a cap (m.set k y) q):au a cap m q∨y.blk=some q:=by
 rcases h with h|⟨z,hz,h⟩
 ·left;left;rwa [List.length_set] at h
 ·rcases List.mem_or_eq_of_mem_set hz with hz|rfl
  ·exact .inl (.inr ⟨z,hz,h⟩)
  ·exact .inr h
def a6 (B:Nat)(Q:Nat->Prop)(w:World)(e:Ending)(w':World):Prop:=
 ∃(next:Int) (a:Option Addr) (c:Nat) (m:List InoP) (v0 v1:Int) (v2 v3:ByteArray),e=.returned (.tuple #[.agg #[.int .i64 next,.slice a m.length c],.agg #[.int .i64 v0,.int .i64 v1,.string v2,.string v3]])/\Inv d0 next (xs m)/\VolOwn B w' a c m w'/\Below w.heap.size w w'/\∀q,au a c m q->Q q∨w.heap.size<=q
theorem bj {w:World}{a:Option Addr}{n cap:Nat}{m:List InoP}(h:VolP w a n cap m):n<=cap/\cap<=9223372036854775807:=h.rd.room
theorem aF (next:Int)(a:Option Addr)(n cap:Nat)(m:List InoP)(dir:Int)(k:Nat)(y:InoP)(w:World)(hr:VolP w a n cap m)(hy:m[k]? = some y)(hat:atF (xs m) dir=(k:Int)) :
  Calls Tryz.prog 124 #[.agg #[.int .i64 next,.slice a n cap],.int .i64 dir] w fun e w'=>e=.returned (.slice y.ad y.x.ents.length y.cap)/\Below w.heap.size w w':=by
 have hkl:k<m.length:=(List.getElem?_eq_some_iff.1 hy).1;have hln:=hr.len;have hm:=bj hr;have HB:=zH (az w (.cells #[.int .i64 next,.slice a n cap] 26));have HAT:Hid (∀W,Below w.heap.size w W->Calls Tryz.prog 69 #[.agg #[.int .i64 next,.slice a n cap],.int .i64 dir] W fun e w'=>e=.returned (.int .i64 (k:Int))/\Below W.heap.size W w'):=zH (fun W hW=>by rw[←hat];exact aT next a n cap (xs m) dir W (hr.step hW).rd);obtain⟨b,off,rfl,hb,-,-,-,-,c4,-⟩:=aC (hr.step HB.out) hy;obtain⟨c0,c1⟩:=gZ w 26 (.int .i64 next) (.slice (some ⟨b,off,none⟩) n cap);have hi:(k:Int)<(n:Int):=by omega
 have hi0:(0:Int)<=(k:Int):=by omega
 clear hat hy hr;generalize y.ad=ya at *;generalize y.x.ents.length=yn at *;generalize y.cap=yc at *;go_enter Tryz.func124,Tryz.ntmps124
 go_wp2;have zc:w.heap.size<(w.alloc (.cells #[.int .i64 next,.slice (some ⟨b,off,none⟩) n cap] 26)).heap.size:=by simp
 generalize w.alloc (.cells #[.int .i64 next,.slice (some ⟨b,off,none⟩) n cap] 26)=w1 at *;have uR:Hid (∀W,Below w1.heap.size w1 W->(W.cell? ⟨w.heap.size,0,none⟩=some (.int .i64 next)/\W.cell? ⟨w.heap.size,1,none⟩=some (.slice (some ⟨b,off,none⟩) n cap)/\W.cell? ⟨b,off+k*5+4,none⟩=some (.slice ya yn yc)/\Below w1.heap.size w1 W)):=zH (fun W hW=>⟨af c0 hW,af c1 hW,af c4 hW,hW⟩);have hB0:=Below.refl w1.heap.size w1;clear c0 c1 c4;refine tkB uR 9 rfl (by kernel_rfl) (by first|exact zB|assumption) (fun uQ=>?_);simp only[List.replicate];clear hB0;refine tkI [0,1,2,3] ?_;(iterate 4 (refine tkS rfl (by kernel_rfl) (fun _ _ _=>id) (by rfl) (by intro w h;(try dsimp only at h);go_simp;try rfl) uQ ?_;try simp only[Act.put,tkA,tk0,tk1]));refine tkE ?_;refine wR 4 rfl (by kernel_rfl) (fun K hK=>?_);(try dsimp only at uQ);go_simp;(go_at_call 69;refine(HAT.out _ (ac HB.out uQ.2.2.2)).mono ?_;rintro e w7 ⟨rfl,hbk⟩)
 refine hK.out _ _ ?_ ?_
 ·(try dsimp only);(go_split_ands;first|exact uR.out _ (by assumption)|exact uR.out _ (Below.drew (by assumption))|exact uR.out _ (ac (by assumption) (by assumption)))
 clear hK K uQ;intro uQ;clear hbk;refine tkI [5,6,7,8] ?_;(iterate 4 (refine tkS rfl (by kernel_rfl) (fun _ _ _=>id) (by rfl) (by intro w h;(try dsimp only at h);go_simp;try rfl) uQ ?_;try simp only[Act.put,tkA,tk0,tk1]));refine tkE ?_;refine wpAnyH_done (by kernel_rfl) ?_ _;(try dsimp only at uQ);go_wp2;go_ret;exact⟨rfl,ac HB.out uQ.2.2.2⟩
def oP (m:List InoP)(dir:Int)(w:World)(e:Ending)(w':World):Prop:=
 ∃b:Bool,e=.returned (.bool b)/\(b=true->∃(k:Nat) (y:InoP),m[k]? = some y/\atF (xs m) dir=(k:Int)/\y.x.kind=2)/\Below w.heap.size w w'
theorem jl (next:Int)(a:Option Addr)(n cap:Nat)(m:List InoP)(dir:Int)(w:World)(hr:VolP w a n cap m) :
  Calls Tryz.prog 98 #[.agg #[.int .i64 next,.slice a n cap],.int .i64 dir] w (oP m dir w):=by
 have hln:=hr.len;have hm:=bj hr;have HB:=zH (az w (.cells #[.int .i64 next,.slice a n cap] 26));have HR:=zH (hr.step HB.out);have HAT:Hid (∀W,Below w.heap.size w W->Calls Tryz.prog 69 #[.agg #[.int .i64 next,.slice a n cap],.int .i64 dir] W fun e w'=>e=.returned (.int .i64 (atF (xs m) dir))/\Below W.heap.size W w'):=zH (fun W hW=>aT next a n cap (xs m) dir W (hr.step hW).rd);obtain⟨c0,c1⟩:=gZ w 26 (.int .i64 next) (.slice a n cap);have hrg:=cL (xs m) dir;rw[cy] at hrg;clear hr;obtain⟨r,hrr⟩:∃r,r=atF (xs m) dir:=⟨_,rfl⟩;rw[←hrr] at HAT hrg;have HRR:=zH hrr;clear hrr;go_enter Tryz.func98,Tryz.ntmps98
 go_wp2_with fail
 have zc:w.heap.size<(w.alloc (.cells #[.int .i64 next,.slice a n cap] 26)).heap.size:=by simp
 generalize w.alloc (.cells #[.int .i64 next,.slice a n cap] 26)=w1 at *;refine(HAT.out _ HB.out).mono ?_;rintro e w2 ⟨rfl,hb⟩;replace c0:=af c0 hb;replace c1:=af c1 hb;have HB2:=zH (ac HB.out hb);have HR2:=zH (HR.out.step hb);have zc2:w.heap.size<w2.heap.size:=World.block_lt_of_cell? w2 _ c0;clear hb;by_cases h0:0<=r
 ·obtain⟨k,rfl⟩:=Int.eq_ofNat_of_zero_le h0;have hkl:k<m.length:=by omega
  obtain⟨b,off,rfl,hbb,-,d1,-,-,-,-⟩:=aC HR2.out (List.getElem?_eq_getElem hkl);have hi:(k:Int)<(n:Int):=by omega
  have HK:Hid (m[k].x.kind=2->∃(q:Nat) (y:InoP),m[q]? = some y/\atF (xs m) dir=(q:Int)/\y.x.kind=2):=zH (fun h=>⟨k,m[k],List.getElem?_eq_getElem hkl,HRR.out.symm,h⟩);generalize m[k].x.kind=kd at *;go_wp2;go_ret;refine⟨_,rfl,fun h=>HK.out ?_,HB2.out⟩;simpa using h
 ·go_wp2;go_ret;exact⟨false,rfl,fun h=>(by cases h),HB2.out⟩
theorem oJ {Post:Ending->World->Prop}{a:Act}{wf:World}{R:Nat}{u0:Int}{u1:Value}(hc:Cs wf R [.int .i64 u0,u1])(h2:a.tmps[6]?.getD undef=.pointer (some ⟨R,0,none⟩))(hd:a.defers = [])
  (hp:Post (.returned (.agg #[.int .i64 u0,u1])) wf):bodyPost Tryz.prog Tryz.f125 Post Exit.ret a wf:=by
 obtain⟨⟨r0,r1⟩,-⟩:=hc.two;exact bodyPost_ret (v:=.agg #[.int .i64 u0,u1]) (by simp[results,Tryz.results125,go_sem,h2,r0,r1]) hd hp
theorem nu (m:List InoP)(k:Nat)(y:InoP)(hy:m[k]? = some y)(es:List EntL)(ad:Option Addr)(c:Nat):(ins m).set (k*5+4) (.slice ad es.length c)=ins (m.set k ⟨{ y.x with ents:=es },ad,c⟩):=by
 obtain⟨hk,rfl⟩:=List.getElem?_eq_some_iff.1 hy;have h:=iV m k hk ⟨{ m[k].x with ents:=es },ad,c⟩;rw[←h];have hl:∀j,j<5->k*5+j<(ins m).length:=fun j hj=>by simp;omega
 have e:∀j (hj:j<5),(ins m).set (k*5+j) ((in1 m[k])[j]'(by rw[ez];exact hj))=ins m:=fun j hj=>by
  rw[←jS m k hk j hj,List.set_getElem_self]
 have e0:(ins m).set (k*5) (.int .i64 m[k].x.id)=ins m:=e 0 (by omega);have e1:(ins m).set (k*5+1) (.int .i64 m[k].x.kind)=ins m:=e 1 (by omega);have e2:(ins m).set (k*5+2) (.int .i64 m[k].x.links)=ins m:=e 2 (by omega);have e3:(ins m).set (k*5+3) (.string m[k].x.data)=ins m:=e 3 (by omega);simp only[e0,e1,e2,e3]
theorem aZ (B:Nat)(W0:World)(next:Int)(g cap:Nat)(m:List InoP)(dir:Int)(k:Nat)(y:InoP)(ad:Option Addr)(c:Nat)(es:List EntL)(w:World)(h:VolOwn B W0 (some ⟨g,0,none⟩) cap m w)(hy:m[k]? = some y)(hat:atF (xs m) dir=(k:Int))
  (hes:Own 74 4 B W0 (.slice ad es.length c) es.length (ens es) w) (hn:cM m k (.slice ad es.length c)) :
  Calls Tryz.prog 125 #[.agg #[.int .i64 next,.slice (some ⟨g,0,none⟩) m.length cap],.int .i64 dir,.slice ad es.length c] w fun e w'=>e=.returned (.agg #[.int .i64 next,.slice (some ⟨g,0,none⟩) m.length cap])/\VolOwn B W0 (some ⟨g,0,none⟩) cap (m.set k ⟨{ y.x with ents:=es },ad,c⟩) w'/\w.grownBy w' (some g):=by
 have hkl:k<m.length:=(List.getElem?_eq_some_iff.1 hy).1;have hm:=bj h.p;have hgB:=(h.top.blk g rfl);have HAT:Hid (∀W,Below w.heap.size w W->Calls Tryz.prog 69 #[.agg #[.int .i64 next,.slice (some ⟨g,0,none⟩) m.length cap],.int .i64 dir] W fun e w'=>e=.returned (.int .i64 (k:Int))/\Below W.heap.size W w'):=zH (fun W hW=>by rw[←hat];exact aT next (some ⟨g,0,none⟩) m.length cap (xs m) dir W (h.kept hW).p.rd);have vv:Hid (∀W,Below w.heap.size w W->VolOwn B W0 (some ⟨g,0,none⟩) cap (m.set k ⟨{ y.x with ents:=es },ad,c⟩) (W.setCell ⟨g,k*5+4,none⟩ (.slice ad es.length c))/\w.grownBy (W.setCell ⟨g,k*5+4,none⟩ (.slice ad es.length c)) (some g)):=zH (fun W hW=>by
  have hv:=h.kept hW;have hg:=ae W g (k*5+4) (.slice ad es.length c);refine⟨VolOwn.put hv k ⟨{ y.x with ents:=es },ad,c⟩ ?_ hg ?_ hn,aq (aA (some g) hW) hg (fun x hx => .inl hx)⟩
  ·rw[←nu m k y hy];exact hv.top.set (k*5+4) _
  ·refine(hes.kept hW).other hg (fun q hq=>by cases hq;exact hgB.1) (fun q hq e=>jX h.top hes (by decide) q hq (by rw[←e];rfl)))
 have MN:Hid (∀W,Below w.heap.size w W->(∃u,W.cell? ⟨g,k*5+4,none⟩=some u)/\W.frozen? ⟨g,k*5+4,none⟩=false/\g<W.heap.size):=zH (fun W hW=>by
  have hv:=h.kept hW;refine⟨⟨_,hv.top.cell (k*5+4) (by simp;omega)⟩,hv.top.free _,((hv.top.blk g rfl).2)⟩)
 have xO:Hid (∀q,au (some ⟨g,0,none⟩) cap (m.set k ⟨{ y.x with ents:=es },ad,c⟩) q->q≠w.heap.size+1):=zH (fun q hq=>by
  rcases bx hq with hq|hq
  ·have:=(h.bl q hq).2;omega
  ·have:=(hes.blk q hq).2;omega)
 have hBw:=h.top.base;have hi:(k:Int)<(m.length:Int):=by omega
 have hi0:(0:Int)<=(k:Int):=by omega
 clear hat hy h hes hn;generalize m.length=n at *;generalize es.length=ne at *;have wC:=zH ((ar w 26 #[.int .i64 next,.slice (some ⟨g,0,none⟩) n cap]).alloc (.cells #[.int .i64 0,.slice none 0 0] 26));have HR1:=zH (ar (w.alloc (.cells #[.int .i64 next,.slice (some ⟨g,0,none⟩) n cap] 26)) 26 #[.int .i64 0,.slice none 0 0]);have HB:=zH ((az w (.cells #[.int .i64 next,.slice (some ⟨g,0,none⟩) n cap] 26)).alloc (by simp) (.cells #[.int .i64 0,.slice none 0 0] 26));have hs1:(w.alloc (.cells #[.int .i64 next,.slice (some ⟨g,0,none⟩) n cap] 26)).heap.size=w.heap.size+1:=by simp
 rw[hs1] at HR1;go_enter Tryz.func125,Tryz.ntmps125
 go_wp2;generalize (w.alloc (.cells #[.int .i64 next,.slice (some ⟨g,0,none⟩) n cap] 26)).alloc (.cells #[.int .i64 0,.slice none 0 0] 26)=w1 at *;have hgw:=hgB.2;have hne0:w.heap.size≠g:=by omega
 have hne1:w.heap.size+1≠g:=by omega
 have uR:Hid (∀W,Below w1.heap.size w1 W->(W.cell? ⟨w.heap.size,0,none⟩=some (.int .i64 next)/\W.cell? ⟨w.heap.size,1,none⟩=some (.slice (some ⟨g,0,none⟩) n cap))):=zH (fun W hW=>⟨(wC.out.below hW).two.1.1,(wC.out.below hW).two.1.2⟩);refine tkB uR 9 rfl (by kernel_rfl) (by first|exact zB|assumption) (fun uQ=>?_);simp only[List.replicate];refine tkI [0,1,2,3,5] ?_;(iterate 5 (refine tkS rfl (by kernel_rfl) (fun _ _ _=>id) (by rfl) (by intro w h;(try dsimp only at h);go_simp;try rfl) uQ ?_;try simp only[Act.put,tkA,tk0,tk1]));refine tkE ?_;refine wR 4 rfl (by kernel_rfl) (fun K hK=>?_);(try dsimp only at uQ);go_simp;(go_at_call 69;refine(HAT.out _ (ac HB.out zB.drew)).mono ?_;rintro e w7 ⟨rfl,hbk⟩)
 refine hK.out _ _ ?_ ?_
 ·(try dsimp only);(first|exact uR.out _ zB.drew|exact uR.out _ (ac zB.drew (by assumption))|exact⟨ag uQ.1 hne0,ag uQ.2 hne0⟩)
 clear hK K uQ;intro uQ;have hbw:=ac HB.out (ac zB.drew hbk);have Di:=zH ((HR1.out.below (zB.drew)).below hbk);obtain⟨⟨u4,Rh⟩,Ri,hg4⟩:=MN.out _ hbw;have HF:=zH (vv.out _ hbw);have wX:=zH (((Di.out.far (g:=g) (j:=k*5+4) (u:=.slice ad ne c) hne1).set 0 (.int .i64 next)).set 1 (.slice (some ⟨g,0,none⟩) n cap));have Dj:Hid (w.heap.size+1<w7.heap.size):=zH Di.out.lt;clear hbk;refine tkI [6,7] ?_;(iterate 2 (refine tkS rfl (by kernel_rfl) (fun _ _ _=>id) (by rfl) (by intro w h;(try dsimp only at h);go_simp;try rfl) uQ ?_;try simp only[Act.put,tkA,tk0,tk1]));refine tkE ?_;refine wR 8 rfl (by kernel_rfl) (fun K hK=>?_);(try dsimp only at uQ);go_simp;skip
 refine hK.out _ _ ?_ ?_
 ·(try dsimp only);(first|exact uR.out _ zB.drew|exact uR.out _ (ac zB.drew (by assumption))|exact⟨ag uQ.1 hne0,ag uQ.2 hne0⟩)
 clear hK K uQ;intro uQ;refine wpAnyH_done (by kernel_rfl) ?_ _;(try dsimp only at uQ);have r0:=(Di.out.far (g:=g) (j:=k*5+4) (u:=.slice ad ne c) hne1).two;go_wp2;exact oJ wX.out (by rfl) (by rfl) ⟨rfl,HF.out.1.res2 _ (by omega) xO.out _ _,dd HF.out.2 _ (by omega) _ _⟩
end Go.Proofs.YtlkfabkkjfmnmaaGreatDoor
