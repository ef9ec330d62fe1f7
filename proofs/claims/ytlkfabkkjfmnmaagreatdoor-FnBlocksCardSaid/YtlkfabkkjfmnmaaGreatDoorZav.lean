import Derived.Test.YtlkfabkkjfmnmaaGreatDoorZau
namespace Go.Proofs.YtlkfabkkjfmnmaaGreatDoor
open Go.RowKit
set_option linter.all false
set_option maxRecDepth 1000000
set_option maxHeartbeats 6000000
structure Bx (w:World)(next:Int)(a:Option Addr)(n cap:Nat)(kd dir:Int)(nm:ByteArray)(tt:Int)(sa dt:ByteArray)(W:World):Prop where
 v:Cs W w.heap.size [.int .i64 next,.slice a n cap]
 c:Cs W (w.heap.size+1) [.int .i64 kd,.int .i64 dir,.string nm,.int .i64 tt,.string sa,.string dt]
 r:Cs W (w.heap.size+2) [.int .i64 0,.slice none 0 0]
 s:Cs W (w.heap.size+3) [.int .i64 0,.int .i64 0,.string ⟨#[]⟩,.string ⟨#[]⟩]
 b:Below w.heap.size w W
theorem gp (w:World)(next:Int)(a:Option Addr)(n cap:Nat)(kd dir:Int)(nm:ByteArray)(tt:Int)(sa dt:ByteArray):Bx w next a n cap kd dir nm tt sa dt ((((w.alloc (.cells #[.int .i64 next,.slice a n cap] 26)).alloc (.cells #[.int .i64 kd,.int .i64 dir,.string nm,.int .i64 tt,.string sa,.string dt] 94)).alloc (.cells #[.int .i64 0,.slice none 0 0] 26)).alloc (.cells #[.int .i64 0,.int .i64 0,.string ⟨#[]⟩,.string ⟨#[]⟩] 90)):=by
 have h1:(w.alloc (.cells #[.int .i64 next,.slice a n cap] 26)).heap.size=w.heap.size+1:=by simp
 have h2:((w.alloc (.cells #[.int .i64 next,.slice a n cap] 26)).alloc (.cells #[.int .i64 kd,.int .i64 dir,.string nm,.int .i64 tt,.string sa,.string dt] 94)).heap.size=w.heap.size+2:=by simp
 have h3:(((w.alloc (.cells #[.int .i64 next,.slice a n cap] 26)).alloc (.cells #[.int .i64 kd,.int .i64 dir,.string nm,.int .i64 tt,.string sa,.string dt] 94)).alloc (.cells #[.int .i64 0,.slice none 0 0] 26)).heap.size=w.heap.size+3:=by simp
 have c1:=ar (w.alloc (.cells #[.int .i64 next,.slice a n cap] 26)) 94 #[.int .i64 kd,.int .i64 dir,.string nm,.int .i64 tt,.string sa,.string dt];have c2:=ar ((w.alloc (.cells #[.int .i64 next,.slice a n cap] 26)).alloc (.cells #[.int .i64 kd,.int .i64 dir,.string nm,.int .i64 tt,.string sa,.string dt] 94)) 26 #[.int .i64 0,.slice none 0 0];have c3:=ar (((w.alloc (.cells #[.int .i64 next,.slice a n cap] 26)).alloc (.cells #[.int .i64 kd,.int .i64 dir,.string nm,.int .i64 tt,.string sa,.string dt] 94)).alloc (.cells #[.int .i64 0,.slice none 0 0] 26)) 90 #[.int .i64 0,.int .i64 0,.string ⟨#[]⟩,.string ⟨#[]⟩];rw[h1] at c1;rw[h2] at c2;rw[h3] at c3;exact⟨(((ar w 26 #[.int .i64 next,.slice a n cap]).alloc _).alloc _).alloc _,(c1.alloc _).alloc _,c2.alloc _,c3,(((az w _).alloc (by simp) _).alloc (by rw[h2];omega) _).alloc (by rw[h3];omega) _⟩
theorem Bx.below {w W W':World}{next:Int}{a:Option Addr}{n cap:Nat}{kd dir:Int}{nm:ByteArray}{tt:Int}{sa dt:ByteArray}(h:Bx w next a n cap kd dir nm tt sa dt W)(hb:Below W.heap.size W W'):Bx w next a n cap kd dir nm tt sa dt W':=
 ⟨h.v.below hb,h.c.below hb,h.r.below hb,h.s.below hb,ac h.b hb⟩
theorem Bx.grown {w W W':World}{next:Int}{a:Option Addr}{n cap:Nat}{kd dir:Int}{nm:ByteArray}{tt:Int}{sa dt:ByteArray}(h:Bx w next a n cap kd dir nm tt sa dt W){r:Option Nat}(hg:W.grownBy W' r)(hr:∀q,r=some q->w.heap.size+4<=q):Bx w next a n cap kd dir nm tt sa dt W':=
 ⟨h.v.grown hg (fun e=>by have:=hr _ e;omega),h.c.grown hg (fun e=>by have:=hr _ e;omega),h.r.grown hg (fun e=>by have:=hr _ e;omega),h.s.grown hg (fun e=>by have:=hr _ e;omega),h.b.grown hg h.b.size (fun q hq=>by have:=hr q hq;omega)⟩
theorem Bx.far {w W:World}{next:Int}{a:Option Addr}{n cap:Nat}{kd dir:Int}{nm:ByteArray}{tt:Int}{sa dt:ByteArray}(h:Bx w next a n cap kd dir nm tt sa dt W)(g j:Nat)(u:Value)(hg:w.heap.size+4<=g):Bx w next a n cap kd dir nm tt sa dt (W.setCell ⟨g,j,none⟩ u):=
 h.grown (ae W g j u) (fun q hq=>by cases hq;exact hg)
theorem Bx.size {w W:World}{next:Int}{a:Option Addr}{n cap:Nat}{kd dir:Int}{nm:ByteArray}{tt:Int}{sa dt:ByteArray}(h:Bx w next a n cap kd dir nm tt sa dt W):w.heap.size+4<=W.heap.size:=by have:=h.s.lt;omega
theorem Bx.out {w W:World}{next:Int}{a:Option Addr}{n cap:Nat}{kd dir:Int}{nm:ByteArray}{tt:Int}{sa dt:ByteArray}(h:Bx w next a n cap kd dir nm tt sa dt W)(u0 u1 v0 v1 v2 v3:Value) :
  (Cs ((((((W.setCell ⟨w.heap.size+2,0,none⟩ u0).setCell ⟨w.heap.size+2,1,none⟩ u1).setCell ⟨w.heap.size+3,0,none⟩ v0).setCell ⟨w.heap.size+3,1,none⟩ v1).setCell ⟨w.heap.size+3,2,none⟩ v2).setCell ⟨w.heap.size+3,3,none⟩ v3) (w.heap.size+2) [u0,u1]/\Cs ((((((W.setCell ⟨w.heap.size+2,0,none⟩ u0).setCell ⟨w.heap.size+2,1,none⟩ u1).setCell ⟨w.heap.size+3,0,none⟩ v0).setCell ⟨w.heap.size+3,1,none⟩ v1).setCell ⟨w.heap.size+3,2,none⟩ v2).setCell ⟨w.heap.size+3,3,none⟩ v3) (w.heap.size+3) [v0,v1,v2,v3])/\Below w.heap.size w ((((((W.setCell ⟨w.heap.size+2,0,none⟩ u0).setCell ⟨w.heap.size+2,1,none⟩ u1).setCell ⟨w.heap.size+3,0,none⟩ v0).setCell ⟨w.heap.size+3,1,none⟩ v1).setCell ⟨w.heap.size+3,2,none⟩ v2).setCell ⟨w.heap.size+3,3,none⟩ v3):=
 ⟨pP h.r h.s (by omega) u0 u1 v0 v1 v2 v3,kh h.b _ _ (by omega) (by omega) u0 u1 v0 v1 v2 v3⟩
theorem Bx.same {w W:World}{next:Int}{a:Option Addr}{cap:Nat}{kd dir:Int}{nm:ByteArray}{tt:Int}{sa dt:ByteArray}{m:List InoP}(hb:Bx w next a m.length cap kd dir nm tt sa dt W){B:Nat}{W0:World}(h:VolOwn B W0 a cap m w)(hi:Inv d0 next (xs m))(v0 v1:Int)(v2 v3:ByteArray) :
  a6 B (au a cap m) w (.returned (.tuple #[.agg #[.int .i64 next,.slice a m.length cap],.agg #[.int .i64 v0,.int .i64 v1,.string v2,.string v3]])) ((((((W.setCell ⟨w.heap.size+2,0,none⟩ (.int .i64 next)).setCell ⟨w.heap.size+2,1,none⟩ (.slice a m.length cap)).setCell ⟨w.heap.size+3,0,none⟩ (.int .i64 v0)).setCell ⟨w.heap.size+3,1,none⟩ (.int .i64 v1)).setCell ⟨w.heap.size+3,2,none⟩ (.string v2)).setCell ⟨w.heap.size+3,3,none⟩ (.string v3)):=
 ⟨next,a,cap,m,v0,v1,v2,v3,rfl,hi,(h.kept hb.b).res6 _ _ (fun q hq=>by have:=(h.bl q hq).2;omega) (fun q hq=>by have:=(h.bl q hq).2;omega) _ _ _ _ _ _,(hb.out _ _ _ _ _ _).2,fun q hq => .inl hq⟩
theorem Bx.new {Q:Nat->Prop}{w W W1 W2:World}{next:Int}{a:Option Addr}{n cap:Nat}{kd dir:Int}{nm:ByteArray}{tt:Int}{sa dt:ByteArray}(hb1:Bx w next a n cap kd dir nm tt sa dt W1)(hb:Bx w next a n cap kd dir nm tt sa dt W){B:Nat}(hB:B<=w.heap.size){nx:Int}{a':Option Addr}{c':Nat}{m':List InoP}(h:VolOwn W1.heap.size W2 a' c' m' W)(hi:Inv d0 nx (xs m'))(v0 v1:Int)(v2 v3:ByteArray) :
  a6 B Q w (.returned (.tuple #[.agg #[.int .i64 nx,.slice a' m'.length c'],.agg #[.int .i64 v0,.int .i64 v1,.string v2,.string v3]])) ((((((W.setCell ⟨w.heap.size+2,0,none⟩ (.int .i64 nx)).setCell ⟨w.heap.size+2,1,none⟩ (.slice a' m'.length c')).setCell ⟨w.heap.size+3,0,none⟩ (.int .i64 v0)).setCell ⟨w.heap.size+3,1,none⟩ (.int .i64 v1)).setCell ⟨w.heap.size+3,2,none⟩ (.string v2)).setCell ⟨w.heap.size+3,3,none⟩ (.string v3)):=by
 have hz:=hb1.size;have hs:=hb.out (.int .i64 nx) (.slice a' m'.length c') (.int .i64 v0) (.int .i64 v1) (.string v2) (.string v3);have hl:=hs.1.2.lt;have h6:=h.res6 (w.heap.size+2) (w.heap.size+3) (fun q hq=>by have:=(h.bl q hq).1;omega) (fun q hq=>by have:=(h.bl q hq).1;omega) (.int .i64 nx) (.slice a' m'.length c') (.int .i64 v0) (.int .i64 v1) (.string v2) (.string v3);exact⟨nx,a',c',m',v0,v1,v2,v3,rfl,hi,cf h6 (by omega) zB (by omega),hs.2,fun q hq => .inr (by have:=(h.bl q hq).1;omega)⟩
theorem bC {d:Int->Int}{next:Int}{m:List InoP}(h:Inv d next (xs m)):m.length<=16/\∀y∈m,y.x.ents.length<=12/\(∀e∈y.x.ents,e.name.size<=1073741824):=by
 refine⟨by have:=h.n16;rw[cy] at this;exact this,fun y hy=>?_⟩;have g:=h.good y.x (List.mem_map_of_mem hy);exact⟨g.len,fun e he=>(g.ents e he).small⟩
theorem mz (l:List InoL)(i:Int)(h:∀x∈l,x.ents.length<=12):aD l i<=12*l.length:=by
 induction l with
 | nil=>exact Nat.zero_le _
 | cons x l ih =>
  rw[cS,List.length_cons];have h1:=p7 x.ents i;have h2:=h x List.mem_cons_self;have h3:=ih (fun y hy=>h y (List.mem_cons_of_mem _ hy));omega
theorem ep {Post:Ending->World->Prop}{a:Act}{wf:World}{R S:Nat}{u0:Int}{u1:Value}{v0 v1:Int}{v2 v3:ByteArray}(hc:Cs wf R [.int .i64 u0,u1]/\Cs wf S [.int .i64 v0,.int .i64 v1,.string v2,.string v3])(h4:a.tmps[4]?.getD undef=.pointer (some ⟨R,0,none⟩))(h5:a.tmps[5]?.getD undef=.pointer (some ⟨S,0,none⟩))(hd:a.defers = [])
  (hp:Post (.returned (.tuple #[.agg #[.int .i64 u0,u1],.agg #[.int .i64 v0,.int .i64 v1,.string v2,.string v3]])) wf):bodyPost Tryz.prog Tryz.f99 Post Exit.ret a wf:=by
 obtain⟨⟨r0,r1⟩,-⟩:=hc.1.two;obtain⟨⟨s0,s1,s2,s3⟩,-⟩:=hc.2.four;exact bodyPost_ret (v:=.tuple #[.agg #[.int .i64 u0,u1],.agg #[.int .i64 v0,.int .i64 v1,.string v2,.string v3]]) (by simp[results,Tryz.results99,go_sem,h4,h5,r0,r1,s0,s1,s2,s3]) hd hp
theorem bE {Post:Ending->World->Prop}{a:Act}{wf:World}{R S:Nat}{u0:Int}{u1:Value}{v0 v1:Int}{v2 v3:ByteArray}(hc:Cs wf R [.int .i64 u0,u1]/\Cs wf S [.int .i64 v0,.int .i64 v1,.string v2,.string v3])(h4:a.tmps[4]?.getD undef=.pointer (some ⟨R,0,none⟩))(h5:a.tmps[5]?.getD undef=.pointer (some ⟨S,0,none⟩))(hd:a.defers = [])
  (hp:Post (.returned (.tuple #[.agg #[.int .i64 u0,u1],.agg #[.int .i64 v0,.int .i64 v1,.string v2,.string v3]])) wf):bodyPost Tryz.prog Tryz.f100 Post Exit.ret a wf:=by
 obtain⟨⟨r0,r1⟩,-⟩:=hc.1.two;obtain⟨⟨s0,s1,s2,s3⟩,-⟩:=hc.2.four;exact bodyPost_ret (v:=.tuple #[.agg #[.int .i64 u0,u1],.agg #[.int .i64 v0,.int .i64 v1,.string v2,.string v3]]) (by simp[results,Tryz.results100,go_sem,h4,h5,r0,r1,s0,s1,s2,s3]) hd hp
theorem bz {Post:Ending->World->Prop}{a:Act}{wf:World}{R S:Nat}{u0:Int}{u1:Value}{v0 v1:Int}{v2 v3:ByteArray}(hc:Cs wf R [.int .i64 u0,u1]/\Cs wf S [.int .i64 v0,.int .i64 v1,.string v2,.string v3])(h4:a.tmps[4]?.getD undef=.pointer (some ⟨R,0,none⟩))(h5:a.tmps[5]?.getD undef=.pointer (some ⟨S,0,none⟩))(hd:a.defers = [])
  (hp:Post (.returned (.tuple #[.agg #[.int .i64 u0,u1],.agg #[.int .i64 v0,.int .i64 v1,.string v2,.string v3]])) wf):bodyPost Tryz.prog Tryz.f73 Post Exit.ret a wf:=by
 obtain⟨⟨r0,r1⟩,-⟩:=hc.1.two;obtain⟨⟨s0,s1,s2,s3⟩,-⟩:=hc.2.four;exact bodyPost_ret (v:=.tuple #[.agg #[.int .i64 u0,u1],.agg #[.int .i64 v0,.int .i64 v1,.string v2,.string v3]]) (by simp[results,Tryz.results73,go_sem,h4,h5,r0,r1,s0,s1,s2,s3]) hd hp
theorem aK {m m':List InoP}(hx:xs m'=xs m){k:Nat}{y:InoP}(hy:m[k]? = some y):∃ad c,m'[k]? = some ⟨y.x,ad,c⟩:=by
 obtain⟨hk,rfl⟩:=List.getElem?_eq_some_iff.1 hy;have hl:m'.length=m.length:=by rw[←cy,hx,cy]
 have hk':k<m'.length:=by omega
 have h1:=fH m' k hk';have h2:=fH m k hk;have e:m'[k].x=m[k].x:=by rw[←h1,←h2];congr 1
 exact⟨m'[k].ad,m'[k].cap,by rw[List.getElem?_eq_getElem hk',←e]⟩
theorem db {m:List InoP}{k:Nat}{y z:InoP}(hy:m[k]? = some y)(hz:z.x.id=y.x.id)(i:Int):atF (xs (m.set k z)) i=atF (xs m) i:=by
 obtain⟨hk,rfl⟩:=List.getElem?_eq_some_iff.1 hy;refine rm ?_ i;rw[fX];exact kD (by rw[cy];exact hk) (by rw[fH m k hk];exact hz)
theorem eD {d:Int->Int}{next:Int}{m:List InoP}(h:Inv d next (xs m)){k:Nat}{y:InoP}(hy:m[k]? = some y){e:EntL}(he:e∈y.x.ents):∃(kx:Nat) (z:InoP),m[kx]? = some z/\atF (xs m) z.x.id=(kx:Int)/\z.x.id=e.id/\z.x.id≠1/\1<=z.x.id/\z.x.id<=100000:=by
 have g:=(h.good y.x (List.mem_map_of_mem (List.mem_of_getElem? hy))).ents e he;have h0:=(tD (xs m) e.id).2 g.mem;obtain⟨kx,hkx⟩:=Int.eq_ofNat_of_zero_le h0;obtain⟨hl,hid⟩:=gL (xs m) e.id kx hkx;have hl2:kx<m.length:=by rw[cy] at hl;exact hl
 rw[fH m kx hl2] at hid;have hr:=h.rng m[kx].x (List.mem_map_of_mem (List.getElem_mem hl2));have:=h.hi;exact⟨kx,m[kx],List.getElem?_eq_getElem hl2,by rw[hid];exact hkx,hid,by rw[hid];exact g.no1,hr.1,by omega⟩
theorem dO {next:Int}{m:List InoP}(h:Inv d0 next (xs m)){k:Nat}{y:InoP}(hy:m[k]? = some y)(h1:y.x.id≠1):0<=y.x.links/\y.x.links<=192:=by
 have hm:y.x∈xs m:=List.mem_map_of_mem (List.mem_of_getElem? hy);have h2:=h.link y.x hm h1;have h3:=mz (xs m) y.x.id (fun x hx=>(h.good x hx).len);have h4:=h.n16;unfold d0 at h2;omega
theorem bD {d:Int->Int}{next:Int}{m:List InoP}(h:Inv d next (xs m)){k:Nat}{y:InoP}(hy:m[k]? = some y):GoodI (cu (xs m)) y.x:=h.good y.x (List.mem_map_of_mem (List.mem_of_getElem? hy))
theorem cT {m:List InoP}{k kx:Nat}{z:InoP}(hne:k≠kx):(m.set k z)[kx]? = m[kx]? := by rw[List.getElem?_set_ne hne]
theorem er {m:List InoP}{k:Nat}{y z:InoP}(hy:m[k]? = some y):(m.set k z)[k]? = some z:=by
 obtain⟨hk,_⟩:=List.getElem?_eq_some_iff.1 hy;rw[List.getElem?_set_self hk]
theorem pw {m:List InoP}{k:Nat}{y:InoP}(hy:m[k]? = some y):∃hk:k<(xs m).length,(xs m)[k]=y.x:=by
 obtain⟨hk,rfl⟩:=List.getElem?_eq_some_iff.1 hy;exact⟨by rw[cy];exact hk,fH m k hk⟩
theorem gh {d:Int->Int}{next:Int}{m:List InoP}(h:Inv d next (xs m)){k:Nat}{y:InoP}(hy:m[k]? = some y)(j:Nat)(hj:j<y.x.ents.length)(g:Option Addr)(c:Nat) :
  Inv (fun i=>d i+d1 y.x.ents[j].id i) next (xs (m.set k ⟨{ y.x with ents:=y.x.ents.eraseIdx j },g,c⟩)):=by
 obtain⟨hk,e⟩:=pw hy;have hj2:j<(xs m)[k].ents.length:=by rw[e];exact hj
 have h1:=h.drop k hk j hj2;rw[fX];simp only[e] at h1;exact h1
theorem nl {d:Int->Int}{next:Int}{m:List InoP}(h:Inv d next (xs m)){k:Nat}{y:InoP}(hy:m[k]? = some y)(hkd:y.x.kind=2)(out:List EntL)(e:EntL)(hp:out.Perm (e::y.x.ents))(hl:y.x.ents.length<12)(hs:l6 e)(h1:e.id≠1)(hm:e.id∈cu (xs m))(g:Option Addr)(c:Nat) :
  Inv (fun i=>d i - d1 e.id i) next (xs (m.set k ⟨{ y.x with ents:=out },g,c⟩)):=by
 obtain⟨hk,e2⟩:=pw hy;have h2:=h.add k hk (by rw[e2];exact hkd) out e (by rw[e2];exact hp) (by rw[e2];exact hl) ⟨hs,h1,hm⟩;rw[fX];simp only[e2] at h2;exact h2
theorem mc {d:Int->Int}{next:Int}{m:List InoP}(h:Inv d next (xs m)){k:Nat}{y:InoP}(hy:m[k]? = some y)(j:Nat)(hj:j<y.x.ents.length)(e:EntL)(hs:l6 e)(h1:e.id≠1)(hm:e.id∈cu (xs m))(g:Option Addr)(c:Nat) :
  Inv (fun i=>d i+d1 y.x.ents[j].id i - d1 e.id i) next (xs (m.set k ⟨{ y.x with ents:=y.x.ents.set j e },g,c⟩)):=by
 obtain⟨hk,e2⟩:=pw hy;have h2:=h.respell k hk j (by rw[e2];exact hj) e ⟨hs,h1,hm⟩;rw[fX];simp only[e2] at h2;exact h2
theorem tH {d:Int->Int}{next:Int}{m:List InoP}(h:Inv d next (xs m)){k:Nat}{y:InoP}(hy:m[k]? = some y)(cc:Int)(g:Option Addr)(c:Nat) :
  Inv (fun i=>d i+cc*d1 y.x.id i) next (xs (m.set k ⟨{ y.x with links:=y.x.links+cc },g,c⟩)):=by
 obtain⟨hk,e2⟩:=pw hy;have h2:=h.links k hk cc;rw[fX];simp only[e2] at h2;exact h2
theorem ut {d:Int->Int}{next:Int}{m:List InoP}(h:Inv d next (xs m)){k:Nat}{y:InoP}(hy:m[k]? = some y)(s:ByteArray)(hs:s.size<=1000)(g:Option Addr)(c:Nat) :
  Inv d next (xs (m.set k ⟨{ y.x with data:=s },g,c⟩)):=by
 obtain⟨hk,e2⟩:=pw hy;have h2:=h.data k hk s hs;rw[fX];simp only[e2] at h2;exact h2
theorem ml {d:Int->Int}{next:Int}{m1 m2:List InoP}{kx:Nat}{z:InoP}(h:Inv d next (xs m1))(hd:∀i,i∈cu (xs m1)->i≠1->d1 z.x.id i=d i)(hz:m1[kx]? = some z)(h1:z.x.id≠1)(he:z.x.ents = [])
  (hp:(z.x.links + -1≠0/\xs m2=(xs m1).set kx { z.x with links:=z.x.links + -1 })∨(z.x.links + -1=0/\xs m2=((xs m1).set kx { z.x with links:=z.x.links + -1 }).filter (fun x => !(x.id==z.x.id)))):Inv d0 next (xs m2):=by
 obtain⟨hk,e2⟩:=pw hz;have h2:=Inv.less kx hk (by rw[e2];exact h.congr hd) (by rw[e2];exact h1) (by rw[e2];exact he);simp only[e2] at h2;rcases hp with ⟨_,e⟩|⟨h0,e⟩
 ·rw[e];exact h2.1
 ·rw[e];exact h2.2 h0
theorem fB {m:List InoP}{k:Nat}{y z:InoP}(hy:m[k]? = some y)(hz:z.x.id=y.x.id):cu (xs (m.set k z))=cu (xs m):=by
 obtain⟨hk,e⟩:=pw hy;rw[fX];exact kD hk (by rw[e];exact hz)
theorem eK {m:List InoP}{k:Nat}{y:InoP}(hy:m[k]? = some y):y.x.id∈cu (xs m):=List.mem_map_of_mem (List.mem_map_of_mem (List.mem_of_getElem? hy))
theorem aX (w:World)(B:Nat)(u0 u1 u2 u3 u4:Value):Below B w (((((w.setCell ⟨B,0,none⟩ u0).setCell ⟨B,1,none⟩ u1).setCell ⟨B,2,none⟩ u2).setCell ⟨B,3,none⟩ u3).setCell ⟨B,4,none⟩ u4):=
 (((((Below.refl B w).setCell (p:=⟨B,0,none⟩) zN u0).setCell (p:=⟨B,1,none⟩) zN u1).setCell (p:=⟨B,2,none⟩) zN u2).setCell (p:=⟨B,3,none⟩) zN u3).setCell (p:=⟨B,4,none⟩) zN u4
end Go.Proofs.YtlkfabkkjfmnmaaGreatDoor
