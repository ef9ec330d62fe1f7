import Derived.Test.YtlkfabkkjfmnmaaGreatDoorZbm
import Derived.Deep.CutBlock
namespace Go.Proofs.YtlkfabkkjfmnmaaGreatDoor
open Go.RowKit
set_option linter.all false
set_option maxRecDepth 1000000
set_option maxHeartbeats 6000000
def SmP (m:List InoP):Prop:=m.length<=17/\∀y∈m,y.x.data.size<=1001/\y.x.ents.length<=901/\∀e∈y.x.ents,e.name.size<=1073741824
theorem tC {d:Int->Int}{next:Int}{m:List InoP}(h:Inv d next (xs m)):SmP m:=by
 refine⟨by have:=(bC h).1;omega,fun y hy=>?_⟩;have g:=h.good y.x (List.mem_map_of_mem hy);exact⟨by have:=g.data;omega,by have:=g.len;omega,fun e he=>(g.ents e he).small⟩
theorem SmP.set {m:List InoP}(h:SmP m)(k:Nat)(y:InoP)(hy:y.x.data.size<=1001/\y.x.ents.length<=901/\∀e∈y.x.ents,e.name.size<=1073741824):SmP (m.set k y):=by
 refine⟨by rw[List.length_set];exact h.1,fun z hz=>?_⟩;rcases List.mem_or_eq_of_mem_set hz with hz|rfl
 ·exact h.2 z hz
 ·exact hy
theorem rN (m:List InoP)(k:Nat)(y:InoP)(hy:m[k]? = some y)(z:Int):(ins m).set (k*5) (.int .i64 z)=ins (m.set k ⟨{ y.x with id:=z },y.ad,y.cap⟩):=by
 have hk:=(List.getElem?_eq_some_iff.1 hy).1;rw[←iV m k hk ⟨{ y.x with id:=z },y.ad,y.cap⟩];have e1:(ins m).set (k*5+1) (.int .i64 y.x.kind)=ins m:=cj m k y hy 1 (by omega) _ rfl;have e2:(ins m).set (k*5+2) (.int .i64 y.x.links)=ins m:=cj m k y hy 2 (by omega) _ rfl;have e3:(ins m).set (k*5+3) (.string y.x.data)=ins m:=cj m k y hy 3 (by omega) _ rfl;have e4:(ins m).set (k*5+4) (.slice y.ad y.x.ents.length y.cap)=ins m:=cj m k y hy 4 (by omega) _ rfl;rw[List.set_comm _ _ (show k*5≠k*5+1 by omega),e1,List.set_comm _ _ (show k*5≠k*5+2 by omega),e2,List.set_comm _ _ (show k*5≠k*5+3 by omega),e3,List.set_comm _ _ (show k*5≠k*5+4 by omega),e4]
theorem sU (m:List InoP)(k:Nat)(y:InoP)(hy:m[k]? = some y)(z:Int):(ins m).set (k*5+1) (.int .i64 z)=ins (m.set k ⟨{ y.x with kind:=z },y.ad,y.cap⟩):=by
 have hk:=(List.getElem?_eq_some_iff.1 hy).1;rw[←iV m k hk ⟨{ y.x with kind:=z },y.ad,y.cap⟩];have e0:(ins m).set (k*5) (.int .i64 y.x.id)=ins m:=cj m k y hy 0 (by omega) _ rfl;have e2:(ins m).set (k*5+2) (.int .i64 y.x.links)=ins m:=cj m k y hy 2 (by omega) _ rfl;have e3:(ins m).set (k*5+3) (.string y.x.data)=ins m:=cj m k y hy 3 (by omega) _ rfl;have e4:(ins m).set (k*5+4) (.slice y.ad y.x.ents.length y.cap)=ins m:=cj m k y hy 4 (by omega) _ rfl;rw[e0,List.set_comm _ _ (show k*5+1≠k*5+2 by omega),e2,List.set_comm _ _ (show k*5+1≠k*5+3 by omega),e3,List.set_comm _ _ (show k*5+1≠k*5+4 by omega),e4]
def pT (g:Nat)(w:World)(e:Ending)(w':World):Prop:=
 ∃(next:Int) (va:Option Addr) (vc:Nat) (m:List InoP),e=.returned (.agg #[.int .i64 next,.slice va m.length vc])/\SmP m/\VolOwn w.heap.size w' va vc m w'/\w.grownBy w' (some g)
theorem pz {g:Nat}{w wx:World}{next:Int}{va:Option Addr}{vc:Nat}{m:List InoP}(hs:SmP m)(hv:VolOwn w.heap.size wx va vc m wx)(hg:w.grownBy wx (some g))(hn:∀q,au va vc m q->q≠w.heap.size) :
  pT g w (.returned (.agg #[.int .i64 next,.slice va m.length vc])) ((wx.setCell ⟨w.heap.size,0,none⟩ (.int .i64 next)).setCell ⟨w.heap.size,1,none⟩ (.slice va m.length vc)):=
 ⟨next,va,vc,m,rfl,hs,hv.res2l w.heap.size hn _ _,dd hg w.heap.size zN _ _⟩
def AnyR (g vb:Nat)(w wx:World):Prop:=
 ∃(nx:Int) (a9:Option Addr) (c9:Nat) (m9:List InoP),Hid (SmP m9)/\Hid (VolOwn w.heap.size wx a9 c9 m9 wx)/\Hid (Cs wx vb [.int .i64 nx,.slice a9 m9.length c9])/\Hid (Cs wx w.heap.size [.int .i64 0,.slice none 0 0])/\Hid (w.grownBy wx (some g))/\Hid (∀q,au a9 c9 m9 q->q≠w.heap.size)
theorem i3 {g vb gI vc:Nat}{w wx:World}{next:Int}{m:List InoP}{k:Nat}{y y':InoP}{j:Nat}{u:Value}(hs:SmP m)(hv:VolOwn w.heap.size wx (some ⟨gI,0,none⟩) vc m wx)(hx:Cs wx vb [.int .i64 next,.slice (some ⟨gI,0,none⟩) m.length vc])(hr:Cs wx w.heap.size [.int .i64 0,.slice none 0 0])(hg:w.grownBy wx (some g))(hn:∀q,au (some ⟨gI,0,none⟩) vc m q->q≠w.heap.size)(hne:vb≠gI)
  (hy:m[k]? = some y) (he:y'.x.ents=y.x.ents) (ha:y'.ad=y.ad) (hc:y'.cap=y.cap) (hi:(ins m).set j u=ins (m.set k y')) (hd:y'.x.data.size<=1001):AnyR g vb w (wx.setCell ⟨gI,j,none⟩ u):=by
 have hmem:=List.mem_of_getElem? hy;have hgb:=hv.top.blk gI rfl;have hnw:w.heap.size≠gI:=fun e=>hn gI (.inl rfl) e.symm
 refine⟨next,_,vc,m.set k y',zH (hs.set k y' ⟨hd,by rw[he];exact(hs.2 y hmem).2.1,by rw[he];exact(hs.2 y hmem).2.2⟩),zH ((hv.field k y y' hy j u he ha hc hi).self),zH (by rw[List.length_set];exact hx.far hne),zH (hr.far hnw),zH (aq hg (ae wx gI j u) (fun q hq => .inr (by cases hq;exact hgb.1))),zH (fun q hq=>?_)⟩;rcases bx hq with h|h
 ·exact hn q h
 ·unfold InoP.blk at h;rw[ha,hc,he] at h;exact hn q (.inr ⟨y,hmem,h⟩)
theorem RX {g vb gI vc:Nat}{w wx:World}{next:Int}{m:List InoP}{k:Nat}{y:InoP}{z:Int}(hs:SmP m)(hv:VolOwn w.heap.size wx (some ⟨gI,0,none⟩) vc m wx)(hx:Cs wx vb [.int .i64 next,.slice (some ⟨gI,0,none⟩) m.length vc])(hr:Cs wx w.heap.size [.int .i64 0,.slice none 0 0])(hg:w.grownBy wx (some g))(hn:∀q,au (some ⟨gI,0,none⟩) vc m q->q≠w.heap.size)(hne:vb≠gI)(hy:m[k]? = some y):AnyR g vb w (wx.setCell ⟨gI,k*5,none⟩ (.int .i64 z)):=
 i3 (y':=⟨{ y.x with id:=z },y.ad,y.cap⟩) hs hv hx hr hg hn hne hy rfl rfl rfl (rN m k y hy z) (hs.2 y (List.mem_of_getElem? hy)).1
theorem RY {g vb gI vc:Nat}{w wx:World}{next:Int}{m:List InoP}{k:Nat}{y:InoP}{z:Int}(hs:SmP m)(hv:VolOwn w.heap.size wx (some ⟨gI,0,none⟩) vc m wx)(hx:Cs wx vb [.int .i64 next,.slice (some ⟨gI,0,none⟩) m.length vc])(hr:Cs wx w.heap.size [.int .i64 0,.slice none 0 0])(hg:w.grownBy wx (some g))(hn:∀q,au (some ⟨gI,0,none⟩) vc m q->q≠w.heap.size)(hne:vb≠gI)(hy:m[k]? = some y):AnyR g vb w (wx.setCell ⟨gI,k*5+1,none⟩ (.int .i64 z)):=
 i3 (y':=⟨{ y.x with kind:=z },y.ad,y.cap⟩) hs hv hx hr hg hn hne hy rfl rfl rfl (sU m k y hy z) (hs.2 y (List.mem_of_getElem? hy)).1
theorem RU {g vb gI vc:Nat}{w wx:World}{next:Int}{m:List InoP}{k:Nat}{y:InoP}{z:Int}(hs:SmP m)(hv:VolOwn w.heap.size wx (some ⟨gI,0,none⟩) vc m wx)(hx:Cs wx vb [.int .i64 next,.slice (some ⟨gI,0,none⟩) m.length vc])(hr:Cs wx w.heap.size [.int .i64 0,.slice none 0 0])(hg:w.grownBy wx (some g))(hn:∀q,au (some ⟨gI,0,none⟩) vc m q->q≠w.heap.size)(hne:vb≠gI)(hy:m[k]? = some y):AnyR g vb w (wx.setCell ⟨gI,k*5+2,none⟩ (.int .i64 z)):=
 i3 (y':=⟨{ y.x with links:=z },y.ad,y.cap⟩) hs hv hx hr hg hn hne hy rfl rfl rfl (iD m k y hy z) (hs.2 y (List.mem_of_getElem? hy)).1
theorem RV {g vb gI vc:Nat}{w wx:World}{next:Int}{m:List InoP}{k:Nat}{y:InoP}{z:ByteArray}(hs:SmP m)(hv:VolOwn w.heap.size wx (some ⟨gI,0,none⟩) vc m wx)(hx:Cs wx vb [.int .i64 next,.slice (some ⟨gI,0,none⟩) m.length vc])(hr:Cs wx w.heap.size [.int .i64 0,.slice none 0 0])(hg:w.grownBy wx (some g))(hn:∀q,au (some ⟨gI,0,none⟩) vc m q->q≠w.heap.size)(hne:vb≠gI)(hy:m[k]? = some y)(hd:z.size<=1001):AnyR g vb w (wx.setCell ⟨gI,k*5+3,none⟩ (.string z)):=
 i3 (y':=⟨{ y.x with data:=z },y.ad,y.cap⟩) hs hv hx hr hg hn hne hy rfl rfl rfl (mO m k y hy z) hd
theorem sf {g vb gI vc ce:Nat}{w wx:World}{next:Int}{m:List InoP}{k:Nat}{y:InoP}{es:List EntL}{pe:Option Addr}(hs:SmP m)(hv:VolOwn w.heap.size wx (some ⟨gI,0,none⟩) vc m wx)(hx:Cs wx vb [.int .i64 next,.slice (some ⟨gI,0,none⟩) m.length vc])(hr:Cs wx w.heap.size [.int .i64 0,.slice none 0 0])(hg:w.grownBy wx (some g))(hn:∀q,au (some ⟨gI,0,none⟩) vc m q->q≠w.heap.size)(hne:vb≠gI)
  (hy:m[k]? = some y) (hd:y.x.data.size<=1001) (ho:Own 74 4 w.heap.size wx (.slice pe es.length ce) es.length (ens es) wx) (hap:cM m k (.slice pe es.length ce)) (hnn:∀q,(Value.slice pe es.length ce).ownBlock=some q->q≠w.heap.size/\q≠gI) (hl:es.length<=901) (hsm:∀x∈es,dq x) :
  AnyR g vb w (wx.setCell ⟨gI,k*5+4,none⟩ (.slice pe es.length ce)):=by
 have hgb:=hv.top.blk gI rfl;have hnw:w.heap.size≠gI:=fun e=>hn gI (.inl rfl) e.symm
 have hg2:=ae wx gI (k*5+4) (.slice pe es.length ce);have hp:VolOwn w.heap.size wx (some ⟨gI,0,none⟩) vc (m.set k ⟨{ y.x with ents:=es },pe,ce⟩) (wx.setCell ⟨gI,k*5+4,none⟩ (.slice pe es.length ce)):=by
  refine VolOwn.put hv k _ ?_ hg2 ?_ ?_
  ·rw[←nu m k y hy es pe ce];exact hv.top.set _ _
  ·exact ho.other hg2 (fun q hq=>by cases hq;exact hgb.1) (fun q hq e=>(hnn q hq).2 (Option.some.inj e).symm)
  ·exact hap
 refine⟨next,_,vc,m.set k ⟨{ y.x with ents:=es },pe,ce⟩,zH (hs.set k ⟨{ y.x with ents:=es },pe,ce⟩ ⟨hd,hl,fun e he=>hsm e he⟩),zH hp.self,zH (by rw[List.length_set];exact hx.far hne),zH (hr.far hnw),zH (aq hg hg2 (fun q hq => .inr (by cases hq;exact hgb.1))),zH (fun q hq=>?_)⟩;rcases bx hq with h|h
 ·exact hn q h
 ·exact(hnn q h).1
theorem tO {g vb gI vc c9:Nat}{w w6 w9:World}{next z:Int}{m:List InoP}{a9:Option Addr}(hs:SmP m)(yg:m.length<=16)(hv:VolOwn w.heap.size w6 (some ⟨gI,0,none⟩) vc m w6)(hx:Cs w6 vb [.int .i64 next,.slice (some ⟨gI,0,none⟩) m.length vc])(hr:Cs w6 w.heap.size [.int .i64 0,.slice none 0 0])(hg:w.grownBy w6 (some g))(hn:∀q,au (some ⟨gI,0,none⟩) vc m q->q≠w.heap.size)(Ph:∀q,au (some ⟨gI,0,none⟩) vc m q->q≠vb)(hvw:w.heap.size<vb)
  (ho:Own 45 5 w.heap.size w6 (.slice a9 (m.length+1) c9) (m.length+1) (ins m ++ #[.int .i64 z,.int .i64 1,.int .i64 0,.string ⟨#[]⟩,.slice none 0 0].toList) w9) (hgr:w6.grownBy w9 (Value.slice (some ⟨gI,0,none⟩) m.length vc).ownBlock) (hnew:(Value.slice a9 (m.length+1) c9).ownBlock=(Value.slice (some ⟨gI,0,none⟩) m.length vc).ownBlock∨∃k,(Value.slice a9 (m.length+1) c9).ownBlock=some k/\w6.heap.size<=k) :
  AnyR g vb w (w9.setCell ⟨vb,1,none⟩ (.slice a9 (m.length+1) c9)):=by
 have hgb:=hv.top.blk gI rfl;have hnw:w.heap.size≠gI:=fun e=>hn gI (.inl rfl) e.symm
 have hnb:vb≠gI:=fun e=>Ph gI (.inl rfl) e.symm
 have EU:w6.grownBy w9 (some gI):=hgr;have hb:VolOwn w.heap.size w6 a9 c9 (m ++ [⟨⟨z,1,0,⟨#[]⟩,[]⟩,none,0⟩]) w9:=by
  refine VolOwn.app hv _ ?_ ho hgr ?_
  ·exact fx (zB.grown EU hv.top.base (fun q hq=>by cases hq;exact hgb.1)) (Nat.le_trans hv.top.base hgr.size)
  ·intro y hy q hq e;cases e
 have hbl:∀q,au a9 c9 (m ++ [⟨⟨z,1,0,⟨#[]⟩,[]⟩,none,0⟩]) q->q≠w.heap.size/\q≠vb:=by
  intro q hq;have hwz:=hr.lt;have Rv:=hx.lt;rcases hq with hq|⟨y,hy,hq⟩
  ·rw[List.length_append] at hq;rcases hnew with h|⟨k,h,hk⟩
   ·have:(some gI:Option Nat)=some q:=by rw[←hq];exact h.symm
    cases this;exact⟨fun e=>hnw e.symm,fun e=>hnb e.symm⟩
   ·have:k=q:=Option.some.inj (h.symm.trans hq);omega
  ·rcases List.mem_append.1 hy with hy|hy
   ·exact⟨hn q (.inr ⟨y,hy,hq⟩),Ph q (.inr ⟨y,hy,hq⟩)⟩
   ·rw[List.mem_singleton] at hy;subst hy;cases hq
 have hl:(m ++ [(⟨⟨z,1,0,⟨#[]⟩,[]⟩,none,0⟩:InoP)]).length=m.length+1:=by rw[List.length_append];rfl
 refine⟨next,a9,c9,_,zH ⟨by rw[hl];omega,fun y hy=>?_⟩,zH ((hb.far vb 1 _ (by omega) (fun q hq=>(hbl q hq).2)).self),zH (by rw[hl];exact(hx.grown EU (fun e=>hnb (Option.some.inj e).symm)).set 1 _),zH ((hr.grown EU (fun e=>hnw (Option.some.inj e).symm)).far (by omega)),zH (aq (aq hg EU (fun q hq => .inr (by cases hq;exact hgb.1))) (ae _ vb 1 _) (fun q hq => .inr (by cases hq;omega))),zH (fun q hq=>(hbl q hq).1)⟩;rcases List.mem_append.1 hy with hy|hy
 ·exact hs.2 y hy
 ·rw[List.mem_singleton] at hy;subst hy;exact⟨by show (0:Nat)<=1001;omega,by show (0:Nat)<=901;omega,fun e he=>by cases he⟩
theorem AnyR.drew {g vb:Nat}{w wx:World}(h:AnyR g vb w wx):AnyR g vb w wx.drew:=by
 obtain⟨nx,a9,c9,m9,h1,h2,h3,h4,h5,h6⟩:=h;exact⟨nx,a9,c9,m9,h1,zH h2.out.drew.self,zH h3.out.drew,zH h4.out.drew,zH (aS h5.out),h6⟩
theorem l9 {Post:Ending->World->Prop}{a:Act}{wf:World}{R:Nat}{u0:Int}{u1:Value}(hc:Cs wf R [.int .i64 u0,u1])(h2:a.tmps[4]?.getD undef=.pointer (some ⟨R,0,none⟩))(hd:a.defers = [])
  (hp:Post (.returned (.agg #[.int .i64 u0,u1])) wf):bodyPost Tryz.prog Tryz.f37 Post Exit.ret a wf:=by
 obtain⟨⟨r0,r1⟩,-⟩:=hc.two;exact bodyPost_ret (v:=.agg #[.int .i64 u0,u1]) (by simp[results,Tryz.results37,go_sem,h2,r0,r1]) hd hp
theorem qA (a:Option Addr)(n cap:Nat)(bs:List Int)(g:Nat)(s:CS)(most:Int)(w:World)(hC:CurAt a n cap bs g s w)(hm0:1<=most)(hm:most<=900) :
  Calls Tryz.prog 37 #[.pointer (some ⟨g,0,none⟩),.int .i64 most] w (pT g w):=by
 have hgl:=hC.lt;have Fh:=zH (hC.alloc (.cells #[.int .i64 0,.slice none 0 0] 26));have wC:=zH (ar w 26 #[.int .i64 0,.slice none 0 0]);have LH:=zH (World.grownBy_alloc w (.cells #[.int .i64 0,.slice none 0 0] 26) (some g));have hz1:w.heap.size<(w.alloc (.cells #[.int .i64 0,.slice none 0 0] 26)).heap.size:=by simp
 clear hC;go_enter Tryz.func37,Tryz.ntmps37
 go_wp2_with fail
 generalize w.alloc (.cells #[.int .i64 0,.slice none 0 0] 26)=w1 at *;refine(l7 a n cap bs g _ most _ Fh.out hm0 hm).mono ?_;rintro e w2 ⟨next,va,vc,m,s2,rfl,hi,hv,hC2,hG2⟩;obtain⟨vb,hvb⟩:∃vb,vb=w2.heap.size:=⟨_,rfl⟩;have hz2:w.heap.size<w2.heap.size:=Nat.lt_of_lt_of_le hz1 hG2.size;have hpos:=pG hi;have HS:=zH (tC hi);have wJ:Hid (m.length<=16):=zH (bC hi).1;have Jb:Hid (∀y∈m,y.x.data.size<=1000):=zH (fun y hy=>(hi.good y.x (List.mem_map_of_mem hy)).data);have hnx:2<=next/\next<=100000:=⟨hi.lo,hi.hi⟩
 obtain⟨gI,Qz⟩:∃gI,va=some ⟨gI,0,none⟩:=by
  obtain⟨gI,cp,e,_⟩:=hv.top.shape1 (by omega);exact⟨gI,by cases e;rfl⟩
 subst Qz;have Il:Hid (VolOwn w.heap.size (w2.alloc (.cells #[.int .i64 next,.slice (some ⟨gI,0,none⟩) m.length vc] 26)) (some ⟨gI,0,none⟩) vc m (w2.alloc (.cells #[.int .i64 next,.slice (some ⟨gI,0,none⟩) m.length vc] 26))):=zH (cf (hv.alloc _) (by omega) zB (by simp;omega));have HN:Hid (∀q,au (some ⟨gI,0,none⟩) vc m q->q≠w.heap.size):=zH (fun q hq=>by have:=hv.bl q hq;omega);have MU:Hid (∀q,au (some ⟨gI,0,none⟩) vc m q->q≠vb):=zH (fun q hq=>by have:=hv.bl q hq;omega);have N8:=hv.top.blk gI rfl;have HX0:Hid (Cs (w2.alloc (.cells #[.int .i64 next,.slice (some ⟨gI,0,none⟩) m.length vc] 26)) vb [.int .i64 next,.slice (some ⟨gI,0,none⟩) m.length vc]):=zH (by rw[hvb];exact ar w2 26 #[.int .i64 next,.slice (some ⟨gI,0,none⟩) m.length vc]);have HR1:=zH ((wC.out.grown hG2 (by simp;omega)).alloc (.cells #[.int .i64 next,.slice (some ⟨gI,0,none⟩) m.length vc] 26));have yO:=zH (hC2.alloc (.cells #[.int .i64 next,.slice (some ⟨gI,0,none⟩) m.length vc] 26));have Ak:=zH ((LH.out.trans hG2).trans (World.grownBy_alloc w2 (.cells #[.int .i64 next,.slice (some ⟨gI,0,none⟩) m.length vc] 26) (some g)));clear hi hv hC2 hG2 Fh wC LH;go_wp2_with fail
 rw[←hvb];generalize w2.alloc (.cells #[.int .i64 next,.slice (some ⟨gI,0,none⟩) m.length vc] 26)=w3 at *;have hvw:w.heap.size<vb:=by omega
 have Dk:vb≠gI:=by omega
 have hwg:w.heap.size<gI:=by omega
 have hgg:g≠vb/\g≠gI/\g<w.heap.size:=by omega
 clear hvb hz1 hz2 N8;have HX:=zH HX0.out;have HR:=zH HR1.out;have HV:=zH Il.out;have HG:=zH Ak.out;have HC:=zH yO.out;clear HX0 HR1 Il Ak yO;refine(bo a n cap bs g _ 10 _ HC.out (by omega)).mono ?_;rintro e w4 ⟨rfl,hC,hG⟩;have Af:=zH (HX.out.grown hG (by simp;omega));have HR4:=zH (HR.out.grown hG (by simp;omega));have AZ:=zH (HV.out.low hG (fun q hq e=>by have:=(HV.out.bl q hq).1;have:=Option.some.inj e;omega));have zk:=zH (HG.out.trans hG);have xQ:=zH hC;clear hC hG HX HR HV HG HC;have HX:=zH Af.out;have HR:=zH HR4.out;have HV:=zH AZ.out;have HG:=zH zk.out;have HC:=zH xQ.out;clear Af HR4 AZ zk xQ;simp only at HC ⊢;generalize (aj bs 10 s2).2=s4 at *;generalize ((aj bs 10 s2).1==0)=t4 at *;cases t4 with
 | false =>
  obtain⟨⟨v0,v1⟩,-⟩:=HX.out.two;have r0:=HR.out.two;have wX:=zH ((HR.out.set 0 (.int .i64 next)).set 1 (.slice (some ⟨gI,0,none⟩) m.length vc));go_wp2;exact l9 wX.out (by rfl) (by rfl) (pz HS.out HV.out HG.out HN.out)
 | true =>
 obtain⟨⟨v0,v1⟩,fv0,fv1⟩:=HX.out.two;go_wp2_with fail
 refine(aH a n cap bs g _ (m.length:Int) _ HC.out (by have:=wJ.out;omega)).mono ?_;rintro e w5 ⟨rfl,hC,hG⟩;have EB:=aJ bs (m.length:Int) s4 (by omega);clear v0 v1 fv0 fv1;have yS:=zH (HX.out.grown hG (by simp;omega));have Am:=zH (HR.out.grown hG (by simp;omega));have HV5:=zH (HV.out.low hG (fun q hq e=>by have:=(HV.out.bl q hq).1;have:=Option.some.inj e;omega));have AB:=zH (HG.out.trans hG);have Aj:=zH hC;clear hC hG HX HR HV HG HC;have HX:=zH yS.out;have HR:=zH Am.out;have HV:=zH HV5.out;have HG:=zH AB.out;have HC:=zH Aj.out;clear yS Am HV5 AB Aj;simp only at HC ⊢;generalize (aj bs (m.length:Int) s4).2=s5 at *;generalize (aj bs (m.length:Int) s4).1=k5 at *;obtain⟨hk0,hk1⟩:=EB;obtain⟨K,rfl⟩:=Int.eq_ofNat_of_zero_le hk0;have hK:K<m.length:=by omega
 obtain⟨y,hy⟩:∃y,m[K]? = some y:=⟨_,List.getElem?_eq_getElem hK⟩;have HY:=zH hy;have xw:=zH (HS.out.2 y (List.mem_of_getElem? hy));have Rw:=Jb.out y (List.mem_of_getElem? hy);have QA:Hid ((y.x.data++(⟨#[120]⟩:ByteArray)).size<=1001):=zH (by rw[ByteArray.size_append];have h1:(⟨#[120]⟩:ByteArray).size=1:=rfl;omega);clear hy;obtain⟨⟨v0,v1⟩,fv0,fv1⟩:=HX.out.two;go_wp2_with fail
 refine(aH a n cap bs g _ 7 _ HC.out (by omega)).mono ?_;rintro e w6 ⟨rfl,hC,hG⟩;clear v0 v1 fv0 fv1;have wM:=zH (HX.out.grown hG (by simp;omega));have zJ:=zH (HR.out.grown hG (by simp;omega));have Bc:=zH (HV.out.low hG (fun q hq e=>by have:=(HV.out.bl q hq).1;have:=Option.some.inj e;omega));have CG:=zH (HG.out.trans hG);have Bg:=zH hC;clear hC hG HX HR HV HG HC;have HX:=zH wM.out;have HR:=zH zJ.out;have HV:=zH Bc.out;have HG:=zH CG.out;have HC:=zH Bg.out;clear wM zJ Bc CG Bg;simp only at HC ⊢;generalize (aj bs 7 s5).2=s6 at *;generalize (aj bs 7 s5).1=z at *;obtain⟨⟨v0,v1⟩,fv0,fv1⟩:=HX.out.two;go_upto_block 0 with fail
 clear v0 v1 fv0 fv1;go_cut [] from 21 (fun wx=>AnyR g vb w wx)
 case first =>
  by_cases hz:z=0
  ·have hq0:(z==0)=true:=by simp[hz]
   clear hz;obtain⟨⟨v0,v1⟩,fv0,fv1⟩:=HX.out.two;go_wp2_with fail
   generalize hwp:w6.alloc (.cells #[.int .i64 1,.int .i64 2,.int .i64 100000,.int .i64 100001] 3)=wp at *;have hpl:Below w6.heap.size w6 wp:=by rw[←hwp];exact az _ _
   have CL:Rd wp (some ⟨w6.heap.size,0,none⟩) 4 4 1 (aE [1,2,100000,100001]):=by rw[←hwp];exact aM (news:=(aE [1,2,100000,100001]).toArray) rfl (by decide)
   clear hwp v0 v1 fv0 fv1;have hgw:=HG.out.size;have CO:=zH (HC.out.kept hpl);refine(bU a n cap bs g _ _ 4 4 [1,2,100000,100001] _ CO.out CL (fun x hx=>by cases hx;dsimp only;omega) (by omega) (by omega)).mono ?_;rintro e w8 ⟨rfl,hC,hG0⟩;have hG:=(aA (some g) hpl).trans hG0;clear hG0 CL hpl CO;have yM:=zH (HX.out.grown hG (by simp;omega));have yN:=zH (HR.out.grown hG (by simp;omega));have wK:=zH (HV.out.low hG (fun q hq e=>by have:=(HV.out.bl q hq).1;have:=Option.some.inj e;omega));have AJ:=zH (HG.out.trans hG);have BI:=zH hC;clear hC hG HX HR HV HG HC;have HX:=zH yM.out;have HR:=zH yN.out;have HV:=zH wK.out;have HG:=zH AJ.out;have HC:=zH BI.out;clear yM yN wK AJ BI;simp only at HC ⊢;generalize ([1,2,100000,100001]:List Int).getD _ 0=nx at *;obtain⟨⟨v0,v1⟩,fv0,fv1⟩:=HX.out.two;go_wp2_with fail
   go_meet;exact⟨nx,_,vc,m,HS,zH (HV.out.far vb 0 (.int .i64 nx) (by omega) (fun q hq=>MU.out q hq)).self,zH (HX.out.set 0 _),zH (HR.out.far (by omega)),zH (aq HG.out (ae _ vb 0 _) (fun q hq => .inr (by cases hq;omega))),HN⟩
  by_cases hz:z=1
  ·have hq0:(z==0)=false:=by simp[hz]
   have hq1:(z==1)=true:=by simp[hz]
   clear hz;go_upto_region 10 with fail
   have Em:=zH HX.out.drew;have CW:=zH HR.out.drew;have Au:=zH (HV.out.drew).self;have Cu:=zH (aS HG.out);have Ct:=zH HC.out.drew;clear HX HR HV HG HC;have HX:=zH Em.out;have HR:=zH CW.out;have HV:=zH Au.out;have HG:=zH Cu.out;have HC:=zH Ct.out;clear Em CW Au Cu Ct;obtain⟨⟨v0,v1⟩,-⟩:=HX.out.two;refine wp_region_held_drew (S:=(fun W=>W.cell? ⟨vb,1,none⟩=some (.slice (some ⟨gI,0,none⟩) m.length vc))) (by kernel_rfl) ?_ (fun uQ=>?_)
   ·(try dsimp only);exact v1
   change wpAnyH _ _ _ _ _ 8 #[false,false,false,false,false,false,false,false] _ _;clear v0 v1;refine tkI [0,1,2,3] ?_;(iterate 4 (refine tkS rfl (by kernel_rfl) (fun _ _ _=>id) (by rfl) (by intro w h;(try dsimp only at h);go_simp;try rfl) uQ ?_;try simp only[Act.put,tkA,tk0,tk1]));refine tkE ?_;refine wR 4 rfl (by kernel_rfl) (fun K hK=>?_);(try dsimp only at uQ);go_simp;(go_at_call 46;refine(aH a n cap bs g _ 4 _ HC.out (by omega)).mono ?_;rintro e w8 ⟨rfl,hC,hG⟩)
   refine hK.out _ _ ?_ ?_
   ·(try dsimp only);exact ai uQ hG (by simp;omega)
   clear hK K uQ;intro uQ;have yM:=zH (HX.out.grown hG (by simp;omega));have yN:=zH (HR.out.grown hG (by simp;omega));have wK:=zH (HV.out.low hG (fun q hq e=>by have:=(HV.out.bl q hq).1;have:=Option.some.inj e;omega));have AJ:=zH (HG.out.trans hG);have BI:=zH hC;clear hC hG HX HR HV HG HC;have HX:=zH yM.out;have HR:=zH yN.out;have HV:=zH wK.out;have HG:=zH AJ.out;have HC:=zH BI.out;clear yM yN wK AJ BI;refine tkI [5,6] ?_;(iterate 2 (refine tkS rfl (by kernel_rfl) (fun _ _ _=>id) (by rfl) (by intro w h;(try dsimp only at h);go_simp;try rfl) uQ ?_;try simp only[Act.put,tkA,tk0,tk1]));refine tkE ?_;obtain⟨b9,o9,e9,-,d0,d1,d2,d3,d4,-⟩:=aC HV.out.p HY.out;cases e9;simp only[Nat.zero_add] at d0 d1 d2 d3 d4;have hfz:=HV.out.top.free (K*5+1);refine wR 7 rfl (by kernel_rfl) (fun K hK=>?_);(try dsimp only at uQ);go_simp;skip
   refine hK.out _ _ ?_ ?_
   ·(try dsimp only);exact ag uQ Dk
   clear hK K uQ;intro uQ;refine wpAnyH_done (by kernel_rfl) ?_ _;(try dsimp only at uQ);clear uQ d0 d1 d2 d3 d4 hfz;go_wp2_with fail
   go_meet;exact RY HS.out HV.out HX.out HR.out HG.out HN.out Dk HY.out
  by_cases hz:z=2
  ·have hq0:(z==0)=false:=by simp[hz]
   have hq1:(z==1)=false:=by simp[hz]
   have hq2:(z==2)=true:=by simp[hz]
   clear hz;go_upto_region 12 with fail
   have Em:=zH HX.out.drew;have CW:=zH HR.out.drew;have Au:=zH (HV.out.drew).self;have Cu:=zH (aS HG.out);have Ct:=zH HC.out.drew;clear HX HR HV HG HC;have HX:=zH Em.out;have HR:=zH CW.out;have HV:=zH Au.out;have HG:=zH Cu.out;have HC:=zH Ct.out;clear Em CW Au Cu Ct;obtain⟨⟨v0,v1⟩,-⟩:=HX.out.two;refine wp_region_held_drew (S:=(fun W=>W.cell? ⟨vb,1,none⟩=some (.slice (some ⟨gI,0,none⟩) m.length vc))) (by kernel_rfl) ?_ (fun uQ=>?_)
   ·(try dsimp only);exact v1
   change wpAnyH _ _ _ _ _ 16 #[false,false,false,false,false,false,false,false,false,false,false,false,false,false,false,false] _ _;clear v0 v1;refine tkI [0,1,2,3,4,5,6,7,9] ?_;(iterate 9 (refine tkS rfl (by kernel_rfl) (fun _ _ _=>id) (by rfl) (by intro w h;(try dsimp only at h);go_simp;try rfl) uQ ?_;try simp only[Act.put,tkA,tk0,tk1]));refine tkE ?_;refine wpAnyH_ready (rs:=[8,10]) (by kernel_rfl) (by simp) ?_;refine AllReadyH.cons rfl (fun K hK=>?_) (AllReadyH.cons rfl (fun K hK=>?_) AllReadyH.nil)
   ·obtain⟨b9,o9,e9,-,d0,d1,d2,d3,d4,-⟩:=aC HV.out.p HY.out;cases e9;simp only[Nat.zero_add] at d0 d1 d2 d3 d4;(try dsimp only at uQ);go_simp;refine hK.out _ _ (by exact uQ) (fun uS=>?_);clear hK K uQ;have uQ:=uS;clear uS d0 d1 d2 d3 d4;refine wR 10 rfl (by kernel_rfl) (fun K hK=>?_);(try dsimp only at uQ);go_simp;(go_at_call 46;refine(aH a n cap bs g _ 3 _ HC.out (by omega)).mono ?_;rintro e w8 ⟨rfl,hC,hG⟩)
    refine hK.out _ _ ?_ ?_
    ·(try dsimp only);exact ai uQ hG (by simp;omega)
    clear hK K uQ;intro uQ;have yM:=zH (HX.out.grown hG (by simp;omega));have yN:=zH (HR.out.grown hG (by simp;omega));have wK:=zH (HV.out.low hG (fun q hq e=>by have:=(HV.out.bl q hq).1;have:=Option.some.inj e;omega));have AJ:=zH (HG.out.trans hG);have BI:=zH hC;clear hC hG HX HR HV HG HC;have HX:=zH yM.out;have HR:=zH yN.out;have HV:=zH wK.out;have HG:=zH AJ.out;have HC:=zH BI.out;clear yM yN wK AJ BI;refine tkI [11,12,13,14] ?_;(iterate 4 (refine tkS rfl (by kernel_rfl) (fun _ _ _=>id) (by rfl) (by intro w h;(try dsimp only at h);go_simp;try rfl) uQ ?_;try simp only[Act.put,tkA,tk0,tk1]));refine tkE ?_;obtain⟨b9,o9,e9,-,d0,d1,d2,d3,d4,-⟩:=aC HV.out.p HY.out;cases e9;simp only[Nat.zero_add] at d0 d1 d2 d3 d4;have hfz:=HV.out.top.free (K*5+2);refine wR 15 rfl (by kernel_rfl) (fun K hK=>?_);(try dsimp only at uQ);go_simp;skip
    refine hK.out _ _ ?_ ?_
    ·(try dsimp only);exact ag uQ Dk
    clear hK K uQ;intro uQ;refine wpAnyH_done (by kernel_rfl) ?_ _;(try dsimp only at uQ);clear uQ d0 d1 d2 d3 d4 hfz;go_wp2_with fail
    go_meet;exact RU HS.out HV.out HX.out HR.out HG.out HN.out Dk HY.out
   ·(try dsimp only at uQ);go_simp;(go_at_call 46;refine(aH a n cap bs g _ 3 _ HC.out (by omega)).mono ?_;rintro e w8 ⟨rfl,hC,hG⟩)
    refine hK.out _ _ ?_ (fun uS=>?_)
    ·exact ai uQ hG (by simp;omega)
    clear hK K uQ;have uQ:=uS;clear uS;have yM:=zH (HX.out.grown hG (by simp;omega));have yN:=zH (HR.out.grown hG (by simp;omega));have wK:=zH (HV.out.low hG (fun q hq e=>by have:=(HV.out.bl q hq).1;have:=Option.some.inj e;omega));have AJ:=zH (HG.out.trans hG);have BI:=zH hC;clear hC hG HX HR HV HG HC;have HX:=zH yM.out;have HR:=zH yN.out;have HV:=zH wK.out;have HG:=zH AJ.out;have HC:=zH BI.out;clear yM yN wK AJ BI;obtain⟨b9,o9,e9,-,d0,d1,d2,d3,d4,-⟩:=aC HV.out.p HY.out;cases e9;simp only[Nat.zero_add] at d0 d1 d2 d3 d4;refine wR 8 rfl (by kernel_rfl) (fun K hK=>?_);(try dsimp only at uQ);go_simp;skip
    refine hK.out _ _ ?_ ?_
    ·(try dsimp only);exact uQ
    clear hK K uQ;intro uQ;clear d0 d1 d2 d3 d4;refine tkI [11,12,13,14] ?_;(iterate 4 (refine tkS rfl (by kernel_rfl) (fun _ _ _=>id) (by rfl) (by intro w h;(try dsimp only at h);go_simp;try rfl) uQ ?_;try simp only[Act.put,tkA,tk0,tk1]));refine tkE ?_;obtain⟨b9,o9,e9,-,d0,d1,d2,d3,d4,-⟩:=aC HV.out.p HY.out;cases e9;simp only[Nat.zero_add] at d0 d1 d2 d3 d4;have hfz:=HV.out.top.free (K*5+2);refine wR 15 rfl (by kernel_rfl) (fun K hK=>?_);(try dsimp only at uQ);go_simp;skip
    refine hK.out _ _ ?_ ?_
    ·(try dsimp only);exact ag uQ Dk
    clear hK K uQ;intro uQ;refine wpAnyH_done (by kernel_rfl) ?_ _;(try dsimp only at uQ);clear uQ d0 d1 d2 d3 d4 hfz;go_wp2_with fail
    go_meet;exact RU HS.out HV.out HX.out HR.out HG.out HN.out Dk HY.out
  by_cases hz:z=3
  ·have hq0:(z==0)=false:=by simp[hz]
   have hq1:(z==1)=false:=by simp[hz]
   have hq2:(z==2)=false:=by simp[hz]
   have hq3:(z==3)=true:=by simp[hz]
   clear hz;have Ba:=zH QA.out;obtain⟨⟨v0,v1⟩,-⟩:=HX.out.two;obtain⟨b9,o9,e9,-,d0,d1,d2,d3,d4,-⟩:=aC HV.out.p HY.out;cases e9;simp only[Nat.zero_add] at d0 d1 d2 d3 d4;have hfz:=HV.out.top.free (K*5+3);go_wp2;go_region;clear v0 v1 d0 d1 d2 d3 d4 hfz;have hA:AnyR g vb w (w6.setCell ⟨gI,K*5+3,none⟩ (.string (y.x.data++⟨#[120]⟩))):=by
    exact RV HS.out HV.out HX.out HR.out HG.out HN.out Dk HY.out (by exact Ba.out)
   go_wp2_with fail
   go_meet;exact hA.drew
  by_cases hz:z=4
  ·have hq0:(z==0)=false:=by simp[hz]
   have hq1:(z==1)=false:=by simp[hz]
   have hq2:(z==2)=false:=by simp[hz]
   have hq3:(z==3)=false:=by simp[hz]
   have hq4:(z==4)=true:=by simp[hz]
   clear hz;go_upto_region 16 with fail
   have Em:=zH HX.out.drew;have CW:=zH HR.out.drew;have Au:=zH (HV.out.drew).self;have Cu:=zH (aS HG.out);have Ct:=zH HC.out.drew;clear HX HR HV HG HC;have HX:=zH Em.out;have HR:=zH CW.out;have HV:=zH Au.out;have HG:=zH Cu.out;have HC:=zH Ct.out;clear Em CW Au Cu Ct;obtain⟨⟨v0,v1⟩,-⟩:=HX.out.two;refine wp_region_held_drew (S:=(fun W=>W.cell? ⟨vb,1,none⟩=some (.slice (some ⟨gI,0,none⟩) m.length vc))) (by kernel_rfl) ?_ (fun uQ=>?_)
   ·(try dsimp only);exact v1
   change wpAnyH _ _ _ _ _ 8 #[false,false,false,false,false,false,false,false] _ _;clear v0 v1;refine tkI [0,1,2,3] ?_;(iterate 4 (refine tkS rfl (by kernel_rfl) (fun _ _ _=>id) (by rfl) (by intro w h;(try dsimp only at h);go_simp;try rfl) uQ ?_;try simp only[Act.put,tkA,tk0,tk1]));refine tkE ?_;refine wR 4 rfl (by kernel_rfl) (fun K hK=>?_);(try dsimp only at uQ);go_simp;(go_at_call 66;refine(qO a n cap bs g _ 4 _ HC.out (by omega) (by omega)).mono ?_;rintro e w8 ⟨es,s8,pe,ce,rfl,hel,hes,MV,hC,hG⟩)
   refine hK.out _ _ ?_ ?_
   ·(try dsimp only);exact ai uQ hG (by simp;omega)
   clear hK K uQ;intro uQ;have QB:Hid (Own 74 4 w.heap.size w8 (.slice pe es.length ce) es.length (ens es) w8):=zH ⟨d7 MV (by have:=HG.out.size;simpa using this),zB,by have h1:=HG.out.size;have h2:=hG.size;simp at h1 h2 ⊢;omega⟩;have QC:Hid (cM m K (.slice pe es.length ce)):=zH (bu HV.out K (fun q hq=>(MV.lt q hq).1));have xS:Hid (∀q,(Value.slice pe es.length ce).ownBlock=some q->q≠w.heap.size/\q≠gI):=zH (fun q hq=>by have h1:=(MV.lt q hq).1;have h2:=(HV.out.top.blk gI rfl).2;simp at h1 h2;omega);have zm:=zH (And.intro hel hes);clear hel hes MV;have yM:=zH (HX.out.grown hG (by simp;omega));have yN:=zH (HR.out.grown hG (by simp;omega));have wK:=zH (HV.out.low hG (fun q hq e=>by have:=(HV.out.bl q hq).1;have:=Option.some.inj e;omega));have AJ:=zH (HG.out.trans hG);have BI:=zH hC;clear hC hG HX HR HV HG HC;have HX:=zH yM.out;have HR:=zH yN.out;have HV:=zH wK.out;have HG:=zH AJ.out;have HC:=zH BI.out;clear yM yN wK AJ BI;refine tkI [5,6] ?_;(iterate 2 (refine tkS rfl (by kernel_rfl) (fun _ _ _=>id) (by rfl) (by intro w h;(try dsimp only at h);go_simp;try rfl) uQ ?_;try simp only[Act.put,tkA,tk0,tk1]));refine tkE ?_;obtain⟨b9,o9,e9,-,d0,d1,d2,d3,d4,-⟩:=aC HV.out.p HY.out;cases e9;simp only[Nat.zero_add] at d0 d1 d2 d3 d4;have hfz:=HV.out.top.free (K*5+4);refine wR 7 rfl (by kernel_rfl) (fun K hK=>?_);(try dsimp only at uQ);go_simp;skip
   refine hK.out _ _ ?_ ?_
   ·(try dsimp only);exact ag uQ Dk
   clear hK K uQ;intro uQ;refine wpAnyH_done (by kernel_rfl) ?_ _;(try dsimp only at uQ);clear uQ d0 d1 d2 d3 d4 hfz;go_wp2_with fail
   go_meet;exact sf HS.out HV.out HX.out HR.out HG.out HN.out Dk HY.out xw.out.1 QB.out QC.out (fun q hq=>xS.out q hq) zm.out.1 zm.out.2
  by_cases hz:z=5
  ·have hq0:(z==0)=false:=by simp[hz]
   have hq1:(z==1)=false:=by simp[hz]
   have hq2:(z==2)=false:=by simp[hz]
   have hq3:(z==3)=false:=by simp[hz]
   have hq4:(z==4)=false:=by simp[hz]
   have Gu:(z==5)=true:=by simp[hz]
   clear hz;have QD:=zH (fun V a9 c9 z h1 h2 h3=>tO (w9:=V) (a9:=a9) (c9:=c9) (z:=z) HS.out wJ.out HV.out HX.out HR.out HG.out HN.out MU.out hvw h1 h2 h3);have HT:=zH HV.out.top;have LU:=zH (fun V (hg:w6.grownBy V (Value.slice (some ⟨gI,0,none⟩) m.length vc).ownBlock)=>HX.out.grown hg (fun e=>Dk (Option.some.inj e).symm));have yg:=wJ.out;obtain⟨⟨v0,v1⟩,fv0,fv1⟩:=HX.out.two;clear HX HR HG HC;go_wp2_with (at_builtin;go_loud (refine d6 rfl _ _ 24 rfl 45 (.agg #[.int .i64 0,.int .i64 0,.int .i64 0,.string ByteArray.empty,.slice none 0 0]) 5 64 Tryz.underlying24 fa rfl (by decide) _ _ _ _ _ (by rfl) (by exact HT.out) _ _ _ (by rfl) (by first|rfl|simp) (by rfl) (by intro u hu;simp at hu;rcases hu with rfl|rfl|rfl|rfl|rfl <;> rfl) (by omega) (by unfold maxLen;omega) ?_);intro a9 c9 w9 vQ vZ wO;have HQ:=zH (QD.out _ _ _ _ vQ vZ wO);obtain⟨⟨q0,q1⟩,g0,g1⟩:=(LU.out _ vZ).two;clear vZ wO vQ v0 v1 fv0 fv1)
   go_meet;exact HQ.out
  have hq0:(z==0)=false:=by simp;omega
  have hq1:(z==1)=false:=by simp;omega
  have hq2:(z==2)=false:=by simp;omega
  have hq3:(z==3)=false:=by simp;omega
  have hq4:(z==4)=false:=by simp;omega
  have Gu:(z==5)=false:=by simp;omega
  go_upto_region 6 with fail
  have Em:=zH HX.out.drew;have CW:=zH HR.out.drew;have Au:=zH (HV.out.drew).self;have Cu:=zH (aS HG.out);have Ct:=zH HC.out.drew;clear HX HR HV HG HC;have HX:=zH Em.out;have HR:=zH CW.out;have HV:=zH Au.out;have HG:=zH Cu.out;have HC:=zH Ct.out;clear Em CW Au Cu Ct;obtain⟨⟨v0,v1⟩,-⟩:=HX.out.two;refine wp_region_held_drew (S:=(fun W=>W.cell? ⟨vb,1,none⟩=some (.slice (some ⟨gI,0,none⟩) m.length vc))) (by kernel_rfl) ?_ (fun uQ=>?_)
  ·(try dsimp only);exact v1
  change wpAnyH _ _ _ _ _ 8 #[false,false,false,false,false,false,false,false] _ _;clear v0 v1;refine tkI [0,1,2,3] ?_;(iterate 4 (refine tkS rfl (by kernel_rfl) (fun _ _ _=>id) (by rfl) (by intro w h;(try dsimp only at h);go_simp;try rfl) uQ ?_;try simp only[Act.put,tkA,tk0,tk1]));refine tkE ?_;refine wR 4 rfl (by kernel_rfl) (fun K hK=>?_);(try dsimp only at uQ);go_simp;(go_at_call 46;refine(aH a n cap bs g _ 4 _ HC.out (by omega)).mono ?_;rintro e w8 ⟨rfl,hC,hG⟩)
  refine hK.out _ _ ?_ ?_
  ·(try dsimp only);exact ai uQ hG (by simp;omega)
  clear hK K uQ;intro uQ;have yM:=zH (HX.out.grown hG (by simp;omega));have yN:=zH (HR.out.grown hG (by simp;omega));have wK:=zH (HV.out.low hG (fun q hq e=>by have:=(HV.out.bl q hq).1;have:=Option.some.inj e;omega));have AJ:=zH (HG.out.trans hG);have BI:=zH hC;clear hC hG HX HR HV HG HC;have HX:=zH yM.out;have HR:=zH yN.out;have HV:=zH wK.out;have HG:=zH AJ.out;have HC:=zH BI.out;clear yM yN wK AJ BI;refine tkI [5,6] ?_;(iterate 2 (refine tkS rfl (by kernel_rfl) (fun _ _ _=>id) (by rfl) (by intro w h;(try dsimp only at h);go_simp;try rfl) uQ ?_;try simp only[Act.put,tkA,tk0,tk1]));refine tkE ?_;obtain⟨b9,o9,e9,-,d0,d1,d2,d3,d4,-⟩:=aC HV.out.p HY.out;cases e9;simp only[Nat.zero_add] at d0 d1 d2 d3 d4;have hfz:=HV.out.top.free (K*5);refine wR 7 rfl (by kernel_rfl) (fun K hK=>?_);(try dsimp only at uQ);go_simp;skip
  refine hK.out _ _ ?_ ?_
  ·(try dsimp only);exact ag uQ Dk
  clear hK K uQ;intro uQ;refine wpAnyH_done (by kernel_rfl) ?_ _;(try dsimp only at uQ);clear uQ d0 d1 d2 d3 d4 hfz;go_wp2_with fail
  go_meet;exact RX HS.out HV.out HX.out HR.out HG.out HN.out Dk HY.out
 case rest =>
 obtain⟨nx,a9,c9,m9,MW,wZ,BP,Cv,IP,Fg⟩:=hcut;obtain⟨⟨v0,v1⟩,-⟩:=BP.out.two;have r0:=Cv.out.two;have wX:=zH ((Cv.out.set 0 (.int .i64 nx)).set 1 (.slice a9 m9.length c9));clear HX HR HV HG HC;go_wp2;exact l9 wX.out (by rfl) (by rfl) (pz MW.out wZ.out IP.out Fg.out)
end Go.Proofs.YtlkfabkkjfmnmaaGreatDoor
