import Derived.Test.YtlkfabkkjfmnmaaGreatDoorZao
import Derived.Test.YtlkfabkkjfmnmaaGreatDoorZbn
import Derived.Test.YtlkfabkkjfmnmaaGreatDoorZbp
import Derived.Test.YtlkfabkkjfmnmaaGreatDoorZbq
import Derived.Test.YtlkfabkkjfmnmaaGreatDoorZbr
namespace Go.Proofs.YtlkfabkkjfmnmaaGreatDoor
open Go.RowKit
set_option linter.all false
set_option maxRecDepth 1000000
set_option maxHeartbeats 6000000
theorem mP (o:ByteArray)(e:EntL)(h:e.name.size<=24):(cU o e).size<=o.size+60:=by
 unfold cU;have h1:=aP e.index;have h2:=aP e.id;have h3:=c7 e.name;simp only[ByteArray.size_append,gQ];omega
theorem mV (x:InoL)(h:x.data.size<=1001):(d9 x).size<=1100:=by
 unfold d9;have h1:=aP x.id;have h2:=aP x.kind;have h4:=aP x.links;have h5:=aP (x.ents.length:Int);have h3:=c7 x.data;have h0:(⟨#[105]⟩:ByteArray).size=1:=rfl;simp only[ByteArray.size_append,gQ,h0];omega
theorem rP (x:InoL)(hd:x.data.size<=1001)(hs:∀s∈x.ents,s.name.size<=24)(hn:x.ents.length<=12):(inB x).size<=8000:=by
 have h0:=mV x hd;have h:∀k,k<=x.ents.length->((x.ents.take k).foldl cU (d9 x)).size<=1100+k*60:=by
  intro k;induction k with
  | zero=>intro _;simpa using h0
  | succ k ih =>
   intro hk;have hk':k<x.ents.length:=by omega
   rw[fU x.ents _ k hk'];have h1:=mP ((x.ents.take k).foldl cU (d9 x)) x.ents[k] (hs _ (List.getElem_mem hk'));have:=ih (by omega);omega
 have:=h x.ents.length zN;rw[List.take_length] at this;unfold inB;omega
theorem n9 (next:Int)(l:List InoL)(hl:∀x∈l,x.data.size<=1001/\x.ents.length<=12/\∀s∈x.ents,s.name.size<=24):∀s∈bI next l,s.size<=8000:=by
 intro s hs;unfold bI at hs;rcases List.mem_cons.1 hs with rfl|hs
 ·unfold uB;have h1:=aP next
  have h2:=aP (l.length:Int);have h0:(⟨#[117]⟩:ByteArray).size=1:=rfl;simp only[ByteArray.size_append,gQ,h0];omega
 ·obtain⟨k,-,rfl⟩:=List.mem_map.1 hs;by_cases hk:k<l.length
  ·rw[gv l k hk];have:=hl l[k] (List.getElem_mem hk);exact rP _ this.1 this.2.2 this.2.1
  ·rw[jh l k (by omega)];show (0:Nat)<=8000;omega
theorem nt {l:List ByteArray}{n:Nat}(h:∀s∈l,s.size<=n)(k:Nat)(x:ByteArray)(hx:x.size<=n):∀s∈l.set k x,s.size<=n:=fun s hs=>by
 rcases List.mem_or_eq_of_mem_set hs with hs|rfl
 ·exact h s hs
 ·exact hx
theorem Rd.first {w:World}{b off n c:Nat}{l:List ByteArray}(h:Rd w (some ⟨b,off,none⟩) n c 1 (cR l))(k:Nat)(hk:k<=n):Rd w (some ⟨b,off,none⟩) k c 1 (cR (l.take k)):=by
 have hl:l.length=n:=by have:=h.len;simpa using this
 refine⟨by simp;omega,by have:=h.le;omega,h.max,fun e=>(by cases e),fun h0=>?_⟩;obtain⟨b',off',e,hlt,hc⟩:=h.at' (by omega);cases e;refine⟨b,off,rfl,hlt,fun j hj=>?_⟩;have hj2:j<(l.take k).length:=by simpa using hj
 have MX:j<l.length:=by rw[List.length_take] at hj2;omega
 rw[hc j (by simpa using MX),cE l j MX,cE (l.take k) j hj2,List.getElem_take]
def un (w:World)(e:Ending)(w':World):Prop:=
 ∃(next:Int) (va:Option Addr) (vc:Nat) (m:List InoP),e=.returned (.agg #[.int .i64 next,.slice va m.length vc])/\SmP m/\VolRd w' va m.length vc (xs m)/\Below w.heap.size w w'
theorem oG {Post:Ending->World->Prop}{a:Act}{wf:World}{R:Nat}{u0:Int}{u1:Value}(hc:Cs wf R [.int .i64 u0,u1])(h2:a.tmps[2]?.getD undef=.pointer (some ⟨R,0,none⟩))(hd:a.defers = [])
  (hp:Post (.returned (.agg #[.int .i64 u0,u1])) wf):bodyPost Tryz.prog Tryz.f15 Post Exit.ret a wf:=by
 obtain⟨⟨r0,r1⟩,-⟩:=hc.two;exact bodyPost_ret (v:=.agg #[.int .i64 u0,u1]) (by simp[results,Tryz.results15,go_sem,h2,r0,r1]) hd hp
theorem iB (a:Option Addr)(n cap:Nat)(bs:List Int)(w:World)(h:Rd w a n cap 1 (bs.map (Value.int .u8)))(hb:∀z∈bs,0<=z/\z<=255)(hn:n<=1048576) :
  Calls Tryz.prog 15 #[.slice a n cap] w (un w):=by
 have HH:=zH (h.alloc (.cells #[.int .i64 0,.slice none 0 0] 26));have HB0:=zH hb;have wC:=zH (ar w 26 #[.int .i64 0,.slice none 0 0]);have wy:=zH (az w (.cells #[.int .i64 0,.slice none 0 0] 26));have hz1:w.heap.size<(w.alloc (.cells #[.int .i64 0,.slice none 0 0] 26)).heap.size:=by simp
 clear h hb;go_enter Tryz.func15,Tryz.ntmps15
 go_wp2_with fail
 generalize w.alloc (.cells #[.int .i64 0,.slice none 0 0] 26)=w1 at *;refine(lJ a n cap bs _ HH.out HB0.out hn).mono ?_;rintro e w2 ⟨rfl,hC,hB⟩;have yO:=zH hC;have HB1:=zH (wy.out.trans (hB.mono wy.out.size));have HR1:=zH (wC.out.below hB);have hg1:=hC.lt;clear hC hB HH HB0 wC wy;go_wp2_with fail
 refine(kB a n cap 40 _ (by omega) (by omega) hn).mono ?_;rintro e w' ⟨x,rfl,hx0,hx1,rfl⟩;go_wp2_with fail
 refine(qA a n cap bs _ _ x _ yO.out hx0 (by omega)).mono ?_;rintro e w3 ⟨next,va,vc,m,rfl,hs,hv,hG⟩;have HB3:Hid (Below w.heap.size w w3):=zH (HB1.out.grown hG HB1.out.size (fun q hq=>by cases hq;omega));have HR3:=zH (HR1.out.grown hG (by simp;omega));have HS:=zH hs;have hzz:w.heap.size<w2.heap.size:=by omega
 have Fs:=zH (hv.res2l w.heap.size (fun q hq=>by have:=(hv.bl q hq).1;omega) (.int .i64 next) (.slice va m.length vc));have wX:=zH ((HR3.out.set 0 (.int .i64 next)).set 1 (.slice va m.length vc));have vI:=zH (fG HB3.out w.heap.size zN (.int .i64 next) (.slice va m.length vc));have r0:=HR3.out.two;clear hs hv hG HB3 HR1 yO HB1 HR3;go_wp2;exact oG wX.out (by rfl) (by rfl) ⟨next,va,vc,m,rfl,HS.out,Fs.out.rd,vI.out⟩
def uu (w:World)(e:Ending)(w':World):Prop:=
 ∃(t:List ByteArray) (pa:Option Addr) (ca:Nat),e=.returned (.slice pa t.length ca)/\t.length<=17/\(∀s∈t,s.size<=9000)/\Rd w' pa t.length ca 1 (cR t)/\Below w.heap.size w w'
theorem eP (a:Option Addr)(n cap:Nat)(bs:List Int)(w:World)(h:Rd w a n cap 1 (bs.map (Value.int .u8)))(hb:∀z∈bs,0<=z/\z<=255)(hn:n<=1048576) :
  Calls Tryz.prog 19 #[.slice a n cap] w (uu w):=by
 go_enter Tryz.func19,Tryz.ntmps19
 go_wp2_with fail
 refine(lJ a n cap bs _ h hb hn).mono ?_;rintro e w1 ⟨rfl,hC,hB⟩;have yO:=zH hC;have HB1:=zH hB;clear hC hB h hb;go_wp2_with fail
 refine(kB a n cap 40 _ (by omega) (by omega) hn).mono ?_;rintro e w' ⟨x,rfl,hx0,hx1,rfl⟩;go_wp2_with fail
 refine(l7 a n cap bs _ _ x _ yO.out hx0 (by omega)).mono ?_;rintro e w2 ⟨next,va,vc,m,s2,rfl,hi,hv,hC,hG⟩;have hwl:=yO.out.lt;have wI:=zH hC;have HB2:Hid (Below w.heap.size w w2):=zH (HB1.out.grown hG HB1.out.size (fun q hq=>by cases hq;exact zN));have zA:Hid (∀W,VolRd W va m.length vc (xs m)->Calls Tryz.prog 43 #[.agg #[.int .i64 next,.slice va m.length vc]] W fun e w' => ∃(a':Option Addr) (c':Nat),e=.returned (.slice a' 17 c')/\Own 9 1 W.heap.size W (.slice a' 17 c') 17 (cR (bI next (xs m))) w'):=zH (fun W hr=>gu next va m.length vc (xs m) W hr (fun y hy=>by have:=(hi.good y hy).data;omega) (fun y hy e he=>((hi.good y hy).ents e he).small) (fun y hy=>by have:=(hi.good y hy).len;omega));have zn:=zH hv.p.rd;have CV:Hid ((bI next (xs m)).length=17):=zH (cY next (xs m));have Hl:Hid (∀s∈bI next (xs m),s.size<=8000):=zH (n9 next (xs m) (fun y hy=>⟨by have:=(hi.good y hy).data;omega,(hi.good y hy).len,fun e he=>((hi.good y hy).ents e he).tiny⟩));clear hv hC hG hi yO HB1;go_wp2_with fail
 refine(zA.out _ zn.out).mono ?_;rintro e w3 ⟨pa,ca,rfl,hO⟩;have xm:=zH (wI.out.kept hO.below);have HB3:=zH (HB2.out.trans (hO.below.mono HB2.out.size));obtain⟨ga,cga,hga,Oc⟩:=hO.shape1 (by omega);simp only[Value.slice.injEq] at hga;obtain⟨rfl,-,rfl⟩:=hga;have QE:=(hO.blk ga rfl).1;have hw2:=wI.out.lt;have yj:=zH hO.self;have Gj:=HB2.out.size;clear hO wI HB2 zn zA Oc;generalize bI next (xs m)=l0 at *
 go_wp2_with fail
 refine(bo a n cap bs _ _ 3 _ xm.out (by omega)).mono ?_;rintro e w4 ⟨rfl,hC,hG⟩;have xQ:=zH hC;have vX:Hid (Below w.heap.size w w4):=zH (HB3.out.grown hG HB3.out.size (fun q hq=>by cases hq;exact zN));have BF:=zH (yj.out.otherLow hG (fun q hq e=>by cases hq;have:=Option.some.inj e;dsimp only at this;omega));clear hC hG xm HB3 yj;simp only at xQ ⊢;generalize (aj bs 3 s2).2=s4 at *;generalize ((aj bs 3 s2).1==0)=t4 at *;cases t4 with
 | true =>
  go_wp2_with fail
  refine(aH a n cap bs _ _ 17 _ xQ.out (by omega)).mono ?_;rintro e w5 ⟨rfl,hC,hG⟩;have QF:=aJ bs 17 s4 (by omega);have Aj:=zH hC;have vg:Hid (Below w.heap.size w w5):=zH (vX.out.grown hG vX.out.size (fun q hq=>by cases hq;exact zN));have xY:=zH (BF.out.otherLow hG (fun q hq e=>by cases hq;have:=Option.some.inj e;dsimp only at this;omega));clear hC hG xQ vX BF;simp only at Aj ⊢;generalize (aj bs 17 s4).2=s5 at *;generalize (aj bs 17 s4).1=k5 at *;obtain⟨hj0,hj1⟩:=QF;obtain⟨J,rfl⟩:=Int.eq_ofNat_of_zero_le hj0;have hJ:J<l0.length:=by have:=CV.out;omega
  have hji:(J:Int)<17:=by omega
  have QG:(0:Int)<=(J:Int):=by omega
  have hu:w5.cell? ⟨ga,J,none⟩=some (.string l0[J]):=by
   have h1:=xY.out.cell J (by simp[CV.out];omega);rw[cE l0 J hJ] at h1;exact h1
  have htz:=Hl.out l0[J] (List.getElem_mem hJ);clear hj0;generalize l0[J]=tx0 at *;go_wp2_with fail
  refine(mZ a n cap bs _ _ tx0 _ Aj.out (by omega)).mono ?_;rintro e w6 ⟨rfl,hC,hG⟩;have hts:=nO bs tx0 s5;have Bg:=zH hC;have wu:Hid (Below w.heap.size w w6):=zH (vg.out.grown hG vg.out.size (fun q hq=>by cases hq;exact zN));have yA:=zH (xY.out.otherLow hG (fun q hq e=>by cases hq;have:=Option.some.inj e;dsimp only at this;omega));clear hC hG Aj vg xY hu;simp only at Bg ⊢;generalize (fS bs tx0 s5).1=tx at *;generalize (fS bs tx0 s5).2=s6 at *;obtain⟨u,hu⟩:∃u,w6.cell? ⟨ga,J,none⟩=some u:=⟨_,yA.out.cell J (by simp[CV.out];omega)⟩;have hf:=yA.out.free J;have HST:Hid ((cR l0).set J (.string tx)=cR (l0.set J tx)):=zH (by rw[jV,jV,List.map_set]);have BS:=zH ((yA.out.set J (.string tx)).self);have LZ:=zH (Bg.out.grown (ae w6 ga J (.string tx)) (fun q hq=>by cases hq;omega));have zh:Hid (Below w.heap.size w (w6.setCell ⟨ga,J,none⟩ (.string tx))):=zH (wu.out.setCell (p:=⟨ga,J,none⟩) (by dsimp only;omega) (.string tx));clear yA Bg wu;rw[HST.out] at BS;have En:Hid ((l0.set J tx).length=17):=zH (by rw[List.length_set];exact CV.out);have Bz:Hid (∀s∈l0.set J tx,s.size<=9000):=zH (nt (fun s hs=>by have:=Hl.out s hs;omega) J tx (by omega));clear CV Hl HST hJ;generalize l0.set J tx=l1 at *;go_wp2_with fail
  refine(bo a n cap bs _ _ 15 _ LZ.out (by omega)).mono ?_;rintro e w9 ⟨rfl,hC,hG⟩;have vD:Hid (Below w.heap.size w w9):=zH (zh.out.grown hG zh.out.size (fun q hq=>by cases hq;exact zN));have Cv:=zH ((BS.out.otherLow hG (fun q hq e=>by cases hq;have:=Option.some.inj e;dsimp only at this;omega)).rd);have hcg:=BS.out.rd.le;have hcm:=BS.out.rd.max;unfold maxLen at hcm;clear hC hG BS LZ zh;simp only;generalize ((aj bs 15 _).1==0)=t9 at *;cases t9 with
  | true =>
   have h5:(5:Int)<=(ca:Int):=by omega
   go_wp2;go_ret;exact⟨l1.take 5,some ⟨ga,0,none⟩,ca,by rw[List.length_take,En.out];rfl,by rw[List.length_take];omega,fun s hs=>Bz.out s (List.mem_of_mem_take hs),by rw[List.length_take,En.out];exact Cv.out.first 5 (by omega),vD.out⟩
  | false =>
   go_wp2;go_ret;exact⟨l1,some ⟨ga,0,none⟩,ca,by rw[En.out];rfl,by rw[En.out];omega,Bz.out,by rw[En.out];exact Cv.out,vD.out⟩
 | false =>
  have En:=zH CV.out;have Bz:Hid (∀s∈l0,s.size<=9000):=zH (fun s hs=>by have:=Hl.out s hs;omega);have LZ:=zH xQ.out;have zh:=zH vX.out;have BS:=zH BF.out;clear xQ vX BF CV Hl;generalize l0=l1 at *;go_wp2_with fail
  refine(bo a n cap bs _ _ 15 _ LZ.out (by omega)).mono ?_;rintro e w9 ⟨rfl,hC,hG⟩;have vD:Hid (Below w.heap.size w w9):=zH (zh.out.grown hG zh.out.size (fun q hq=>by cases hq;exact zN));have Cv:=zH ((BS.out.otherLow hG (fun q hq e=>by cases hq;have:=Option.some.inj e;dsimp only at this;omega)).rd);have hcg:=BS.out.rd.le;have hcm:=BS.out.rd.max;unfold maxLen at hcm;clear hC hG BS LZ zh;simp only;generalize ((aj bs 15 _).1==0)=t9 at *;cases t9 with
  | true =>
   have h5:(5:Int)<=(ca:Int):=by omega
   go_wp2;go_ret;exact⟨l1.take 5,some ⟨ga,0,none⟩,ca,by rw[List.length_take,En.out];rfl,by rw[List.length_take];omega,fun s hs=>Bz.out s (List.mem_of_mem_take hs),by rw[List.length_take,En.out];exact Cv.out.first 5 (by omega),vD.out⟩
  | false =>
   go_wp2;go_ret;exact⟨l1,some ⟨ga,0,none⟩,ca,by rw[En.out];rfl,by rw[En.out];omega,Bz.out,by rw[En.out];exact Cv.out,vD.out⟩
noncomputable def df (next:Int)(l:List InoL):List ByteArray:=if bQ next l=true then bI next l else []
def fj (next:Int)(l:List InoL)(w:World)(e:Ending)(w':World):Prop := ∃(a':Option Addr) (c':Nat),e=.returned (.slice a' (df next l).length c')/\Own 9 1 w.heap.size w (.slice a' (df next l).length c') (df next l).length (cR (df next l)) w'
theorem oh {next:Int}{l:List InoL}(h:bQ next l=true):∀x∈l,x.ents.length<=1000:=by
 intro x hx;obtain⟨k,hk,rfl⟩:=List.mem_iff_getElem.1 hx;unfold bQ at h;simp only[Bool.and_eq_true] at h;have hi:=kP hk (iP next l _ h.2.1 k hk);unfold bJ at hi;split at hi
 ·simp only[Bool.and_eq_true,decide_eq_true_eq] at hi;omega
 ·simp only[Bool.and_eq_true] at hi;have yR:=hi.2.2.2.1;unfold du at yR;simp only[Bool.and_eq_true,decide_eq_true_eq] at yR;omega
theorem dZ (next:Int)(a:Option Addr)(n cap:Nat)(l:List InoL)(w:World)(hr:VolRd w a n cap l)(hd:∀x∈l,x.data.size<=1073741824)(hs:∀x∈l,∀s∈x.ents,s.name.size<=1073741824)(ht:(gW l:Int)<=4611686018427387904)(hT:KTab w) :
  Calls Tryz.prog 16 #[.agg #[.int .i64 next,.slice a n cap]] w (fj next l w):=by
 have hl:l.length=n:=hr.len;subst hl;have Ba:=zH (And.intro hd hs);have uY:=zH (az w (.cells #[.int .i64 next,.slice a l.length cap] 26));have H:=zH (hr.step uY.out);obtain⟨c0,c1⟩:=gZ w 26 (.int .i64 next) (.slice a l.length cap);have HT:=zH hT;clear hT;clear hr hd hs;go_enter Tryz.func16,Tryz.ntmps16
 go_upto_region 1 with fail
 have hz1:w.heap.size<(w.alloc (.cells #[.int .i64 next,.slice a l.length cap] 26)).heap.size:=by simp
 generalize w.alloc (.cells #[.int .i64 next,.slice a l.length cap] 26)=w1 at *;go_wp2_with fail
 refine(g7 next a _ cap l _ H.out Ba.out.2 ht (HT.out.below uY.out zN)).mono ?_;rintro e w2 ⟨rfl,hb⟩;have HB2:=zH hb;replace c0:=af c0 hb;replace c1:=af c1 hb;have hz2:w.heap.size<w2.heap.size:=World.block_lt_of_cell? w2 _ c0;clear hb;cases hv:bQ next l with
 | false =>
  have HE:Hid (df next l = []):=zH (by unfold df;rw[hv];rfl);have HL:=zH (Own.lit (e:=9) (size:=1) (n:=0) (ac uY.out HB2.out) (Nat.le_of_lt hz2) #[] rfl (by decide));clear hv;go_wp2;go_ret;unfold fj;rw[HE.out];exact⟨_,_,rfl,by exact HL.out⟩
 | true =>
  have HE:Hid (df next l=bI next l):=zH (by unfold df;rw[hv];rfl);have wY:=zH (oh hv);clear hv;go_wp2_with fail
  refine(gB next a _ cap l _ (H.out.step HB2.out) Ba.out.1 Ba.out.2 wY.out).mono ?_;rintro e w3 ⟨a',c',rfl,hO⟩;have HO:=zH (bk hO (Nat.le_of_lt hz2) (ac uY.out HB2.out) (Nat.le_of_lt hz2));clear hO c0 c1;go_wp2;go_ret;unfold fj;rw[HE.out,cY];exact⟨a',c',rfl,HO.out⟩
theorem iN (next:Int)(a:Option Addr)(n cap:Nat)(l:List InoL)(w:World)(hr:VolRd w a n cap l)(hd:∀x∈l,x.data.size<=1073741824)(hs:∀x∈l,∀s∈x.ents,s.name.size<=1073741824)(ht:(gW l:Int)<=4611686018427387904) :
  Calls Tryz.prog 24 #[.agg #[.int .i64 next,.slice a n cap]] w (fj next l w):=by
 have hl:l.length=n:=hr.len;subst hl;have Ba:=zH (And.intro hd hs);have uY:=zH (az w (.cells #[.int .i64 next,.slice a l.length cap] 26));have H:=zH (hr.step uY.out);obtain⟨c0,c1⟩:=gZ w 26 (.int .i64 next) (.slice a l.length cap);clear hr hd hs;go_enter Tryz.func24,Tryz.ntmps24
 go_upto_region 1 with fail
 have hz1:w.heap.size<(w.alloc (.cells #[.int .i64 next,.slice a l.length cap] 26)).heap.size:=by simp
 generalize w.alloc (.cells #[.int .i64 next,.slice a l.length cap] 26)=w1 at *;go_wp2_with fail
 refine(ic next a _ cap l _ H.out Ba.out.2 ht).mono ?_;rintro e w2 ⟨rfl,hb⟩;have HB2:=zH hb;replace c0:=af c0 hb;replace c1:=af c1 hb;have hz2:w.heap.size<w2.heap.size:=World.block_lt_of_cell? w2 _ c0;clear hb;cases hv:bQ next l with
 | false =>
  have HE:Hid (df next l = []):=zH (by unfold df;rw[hv];rfl);have HL:=zH (Own.lit (e:=9) (size:=1) (n:=0) (ac uY.out HB2.out) (Nat.le_of_lt hz2) #[] rfl (by decide));clear hv;go_wp2;go_ret;unfold fj;rw[HE.out];exact⟨_,_,rfl,by exact HL.out⟩
 | true =>
  have HE:Hid (df next l=bI next l):=zH (by unfold df;rw[hv];rfl);have wY:=zH (oh hv);clear hv;go_wp2_with fail
  refine(gu next a _ cap l _ (H.out.step HB2.out) Ba.out.1 Ba.out.2 wY.out).mono ?_;rintro e w3 ⟨a',c',rfl,hO⟩;have HO:=zH (bk hO (Nat.le_of_lt hz2) (ac uY.out HB2.out) (Nat.le_of_lt hz2));clear hO c0 c1;go_wp2;go_ret;unfold fj;rw[HE.out,cY];exact⟨a',c',rfl,HO.out⟩
def dC (l:List UInt8):ByteArray:=⟨l.toArray⟩
def bw (o:Option (List UInt8)):Nat->List EntL × Option (List UInt8)
 | 0=>([],o)
 | k+1=>((bw o k).1 ++ [⟨a7 (dC (bZ (bO (bw o k).2).2).1),(bO (bw o k).2).1,dC (bZ (bO (bw o k).2).2).1,(bO (bZ (bO (bw o k).2).2).2).1⟩],(bO (bZ (bO (bw o k).2).2).2).2)
theorem kF (o:Option (List UInt8))(k:Nat):(bw o k).1.length=k:=by
 induction k with
 | zero=>rfl
 | succ k ih=>simp[bw,ih]
def rdI (s:List UInt8):=bO (eZ 1 (some s)).2
def rdK (s:List UInt8):=bO (rdI s).2
def rdL (s:List UInt8):=bO (rdK s).2
def rdD (s:List UInt8):=bZ (rdL s).2
def rdN (s:List UInt8):=dW 12 (rdD s).2
def rdE (s:List UInt8):=bw (rdN s).2 (rdN s).1.toNat
def fi (s:List UInt8):InoL × Bool:=(⟨(rdI s).1,(rdK s).1,(rdL s).1,dC (rdD s).1,(rdE s).1⟩,(rdE s).2.isSome)
def cQ (e:EntL):List UInt8:=an e.index++(bp e.name++an e.id)
def inL (x:InoL):List UInt8:=[105]++(an x.id++(an x.kind++(an x.links++(bp x.data++(an (x.ents.length:Int)++x.ents.flatMap cQ)))))
theorem mL (a b:ByteArray):(a++b).data.toList=a.data.toList++b.data.toList:=by simp[ByteArray.data_append]
theorem mj (es:List EntL):∀o:ByteArray,(es.foldl cU o).data.toList=o.data.toList++es.flatMap cQ:=by
 induction es with
 | nil=>intro o;simp
 | cons e es ih =>
  intro o;rw[List.foldl_cons,ih,List.flatMap_cons];have:(cU o e).data.toList=o.data.toList++cQ e:=by
   unfold cU cQ cg;simp only[mL,List.append_assoc]
  rw[this,List.append_assoc]
theorem nD (x:InoL):(inB x).data.toList=inL x:=by
 unfold inB inL;rw[mj];unfold d9 cg;simp only[mL,List.append_assoc]
def rL (e:EntL):Prop:=(0<=e.index/\e.index<=562949953421311)/\(e.name.size<=562949953421311)/\(0<=e.id/\e.id<=562949953421311)/\a7 e.name=e.hash
def uE (x:InoL):Prop:=(0<=x.id/\x.id<=562949953421311)/\(0<=x.kind/\x.kind<=562949953421311)/\(0<=x.links/\x.links<=562949953421311)/\x.data.size<=562949953421311/\x.ents.length<=12/\∀e∈x.ents,rL e
theorem eF (n:Int)(h:0<=n/\n<=562949953421311)(r:List UInt8):bO (some (an n++r))=(n,some r):=by
 obtain⟨k,rfl⟩:=Int.eq_ofNat_of_zero_le h.1;exact m8 k (by omega) r
theorem gF (s:ByteArray):dC s.data.toList=s:=gE s
theorem oE (r:List UInt8):∀(l:List EntL),(∀e∈l,rL e)->∀k,k<=l.length->bw (some (l.flatMap cQ++r)) k=(l.take k,some ((l.drop k).flatMap cQ++r)):=by
 intro l hl k;induction k with
 | zero=>intro _;simp[bw]
 | succ k ih =>
  intro hk;have hk':k<l.length:=by omega
  obtain⟨h1,h2,h3,h4⟩:=hl l[k] (List.getElem_mem hk');have e1:(l.drop k).flatMap cQ++r=an l[k].index++(bp l[k].name++(an l[k].id++((l.drop (k+1)).flatMap cQ++r))):=by
   rw[List.drop_eq_getElem_cons hk',List.flatMap_cons,cQ];simp only[List.append_assoc]
  have hn:=eF l[k].index h1 (bp l[k].name++(an l[k].id++((l.drop (k+1)).flatMap cQ++r)));have hp:=iM l[k].name h2 (an l[k].id++((l.drop (k+1)).flatMap cQ++r));have hd:=eF l[k].id h3 ((l.drop (k+1)).flatMap cQ++r);rw[bw,ih (by omega),e1];simp only[hn,hp,hd,gF,h4];rw[List.take_succ_eq_append_getElem hk']
theorem nA (c:UInt8)(r:List UInt8):eZ 1 (some ([c]++r))=([c],some r):=by
 unfold eZ;simp only;rw[if_pos ⟨by omega,by rw[List.length_append,List.length_singleton];omega⟩];rfl
theorem td (x:InoL)(h:uE x):fi (inL x)=(x,true):=by
 obtain⟨h1,h2,h3,h4,h5,h6⟩:=h;have e1:rdI (inL x)=(x.id,some (an x.kind++(an x.links++(bp x.data++(an (x.ents.length:Int)++x.ents.flatMap cQ))))):=by
  unfold rdI inL;rw[nA];exact eF x.id h1 _
 have e2:rdK (inL x)=(x.kind,some (an x.links++(bp x.data++(an (x.ents.length:Int)++x.ents.flatMap cQ)))):=by
  unfold rdK;rw[e1];exact eF x.kind h2 _
 have e3:rdL (inL x)=(x.links,some (bp x.data++(an (x.ents.length:Int)++x.ents.flatMap cQ))):=by
  unfold rdL;rw[e2];exact eF x.links h3 _
 have e4:rdD (inL x)=(x.data.data.toList,some (an (x.ents.length:Int)++x.ents.flatMap cQ)):=by
  unfold rdD;rw[e3];exact iM x.data h4 _
 have e5:rdN (inL x)=((x.ents.length:Int),some (x.ents.flatMap cQ)):=by
  unfold rdN dW;rw[e4];simp only;rw[eF (x.ents.length:Int) ⟨by omega,by omega⟩ _];simp only;rw[if_neg (by omega)]
 have e6:rdE (inL x)=(x.ents,some []):=by
  unfold rdE;rw[e5];simp only[Int.toNat_natCast];have:=oE [] x.ents h6 x.ents.length zN;simp only[List.append_nil,List.take_length,List.drop_length,List.flatMap_nil] at this;exact this
 unfold fi;rw[e1,e2,e3,e4,e6];simp only[gF];rfl
def dc (t:List ByteArray):Nat->Option (List InoL)
 | 0=>some []
 | k+1=>match dc t k with
  | none=>none
  | some l=>if (fi (t.getD (k+1) ByteArray.empty).data.toList).2=true then some (l ++ [(fi (t.getD (k+1) ByteArray.empty).data.toList).1]) else none
def rdX (t:List ByteArray):=bO (eZ 1 (some (t.getD 0 ByteArray.empty).data.toList)).2
def rdM (t:List ByteArray):=dW 16 (rdX t).2
def fw (t:List ByteArray):Option (Int × List InoL):=
 if t.length=17 then match dc t (rdM t).1.toNat with
  | none=>none
  | some l=>if (rdM t).2=none then none else some ((rdX t).1,l)
 else none
noncomputable def aN (t:List ByteArray):Int × List InoL × Bool:=match fw t with
 | none=>(0,[],false)
 | some p=>if bQ p.1 p.2=true/\bI p.1 p.2=t then (p.1,p.2,true) else (0,[],false)
theorem gl {l:List InoL}(hl:l.length<=16)(he:∀x∈l,x.ents.length<=12):gW l<=192:=by
 have:∀(m:List InoL),(∀x∈m,x.ents.length<=12)->gW m<=m.length*12:=by
  intro m;induction m with
  | nil=>intro _;simp[gW]
  | cons x m ih =>
   intro h;have h1:=h x (List.mem_cons_self ..);have h2:=ih (fun y hy=>h y (List.mem_cons_of_mem _ hy));unfold gW at *;rw[List.map_cons,List.sum_cons,List.length_cons];omega
 have:=this l he;omega
theorem tQ {es:List EntL}(h:du es=true):es.length<=12:=by
 unfold du at h;simp only[Bool.and_eq_true,decide_eq_true_eq] at h;exact h.1
theorem sp {es:List EntL}(h:du es=true):∀e∈es,e.row=true:=by
 intro e he;obtain⟨i,hi,rfl⟩:=List.mem_iff_getElem.1 he;unfold du at h;simp only[Bool.and_eq_true] at h;have:=lM (mW es _ h.2 i hi);rwa [iT es i hi] at this
theorem uf {e:EntL}(h:e.row=true):rL e/\e.name.size<=24:=by
 unfold EntL.row at h;simp only[Bool.and_eq_true,decide_eq_true_eq] at h;have:=aL e.name h.1.1.1;exact⟨⟨⟨by omega,by omega⟩,by omega,⟨by omega,by omega⟩,h.1.1.2⟩,this⟩
theorem fc {next:Int}{l:List InoL}(h:bQ next l=true):(2<=next/\next<=100000)/\(1<=l.length/\l.length<=16)/\(∀k (hk:k<l.length),(1<=l[k].id/\l[k].id<=next - 1)/\bJ l l[k]=true):=by
 unfold bQ at h;simp only[Bool.and_eq_true] at h;obtain⟨h1,h2,-⟩:=h;unfold fe at h1;simp only[Bool.and_eq_true,decide_eq_true_eq] at h1;refine⟨h1.1,h1.2.1,fun k hk=>?_⟩;have hr:=iP next l _ h2 k hk
 have hi:=kP hk hr;rw[fK next l k hk] at hr;simp only[Bool.and_eq_true,decide_eq_true_eq] at hr;exact⟨hr.1,hi⟩
theorem gK {l:List InoL}{x:InoL}(h:bJ l x=true):(x.kind=1∨x.kind=2)/\x.ents.length<=12/\x.data.size<=20/\(∀e∈x.ents,e.row=true)/\(x.links=(aD l x.id:Int)∨x.links=1):=by
 unfold bJ at h;split at h
 ·rename_i hk
  simp only[Bool.and_eq_true,decide_eq_true_eq] at h;have he:x.ents = []:=List.eq_nil_of_length_eq_zero h.1;refine⟨.inl hk,by omega,h.2.1,fun e hx=>?_,.inl h.2.2⟩;rw[he] at hx;cases hx
 ·simp only[Bool.and_eq_true,decide_eq_true_eq] at h;exact⟨.inr h.1,tQ h.2.2.2.1,by omega,sp h.2.2.2.1,.inr h.2.2.1⟩
theorem tc {next:Int}{l:List InoL}(h:bQ next l=true):∀x∈l,uE x:=by
 obtain⟨h1,h2,h3⟩:=fc h;have hall:∀x∈l,x.ents.length<=12:=by
  intro x hx;obtain⟨k,hk,rfl⟩:=List.mem_iff_getElem.1 hx;exact(gK (h3 k hk).2).2.1
 intro x hx;obtain⟨k,hk,rfl⟩:=List.mem_iff_getElem.1 hx;obtain⟨hid,hi⟩:=h3 k hk;obtain⟨hkd,hne,Rz,hrow,hln⟩:=gK hi;have hls:=gl h2.2 hall;have hlt:=ij l l[k].id;refine⟨⟨by omega,by omega⟩,⟨by omega,by omega⟩,⟨by omega,by omega⟩,by omega,hne,fun e he=>(uf (hrow e he)).1⟩
theorem oT {next:Int}{l:List InoL}(h:bQ next l=true):fw (bI next l)=some (next,l):=by
 obtain⟨h1,h2,h3⟩:=fc h;have hR:=tc h;have e0:((bI next l).getD 0 ByteArray.empty).data.toList = [117]++(an next++(an (l.length:Int) ++ [])):=by
  show (uB next l).data.toList=_;unfold uB;simp only[mL,List.append_assoc,List.append_nil]
 have ex:rdX (bI next l)=(next,some (an (l.length:Int) ++ [])):=by
  unfold rdX;rw[e0,nA];exact eF next ⟨by omega,by omega⟩ _
 have em:rdM (bI next l)=((l.length:Int),some []):=by
  unfold rdM dW;rw[ex];simp only;rw[eF (l.length:Int) ⟨by omega,by omega⟩ []];simp only;rw[if_neg (by omega)]
 have ei:∀k,k<=l.length->dc (bI next l) k=some (l.take k):=by
  intro k;induction k with
  | zero=>intro _;simp[dc]
  | succ k ih =>
   intro hk;have hk':k<l.length:=by omega
   have eb:((bI next l).getD (k+1) ByteArray.empty).data.toList=inL l[k]:=by
    have:(bI next l).getD (k+1) ByteArray.empty=jF l k:=by
     rw[List.getD_eq_getElem?_getD,List.getElem?_eq_getElem (by rw[cY];omega)];simp[bI]
    rw[this,gv l k hk',nD]
   rw[dc,ih (by omega)];simp only;rw[eb,td _ (hR _ (List.getElem_mem hk'))];simp only[if_true];rw[List.take_succ_eq_append_getElem hk']
 unfold fw;rw[if_pos (cY next l),em];simp only[Int.toNat_natCast];rw[ei l.length zN,List.take_length,ex];rfl
theorem eg (t:List ByteArray)(next:Int)(l:List InoL):aN t=(next,l,true) ↔ bQ next l=true/\bI next l=t:=by
 constructor
 ·intro h;unfold aN at h;split at h
  ·simp at h
  ·rename_i p hp
   split at h
   ·rename_i c
    simp only[Prod.mk.injEq,and_true] at h;obtain⟨rfl,rfl⟩:=h;exact c
   ·simp at h
 ·rintro ⟨h1,rfl⟩;unfold aN;rw[oT h1];show (if bQ next l=true/\bI next l=bI next l then (next,l,true) else (0,[],false))=_;rw[if_pos ⟨h1,rfl⟩]
theorem iC (t:List ByteArray)(h:(aN t).2.2=false):aN t=(0,[],false):=by
 unfold aN at h ⊢;split
 ·rfl
 ·rename_i p hp
  rw[hp] at h;simp only at h;split at h
  ·simp at h
  ·rename_i c
   rw[if_neg c]
theorem ji {t:List ByteArray}{next:Int}{l:List InoL}(h1:bQ next l=true)(h2:bI next l=t):aN t=(next,l,true):=(eg t next l).2 ⟨h1,h2⟩
theorem ik {t:List ByteArray}(h:fw t=none):aN t=(0,[],false):=by unfold aN;rw[h]
theorem kv {t:List ByteArray}{next:Int}{l:List InoL}(hp:fw t=some (next,l))(h:¬(bQ next l=true/\bI next l=t)):aN t=(0,[],false):=by
 unfold aN;rw[hp];simp only;rw[if_neg h]
theorem lr (s:List UInt8)(p:Int)(h:p<0):bP s p=([],-1):=by
 unfold bP;rw[fE s 0 p [] (.inl h),if_pos (.inl (by decide))]
theorem m7 (s:List UInt8)(p:Int)(h : -1<=p) : -1<=(bP s p).2/\(bP s p).2<=(s.length:Int):=by
 have h1:=eL s 0 p [] h;unfold bP;split
 ·dsimp only;omega
 ·rename_i hc
  obtain⟨x,hx,hx0,hx1⟩:=gf s p (by omega);rw[hx] at hc ⊢;simp only[List.getD_cons_zero] at hc ⊢;omega
theorem jg (s:List UInt8)(p:Int):(bP s p).1.length<=s.length:=by
 unfold bP;split
 ·simp
 ·simp only[List.length_take,List.length_drop];omega
theorem q4 (s:List UInt8)(p:Int):0<=(ax s 2 p []).2->∃x y,(ax s 2 p []).1 = [x,y]/\(0<=x/\x<=562949953421311)/\(0<=y/\y<=562949953421311):=by
 intro h;have h1:=(jf s 2 p []).1 h;have h2:=jm s 2 p [] (fun x hx=>by simp at hx);match hl:(ax s 2 p []).1,h1,h2 with
 | [x,y],_,h2=>exact⟨x,y,rfl,h2 x (by simp),h2 y (by simp)⟩
theorem m6 (s:List UInt8)(p:Int):0<=(ax s 3 p []).2->∃x y z,(ax s 3 p []).1 = [x,y,z]/\(0<=x/\x<=562949953421311)/\(0<=y/\y<=562949953421311)/\(0<=z/\z<=562949953421311):=by
 intro h;have h1:=(jf s 3 p []).1 h;have h2:=jm s 3 p [] (fun x hx=>by simp at hx);match hl:(ax s 3 p []).1,h1,h2 with
 | [x,y,z],_,h2=>exact⟨x,y,z,rfl,h2 x (by simp),h2 y (by simp),h2 z (by simp)⟩
def sx (s:List UInt8)(es:List EntL)(p:Int):Option (List EntL × Int):=
 if (ax s 1 (bP s (ax s 1 p []).2).2 []).2<0 then none
 else some (es ++ [⟨a7 (dC (bP s (ax s 1 p []).2).1),(ax s 1 p []).1.getD 0 0,dC (bP s (ax s 1 p []).2).1,(ax s 1 (bP s (ax s 1 p []).2).2 []).1.getD 0 0⟩],(ax s 1 (bP s (ax s 1 p []).2).2 []).2)
def dK (s:List UInt8)(p:Int):Nat->Option (List EntL × Int)
 | 0=>some ([],p)
 | k+1=>match dK s p k with
  | none=>none
  | some r=>sx s r.1 r.2
def Bi (s:List UInt8):=ax s 3 1 []
def tkG (s:List UInt8):=bP s (Bi s).2
def cnG (s:List UInt8):=ax s 1 (tkG s).2 []
def fM (s:List UInt8):InoL × Bool:=
 if (cnG s).2<0∨12<(cnG s).1.getD 0 0 then (gy,false)
 else match dK s (cnG s).2 ((cnG s).1.getD 0 0).toNat with
  | none=>(gy,false)
  | some r=>(⟨(Bi s).1.getD 0 0,(Bi s).1.getD 1 0,(Bi s).1.getD 2 0,dC (tkG s).1,r.1⟩,decide (r.2=(s.length:Int)))
theorem eN (pre r:List UInt8)(q:Int)(hq:0<=q/\q<=562949953421311)(m:Nat)(out:List Int) :
  ax (pre++(an q++r)) (m+1) (pre.length:Int) out=ax (pre++an q++r) m ((pre++an q).length:Int) (out ++ [q]):=by
 obtain⟨k,rfl⟩:=Int.eq_ofNat_of_zero_le hq.1;exact lA pre r k (by omega) m out
theorem iA (pre r:List UInt8)(q:Int)(hq:0<=q/\q<=562949953421311):ax (pre++(an q++r)) 1 (pre.length:Int) []=([q],((pre++an q).length:Int)):=by
 rw[eN pre r q hq 0 []];rfl
theorem tb (pre r:List UInt8)(e:EntL)(he:rL e)(es:List EntL):sx (pre++(cQ e++r)) es (pre.length:Int)=some (es ++ [e],((pre++cQ e).length:Int)):=by
 obtain⟨h1,h2,h3,h4⟩:=he;have e1:pre++(cQ e++r)=pre++(an e.index++(bp e.name++(an e.id++r))):=by unfold cQ;simp only[List.append_assoc]
 have e2:pre++(an e.index++(bp e.name++(an e.id++r)))=(pre++an e.index)++(bp e.name++(an e.id++r)):=by simp only[List.append_assoc]
 have e3:pre++(an e.index++(bp e.name++(an e.id++r)))=(pre++an e.index++bp e.name)++(an e.id++r):=by simp only[List.append_assoc]
 have f1:ax (pre++(cQ e++r)) 1 (pre.length:Int) []=([e.index],((pre++an e.index).length:Int)):=by rw[e1];exact iA pre _ e.index h1
 have f2:bP (pre++(cQ e++r)) ((pre++an e.index).length:Int)=(e.name.data.toList,((pre++an e.index++bp e.name).length:Int)):=by rw[e1,e2];exact ma (pre++an e.index) _ e.name h2
 have f3:ax (pre++(cQ e++r)) 1 ((pre++an e.index++bp e.name).length:Int) []=([e.id],((pre++an e.index++bp e.name++an e.id).length:Int)):=by rw[e1,e3];exact iA (pre++an e.index++bp e.name) _ e.id h3
 unfold sx;rw[f1];simp only;rw[f2];simp only;rw[f3];simp only;rw[if_neg (by omega)];simp only[List.getD_cons_zero,gF,h4];unfold cQ;simp only[List.append_assoc]
theorem qx (pre:List UInt8)(l:List EntL)(hl:∀e∈l,rL e):∀k,k<=l.length->dK (pre++l.flatMap cQ) (pre.length:Int) k=some (l.take k,((pre++(l.take k).flatMap cQ).length:Int)):=by
 intro k;induction k with
 | zero=>intro _;simp[dK]
 | succ k ih =>
  intro hk;have hk':k<l.length:=by omega
  have e1:pre++l.flatMap cQ=(pre++(l.take k).flatMap cQ)++(cQ l[k]++(l.drop (k+1)).flatMap cQ):=by
   have:l.flatMap cQ=(l.take k).flatMap cQ++(cQ l[k]++(l.drop (k+1)).flatMap cQ):=by
    conv=>lhs;rw[←List.take_append_drop k l,List.drop_eq_getElem_cons hk']
    rw[List.flatMap_append,List.flatMap_cons]
   rw[this,List.append_assoc]
  rw[dK,ih (by omega)];simp only;rw[e1,tb _ _ _ (hl _ (List.getElem_mem hk')),List.take_succ_eq_append_getElem hk',List.flatMap_append];simp
theorem tL (x:InoL)(h:uE x):fM (inL x)=(x,true):=by
 obtain⟨h1,h2,h3,h4,h5,h6⟩:=h;have e0:inL x = [105]++(an x.id++(an x.kind++(an x.links++(bp x.data++(an (x.ents.length:Int)++x.ents.flatMap cQ))))):=rfl;have eh:Bi (inL x)=([x.id,x.kind,x.links],(([105]++an x.id++an x.kind++an x.links).length:Int)):=by
  unfold Bi;rw[e0];have:=eN [105] (an x.kind++(an x.links++(bp x.data++(an (x.ents.length:Int)++x.ents.flatMap cQ)))) x.id h1 2 [];rw[show (([105]:List UInt8).length:Int)=1 from rfl] at this;rw[this,eN ([105]++an x.id) _ x.kind h2 1,eN ([105]++an x.id++an x.kind) _ x.links h3 0];rfl
 have et:tkG (inL x)=(x.data.data.toList,(([105]++an x.id++an x.kind++an x.links++bp x.data).length:Int)):=by
  unfold tkG;rw[eh];simp only;have e:inL x=([105]++an x.id++an x.kind++an x.links)++(bp x.data++(an (x.ents.length:Int)++x.ents.flatMap cQ)):=by rw[e0];simp only[List.append_assoc]
  rw[e];exact ma _ _ x.data h4
 have ec:cnG (inL x)=([(x.ents.length:Int)],(([105]++an x.id++an x.kind++an x.links++bp x.data++an (x.ents.length:Int)).length:Int)):=by
  unfold cnG;rw[et];simp only;have e:inL x=([105]++an x.id++an x.kind++an x.links++bp x.data)++(an (x.ents.length:Int)++x.ents.flatMap cQ):=by rw[e0];simp only[List.append_assoc]
  rw[e];exact iA _ _ (x.ents.length:Int) ⟨by omega,by omega⟩
 have ee:dK (inL x) (([105]++an x.id++an x.kind++an x.links++bp x.data++an (x.ents.length:Int)).length:Int) x.ents.length=some (x.ents,((inL x).length:Int)):=by
  have e:inL x=([105]++an x.id++an x.kind++an x.links++bp x.data++an (x.ents.length:Int))++x.ents.flatMap cQ:=by rw[e0];simp only[List.append_assoc]
  rw[e,qx _ x.ents h6 x.ents.length zN,List.take_length]
 unfold fM;rw[ec];simp only[List.getD_cons_zero,Int.toNat_natCast];rw[if_neg (by omega),ee,eh,et];simp[gF]
def dS (t:List ByteArray):Nat->Option (List InoL)
 | 0=>some []
 | k+1=>match dS t k with
  | none=>none
  | some l=>if (fM (t.getD (k+1) ByteArray.empty).data.toList).2=true then some (l ++ [(fM (t.getD (k+1) ByteArray.empty).data.toList).1]) else none
def hG (t:List ByteArray):=ax (t.getD 0 ByteArray.empty).data.toList 2 1 []
def gs (t:List ByteArray):Option (Int × List InoL):=
 if t.length=17 then if (hG t).2<0∨16<(hG t).1.getD 1 0 then none else match dS t ((hG t).1.getD 1 0).toNat with
  | none=>none
  | some l=>some ((hG t).1.getD 0 0,l)
 else none
theorem kJ {next:Int}{l:List InoL}(h:bQ next l=true):gs (bI next l)=some (next,l):=by
 obtain⟨h1,h2,h3⟩:=fc h;have hR:=tc h;have e0:((bI next l).getD 0 ByteArray.empty).data.toList = [117]++(an next++(an (l.length:Int) ++ [])):=by
  show (uB next l).data.toList=_;unfold uB;simp only[mL,List.append_assoc,List.append_nil]
 have ex:hG (bI next l)=([next,(l.length:Int)],(([117]++an next++an (l.length:Int)).length:Int)):=by
  unfold hG;rw[e0];have:=eN [117] (an (l.length:Int) ++ []) next ⟨by omega,by omega⟩ 1 []
  rw[show (([117]:List UInt8).length:Int)=1 from rfl] at this;rw[this,eN ([117]++an next) _ (l.length:Int) ⟨by omega,by omega⟩ 0];rfl
 have ei:∀k,k<=l.length->dS (bI next l) k=some (l.take k):=by
  intro k;induction k with
  | zero=>intro _;simp[dS]
  | succ k ih =>
   intro hk;have hk':k<l.length:=by omega
   have eb:((bI next l).getD (k+1) ByteArray.empty).data.toList=inL l[k]:=by
    have:(bI next l).getD (k+1) ByteArray.empty=jF l k:=by
     rw[List.getD_eq_getElem?_getD,List.getElem?_eq_getElem (by rw[cY];omega)];simp[bI]
    rw[this,gv l k hk',nD]
   rw[dS,ih (by omega)];simp only;rw[eb,tL _ (hR _ (List.getElem_mem hk'))];simp only[if_true];rw[List.take_succ_eq_append_getElem hk']
 unfold gs;rw[if_pos (cY next l),ex];simp only[List.getD_cons_zero,List.getD_cons_succ,Int.toNat_natCast];rw[if_neg (by omega),ei l.length zN,List.take_length]
theorem fO {t:List ByteArray}(h:gs t=none):aN t=(0,[],false):=by
 apply iC;cases e:(aN t).2.2 with
 | false=>rfl
 | true =>
  obtain⟨h1,h2⟩:=(eg t (aN t).1 (aN t).2.1).1 (by rw[←e]);rw[←h2,kJ h1] at h;cases h
theorem po {t:List ByteArray}{next:Int}{l:List InoL}(hp:gs t=some (next,l))(h:¬(bQ next l=true/\bI next l=t)):aN t=(0,[],false):=by
 apply iC;cases e:(aN t).2.2 with
 | false=>rfl
 | true =>
  obtain⟨h1,h2⟩:=(eg t (aN t).1 (aN t).2.1).1 (by rw[←e]);have h3:=hp;rw[←h2,kJ h1] at h3;simp only[Option.some.injEq,Prod.mk.injEq] at h3;rw[h3.1,h3.2] at h1 h2;exact absurd ⟨h1,h2⟩ h
theorem n6 {s:List UInt8}{p:Int}{k:Nat}{r:List EntL × Int}(h:dK s p k=some r):r.1.length=k/\∀e∈r.1,e.name.size<=s.length:=by
 induction k generalizing r with
 | zero=>rw[dK] at h;cases h;simp
 | succ k ih =>
  rw[dK] at h;split at h
  ·cases h
  ·rename_i r0 hr0
   obtain⟨h1,h2⟩:=ih hr0;unfold sx at h;split at h
   ·cases h
   ·cases h;refine⟨by rw[List.length_append,h1];rfl,fun e he=>?_⟩;rcases List.mem_append.1 he with he|he
    ·exact h2 e he
    ·rw[List.mem_singleton] at he;subst he;show (dC _).size<=_;unfold dC;exact Nat.le_trans (Nat.le_of_eq List.size_toArray) (jg s _)
theorem oO (s:List UInt8):(∀e∈(fM s).1.ents,e.name.size<=s.length)/\(fM s).1.ents.length<=12:=by
 unfold fM;split
 ·simp[gy]
 ·rename_i hc
  split
  ·simp[gy]
  ·rename_i r hr
   obtain⟨h1,h2⟩:=n6 hr;exact⟨h2,by show r.1.length<=12;omega⟩
theorem iH {t:List ByteArray}{k:Nat}{l:List InoL}(hs:∀s∈t,s.size<=1048576)(h:dS t k=some l):l.length=k/\(∀x∈l,x.ents.length<=12)/\(∀x∈l,∀e∈x.ents,e.name.size<=1048576):=by
 induction k generalizing l with
 | zero=>rw[dS] at h;cases h;simp
 | succ k ih =>
  rw[dS] at h;split at h
  ·cases h
  ·rename_i l0 hl0
   obtain⟨h1,h2,h3⟩:=ih hl0;split at h
   ·cases h;have hsz:(t.getD (k+1) ByteArray.empty).size<=1048576:=by
     rw[List.getD_eq_getElem?_getD];cases hq:t[k+1]? with
     | none=>decide
     | some s=>exact hs s (List.mem_of_getElem? hq)
    have hr:=oO (t.getD (k+1) ByteArray.empty).data.toList;rw[eC] at hr;refine⟨by rw[List.length_append,h1];rfl,fun x hx=>?_,fun x hx=>?_⟩
    ·rcases List.mem_append.1 hx with hx|hx
     ·exact h2 x hx
     ·rw[List.mem_singleton] at hx;subst hx;exact hr.2
    ·rcases List.mem_append.1 hx with hx|hx
     ·exact h3 x hx
     ·rw[List.mem_singleton] at hx;subst hx;exact fun e he=>Nat.le_trans (hr.1 e he) hsz
   ·cases h
theorem qY {t:List ByteArray}{k:Nat}(h:dS t k=none):∀n,k<=n->dS t n=none:=by
 intro n hn;induction n with
 | zero=>have:k=0:=(by omega);subst this;exact h
 | succ n ih =>
  by_cases e:k=n+1
  ·subst e;exact h
  ·rw[dS,ih (by omega)]
theorem ow {t:List ByteArray}{k:Nat}{l:List InoL}(h:dS t k=some l):dS t (k+1)=if (fM (t.getD (k+1) ByteArray.empty).data.toList).2=true then some (l ++ [(fM (t.getD (k+1) ByteArray.empty).data.toList).1]) else none:=by rw[dS,h]
theorem q6 {s:List UInt8}{p:Int}{k:Nat}(h:dK s p k=none):∀n,k<=n->dK s p n=none:=by
 intro n hn;induction n with
 | zero=>have:k=0:=(by omega);subst this;exact h
 | succ n ih =>
  by_cases e:k=n+1
  ·subst e;exact h
  ·rw[dK,ih (by omega)]
theorem oy {s:List UInt8}{p:Int}{k:Nat}{es:List EntL}{q:Int}(h:dK s p k=some (es,q)):dK s p (k+1)=sx s es q:=by rw[dK,h]
end Go.Proofs.YtlkfabkkjfmnmaaGreatDoor
