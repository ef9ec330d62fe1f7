import Derived.Test.YtlkfabkkjfmnmaaGreatDoorZaa
namespace Go.Proofs.YtlkfabkkjfmnmaaGreatDoor
open Go.RowKit
set_option linter.all false
set_option maxRecDepth 1000000
set_option maxHeartbeats 6000000
structure CS where
 i:Nat
 h:Int
structure CurAt (a:Option Addr)(n cap:Nat)(bs:List Int)(g:Nat)(s:CS)(w:World):Prop where
 c0:w.cell? ⟨g,0,none⟩=some (.slice a n cap)
 c1:w.cell? ⟨g,1,none⟩=some (.int .i64 (s.i:Int))
 c2:w.cell? ⟨g,2,none⟩=some (.int .i64 s.h)
 f1:w.frozen? ⟨g,1,none⟩=false
 f2:w.frozen? ⟨g,2,none⟩=false
 rd:Rd w a n cap 1 (bs.map (Value.int .u8))
 ne:∀x,a=some x->0<n->x.block<g
 hb:∀z∈bs,0<=z/\z<=255
 hn:n<=1048576
 hi:s.i<=n
theorem CurAt.lt {a:Option Addr}{n cap:Nat}{bs:List Int}{g:Nat}{s:CS}{w:World}(h:CurAt a n cap bs g s w):g<w.heap.size:=World.block_lt_of_cell? w _ h.c0
theorem CurAt.grown {a:Option Addr}{n cap:Nat}{bs:List Int}{g:Nat}{s:CS}{w w':World}{r:Option Nat}(h:CurAt a n cap bs g s w)(hg:w.grownBy w' r)(hr:∀k,r=some k->g<k):CurAt a n cap bs g s w':=by
 have hne:some g≠r:=fun e=>by have:=hr g e.symm;omega
 have hb:=hg.block g h.lt hne;exact⟨(World.cell?_of_block (a:=⟨g,0,none⟩) hb).trans h.c0,(World.cell?_of_block (a:=⟨g,1,none⟩) hb).trans h.c1,(World.cell?_of_block (a:=⟨g,2,none⟩) hb).trans h.c2,
  (World.frozen?_of_block (a:=⟨g,1,none⟩) hb).trans h.f1,(World.frozen?_of_block (a:=⟨g,2,none⟩) hb).trans h.f2,
  h.rd.grown hg (fun x hx h0 e=>by have h1:=h.ne x hx h0;have h2:=hr _ e;omega),h.ne,h.hb,h.hn,h.hi⟩
theorem CurAt.kept {a:Option Addr}{n cap:Nat}{bs:List Int}{g:Nat}{s:CS}{w w':World}(h:CurAt a n cap bs g s w)(hb:Below w.heap.size w w'):CurAt a n cap bs g s w':=
 h.grown (aA none hb) (fun k hk=>by cases hk)
theorem CurAt.alloc {a:Option Addr}{n cap:Nat}{bs:List Int}{g:Nat}{s:CS}{w:World}(h:CurAt a n cap bs g s w)(o:Obj):CurAt a n cap bs g s (w.alloc o):=
 h.kept (zB.alloc zN o)
theorem CurAt.drew {a:Option Addr}{n cap:Nat}{bs:List Int}{g:Nat}{s:CS}{w:World}(h:CurAt a n cap bs g s w):CurAt a n cap bs g s w.drew:=h.kept zB.drew
theorem CurAt.drewN {a:Option Addr}{n cap:Nat}{bs:List Int}{g:Nat}{s:CS}{w:World}(h:CurAt a n cap bs g s w)(q:Nat):CurAt a n cap bs g s (w.drewN q):=h.kept (below_drewN zB q)
def cuH (h:Int):Int:=wrap64 (wrap64 (h*6364136223846793005)+1442695040888963407)
def cuX (h:Int):Int:=bits .and .i64 (bits .xor .i64 (h / 8589934592) (h / 35184372088832)) 255
theorem mp (x:Int):0<=bits .and .i64 x 255/\bits .and .i64 x 255<=255:=by
 have e:bits .and .i64 x 255=((BitVec.ofInt 64 x &&& BitVec.ofInt 64 255).toNat:Int):=by
  show IntKind.i64.wrap ((BitVec.ofInt 64 x &&& BitVec.ofInt 64 255).toNat:Int)=_;have h:(BitVec.ofInt 64 x &&& BitVec.ofInt 64 255).toNat<=255:=by
   rw[BitVec.toNat_and];exact Nat.le_trans Nat.and_le_right (by decide)
  exact cN _ (by omega) (by omega)
 have h:(BitVec.ofInt 64 x &&& BitVec.ofInt 64 255).toNat<=255:=by
  rw[BitVec.toNat_and];exact Nat.le_trans Nat.and_le_right (by decide)
 rw[e];omega
theorem lD (h:Int):0<=cuX h/\cuX h<=255:=mp _
def aQ (bs:List Int)(s:CS):Int × CS:=
 if s.i<bs.length then ((cuX (cuH s.h)+bs.getD s.i 0) % 256,⟨s.i+1,cuH s.h⟩) else (cuX (cuH s.h),⟨s.i,cuH s.h⟩)
theorem de (bs:List Int)(s:CS):0<=(aQ bs s).1/\(aQ bs s).1<=255:=by
 unfold aQ;have:=lD (cuH s.h);split
 ·simp only;omega
 ·exact this
def jW (a:Option Addr)(n cap:Nat)(bs:List Int)(g:Nat)(w:World)(r:Int × CS)(e:Ending)(w':World):Prop:=
 e=.returned (.int .i64 r.1)/\CurAt a n cap bs g r.2 w'/\w.grownBy w' (some g)
def te (a:Option Addr)(n cap:Nat)(bs:List Int)(g:Nat)(w:World)(r:Bool × CS)(e:Ending)(w':World):Prop:=
 e=.returned (.bool r.1)/\CurAt a n cap bs g r.2 w'/\w.grownBy w' (some g)
def jR (a:Option Addr)(n cap:Nat)(bs:List Int)(g:Nat)(w:World)(r:ByteArray × CS)(e:Ending)(w':World):Prop:=
 e=.returned (.string r.1)/\CurAt a n cap bs g r.2 w'/\w.grownBy w' (some g)
theorem eA (w:World)(g j:Nat)(u:Value):w.grownBy (w.setCell ⟨g,j,none⟩ u) (some g):=
 ⟨rfl,rfl,rfl,by simp[World.setCell],fun k _ hk=>heap_setCell_other w ⟨g,j,none⟩ k u (fun e=>hk (by simp[e]))⟩
theorem dE (a:Option Addr)(n cap:Nat)(bs:List Int)(g:Nat)(s:CS)(w:World)(hC:CurAt a n cap bs g s w) :
  Calls Tryz.prog 76 #[.pointer (some ⟨g,0,none⟩)] w (jW a n cap bs g w (aQ bs s)):=by
 obtain⟨c0,c1,c2,f1,f2,rd,ne,hb,hn,hi⟩:=hC;have hl:bs.length=n:=by have:=rd.len;simpa using this
 have hx:=lD (cuH s.h);have HX:Hid (bits .and .i64 (bits .xor .i64 (cuH s.h / 8589934592) (cuH s.h / 35184372088832)) 255=cuX (cuH s.h)):=zH rfl;have HH:Hid (wrap64 (wrap64 (s.h*6364136223846793005)+1442695040888963407)=cuH s.h):=zH rfl;have hbg:∀w1:World,w.grownBy w1 (some g)->Rd w1 a n cap 1 (bs.map (Value.int .u8)):=fun w1 hg=>rd.grown hg (fun x hx h0 e=>by have:=ne x hx h0;simp only[Option.some.injEq] at e;omega)
 have HB:=zH hbg;have HG:=zH (eA w g 2 (.int .i64 (cuH s.h)));have HN:=zH ne;have vC:=zH hb;clear hbg ne rd;by_cases hlt:s.i<n
 ·have hc1:∃b off,a=some ⟨b,off,none⟩/\b<g/\w.cell? ⟨b,off+s.i,none⟩=some (.int .u8 (bs[s.i]'(by omega))):=by
   obtain⟨b,off,e,hbl,hc⟩:=(HB.out w (World.grownBy.refl _ _)).at' (by omega);refine⟨b,off,e,HN.out _ e (by omega),?_⟩;rw[hc s.i (by simp;omega)];simp
  obtain⟨b,off,rfl,hbg,hc1⟩:=hc1;have hq:=hb _ (List.getElem_mem (show s.i<bs.length by omega));have HF:Hid (aQ bs s=((cuX (cuH s.h)+bs[s.i]'(by omega)) % 256,⟨s.i+1,cuH s.h⟩)):=zH (by
   unfold aQ;rw[if_pos (by omega),List.getD_eq_getElem?_getD,List.getElem?_eq_getElem (by omega)];rfl)
  generalize bs[s.i]'(by omega)=q at *;obtain⟨hq0,hq1⟩:=hq;obtain⟨hx0,hx1⟩:=hx;clear hb hl;go_enter Tryz.func76,Tryz.ntmps76
  go_wp2;rw[HH.out];generalize cuH s.h=h' at *;have e0:(w.setCell ⟨g,2,none⟩ (.int .i64 h')).cell? ⟨g,0,none⟩=some (.slice (some ⟨b,off,none⟩) n cap):=by go_simp
  have e1:(w.setCell ⟨g,2,none⟩ (.int .i64 h')).cell? ⟨g,1,none⟩=some (.int .i64 s.i):=by go_simp
  have e2:(w.setCell ⟨g,2,none⟩ (.int .i64 h')).cell? ⟨g,2,none⟩=some (.int .i64 h'):=by go_simp
  have k1:(w.setCell ⟨g,2,none⟩ (.int .i64 h')).frozen? ⟨g,1,none⟩=false:=by go_simp
  have k2:(w.setCell ⟨g,2,none⟩ (.int .i64 h')).frozen? ⟨g,2,none⟩=false:=by go_simp
  have e3:(w.setCell ⟨g,2,none⟩ (.int .i64 h')).cell? ⟨b,off+s.i,none⟩=some (.int .u8 q):=by
   rw[World.cell?_of_block (a:=⟨b,off+s.i,none⟩) (HG.out.block b (by have:=World.block_lt_of_cell? w _ hc1;exact this) (by simp;omega))];exact hc1
  clear c0 c1 c2 f1 f2 hc1;generalize w.setCell ⟨g,2,none⟩ (.int .i64 h')=w1 at *;have hlt1:(s.i:Int)<(n:Int):=by omega
  have PY:(0:Int)<=(s.i:Int):=by omega
  go_quiet (fail)
  rw[HX.out];generalize cuX h'=x at *;go_wp2;go_quiet (fail)
  go_wp2;go_quiet (fail)
  go_wp2;rw[pp (x+q) (by omega) (by omega)];go_ret;have HW:∀(q:Nat) (u:Value),w.grownBy ((w1.drewN q).setCell ⟨g,1,none⟩ u) (some g):=fun q u=>(eB HG.out q).trans (eA _ g 1 u)
  refine⟨by rw[HF.out];rfl,?_,HW _ _⟩;rw[HF.out];exact⟨by go_simp,by go_simp,by go_simp,by go_simp,by go_simp,HB.out _ (HW _ _),HN.out,vC.out,hn,by show s.i+1<=n;omega⟩
 ·have HF:Hid (aQ bs s=(cuX (cuH s.h),⟨s.i,cuH s.h⟩)):=zH (by
   unfold aQ;rw[if_neg (by omega)])
  clear hb hl;go_enter Tryz.func76,Tryz.ntmps76
  go_wp2;rw[HH.out];generalize cuH s.h=h' at *;have e0:(w.setCell ⟨g,2,none⟩ (.int .i64 h')).cell? ⟨g,0,none⟩=some (.slice a n cap):=by go_simp
  have e1:(w.setCell ⟨g,2,none⟩ (.int .i64 h')).cell? ⟨g,1,none⟩=some (.int .i64 s.i):=by go_simp
  have e2:(w.setCell ⟨g,2,none⟩ (.int .i64 h')).cell? ⟨g,2,none⟩=some (.int .i64 h'):=by go_simp
  have k1:(w.setCell ⟨g,2,none⟩ (.int .i64 h')).frozen? ⟨g,1,none⟩=false:=by go_simp
  have k2:(w.setCell ⟨g,2,none⟩ (.int .i64 h')).frozen? ⟨g,2,none⟩=false:=by go_simp
  clear c0 c1 c2 f1 f2;generalize w.setCell ⟨g,2,none⟩ (.int .i64 h')=w1 at *;have hlt1:decide ((s.i:Int)<(n:Int))=false:=by simp;omega
  have hlt2:¬(s.i:Int)<(n:Int):=by omega
  go_quiet (fail)
  rw[HX.out];generalize cuX h'=x at *;go_wp2;go_quiet (fail)
  go_wp2;go_ret;have HW:∀(q r:Nat),w.grownBy ((w1.drewN q).drewN r) (some g):=fun q r=>eB (eB HG.out q) r
  refine⟨by rw[HF.out];rfl,?_,HW _ _⟩;rw[HF.out];exact⟨by go_simp,by go_simp,by go_simp,by go_simp,by go_simp,HB.out _ (HW _ _),HN.out,vC.out,hn,by show s.i<=n;omega⟩
def aj (bs:List Int)(m:Int)(s:CS):Int × CS:=
 if m<=0 then (0,s)
 else if m<=256 then ((aQ bs s).1 % m,(aQ bs s).2)
 else
  let x:=aQ bs s
  let y:=aQ bs x.2
  let z:=aQ bs y.2
  let u:=aQ bs z.2
  ((x.1*16777216+y.1*65536+z.1*256+u.1) % m,u.2)
theorem aJ (bs:List Int)(m:Int)(s:CS)(h:0<m):0<=(aj bs m s).1/\(aj bs m s).1<m:=by
 unfold aj;rw[if_neg (by omega)];split
 ·exact⟨Int.emod_nonneg _ (by omega),Int.emod_lt_of_pos _ h⟩
 ·exact⟨Int.emod_nonneg _ (by omega),Int.emod_lt_of_pos _ h⟩
theorem aH (a:Option Addr)(n cap:Nat)(bs:List Int)(g:Nat)(s:CS)(m:Int)(w:World)(hC:CurAt a n cap bs g s w)(hm:m<=9223372036854775807) :
  Calls Tryz.prog 46 #[.pointer (some ⟨g,0,none⟩),.int .i64 m] w (jW a n cap bs g w (aj bs m s)):=by
 have HC:=zH hC;clear hC;by_cases h0:m<=0
 ·have HF:Hid (aj bs m s=(0,s)):=zH (by unfold aj;rw[if_pos h0]);go_enter Tryz.func46,Tryz.ntmps46
  go_wp2;go_ret;rw[HF.out];exact⟨rfl,HC.out,World.grownBy.refl _ _⟩
 ·by_cases h1:m<=256
  ·have HF:Hid (aj bs m s=((aQ bs s).1 % m,(aQ bs s).2)):=zH (by unfold aj;rw[if_neg h0,if_pos h1]);have hr:=de bs s;go_enter Tryz.func46,Tryz.ntmps46
   go_wp2_with fail
   refine(dE a n cap bs g s _ HC.out).mono ?_;rintro e w1 ⟨rfl,ve,hG1⟩;have HR:=zH (And.intro ve hG1);clear ve hG1;obtain⟨hr0,hr1⟩:=hr;have hm0:0<m:=by omega
   generalize (aQ bs s).1=x at *;go_wp2;go_ret;rw[HF.out];exact⟨rfl,HR.out.1,HR.out.2⟩
  ·have HF:Hid (aj bs m s=(((aQ bs s).1*16777216+(aQ bs (aQ bs s).2).1*65536+(aQ bs (aQ bs (aQ bs s).2).2).1*256+(aQ bs (aQ bs (aQ bs (aQ bs s).2).2).2).1) % m,(aQ bs (aQ bs (aQ bs (aQ bs s).2).2).2).2)):=zH (by unfold aj;rw[if_neg h0,if_neg h1]);have r1:=de bs s;have r2:=de bs (aQ bs s).2;have r3:=de bs (aQ bs (aQ bs s).2).2;have r4:=de bs (aQ bs (aQ bs (aQ bs s).2).2).2;go_enter Tryz.func46,Tryz.ntmps46
   go_wp2_with fail
   refine(dE a n cap bs g s _ HC.out).mono ?_;rintro e w1 ⟨rfl,ve,hG1⟩;have Ak:=zH hG1;clear hG1;have yO:=zH ve;clear ve;go_wp2_with fail
   refine(dE a n cap bs g _ _ yO.out).mono ?_;rintro e w2 ⟨rfl,ve,hG1⟩;have HG2:=zH (Ak.out.trans hG1);have wI:=zH ve;clear ve hG1;go_wp2_with fail
   refine(dE a n cap bs g _ _ wI.out).mono ?_;rintro e w3 ⟨rfl,ve,hG1⟩;have xI:=zH (HG2.out.trans hG1);have xm:=zH ve;clear ve hG1;go_wp2_with fail
   refine(dE a n cap bs g _ _ xm.out).mono ?_;rintro e w4 ⟨rfl,ve,hG1⟩;have zk:=zH (xI.out.trans hG1);have xQ:=zH ve;clear ve hG1 HC yO wI xm Ak HG2 xI;generalize (aQ bs (aQ bs (aQ bs (aQ bs s).2).2).2).2=s4 at *;generalize (aQ bs (aQ bs (aQ bs (aQ bs s).2).2).2).1=x4 at *;generalize (aQ bs (aQ bs (aQ bs s).2).2).1=x3 at *;generalize (aQ bs (aQ bs s).2).1=x2 at *;generalize (aQ bs s).1=x1 at *;obtain⟨a1,b1⟩:=r1;obtain⟨a2,b2⟩:=r2;obtain⟨a3,b3⟩:=r3;obtain⟨a4,b4⟩:=r4;have hm0:0<m:=by omega
   go_wp2;go_ret;rw[HF.out];exact⟨rfl,xQ.out,zk.out⟩
theorem bo (a:Option Addr)(n cap:Nat)(bs:List Int)(g:Nat)(s:CS)(m:Int)(w:World)(hC:CurAt a n cap bs g s w)(hm:m<=9223372036854775807) :
  Calls Tryz.prog 45 #[.pointer (some ⟨g,0,none⟩),.int .i64 m] w (te a n cap bs g w ((aj bs m s).1==0,(aj bs m s).2)):=by
 have HC:=zH hC;clear hC;go_enter Tryz.func45,Tryz.ntmps45
 go_wp2_with fail
 refine(aH a n cap bs g s m _ HC.out hm).mono ?_;rintro e w1 ⟨rfl,ve,hG1⟩;have HR:=zH (And.intro ve hG1);clear ve hG1;go_wp2;go_ret;exact⟨rfl,HR.out.1,HR.out.2⟩
theorem bU (a:Option Addr)(n cap:Nat)(bs:List Int)(g:Nat)(s:CS)(p:Option Addr)(m c:Nat)(l:List Int)(w:World)(hC:CurAt a n cap bs g s w)
  (hl:Rd w p m c 1 (aE l)) (hne:∀x,p=some x->x.block≠g) (hm0:0<m) (hm:m<=1048576) :
  Calls Tryz.prog 65 #[.pointer (some ⟨g,0,none⟩),.slice p m c] w (jW a n cap bs g w (l.getD (aj bs m s).1.toNat 0,(aj bs m s).2)):=by
 have HC:=zH hC;have hlen:l.length=m:=by have:=hl.len;simpa using this
 have hr:=aJ bs m s (by omega);have HL:=zH hl;clear hC hl;have zy:=zH hlen;clear hlen;go_enter Tryz.func65,Tryz.ntmps65
 go_wp2_with fail
 refine(aH a n cap bs g s m _ HC.out (by omega)).mono ?_;rintro e w1 ⟨rfl,ve,hG1⟩;have hL1:=HL.out.grown hG1 (fun x hx _ e=>hne x hx (by simpa using e.symm));have HR:=zH (And.intro ve hG1);obtain⟨b,off,rfl,hbs,hc⟩:=hL1.at' hm0;generalize (aj bs m s).1=x at *;obtain⟨hx0,hx1⟩:=hr;obtain⟨k,rfl⟩:=Int.eq_ofNat_of_zero_le hx0;have hk:k<l.length:=by have:=zy.out;omega
 have hc1:=hc k (by simpa using hk);rw[br l k hk] at hc1;have HD:Hid (l.getD k 0=l[k]):=zH (by rw[List.getD_eq_getElem?_getD,List.getElem?_eq_getElem hk];rfl);clear ve hG1 hL1 hc hbs;generalize l[k]=y at *;go_wp2;go_ret;refine⟨?_,HR.out.1,HR.out.2⟩;rw[Int.toNat_natCast,HD.out];rfl
def fY (style b:Int):Int:=if style=1 then b % 2 else if style=2 then 97+b % 4 else b
theorem nP (style b:Int)(h0:0<=b)(h1:b<=255):0<=fY style b/\fY style b<=255:=by unfold fY;(repeat' split) <;> omega
def dp (bs:List Int)(style:Int):Nat->CS->List UInt8 × CS
 | 0,s=>([],s)
 | k+1,s=>(ub (fY style (aQ bs s).1)::(dp bs style k (aQ bs s).2).1,(dp bs style k (aQ bs s).2).2)
theorem lK (bs:List Int)(style:Int):∀(k:Nat) (s:CS),(dp bs style k s).1.length=k
 | 0,_=>rfl
 | k+1,s=>by rw[dp,List.length_cons,lK bs style k]
def gt (bs:List Int)(most:Int)(s:CS):ByteArray × CS:=
 let r:=aj bs 4 s
 let q:=aj bs (most+1) r.2
 (⟨(dp bs r.1 q.1.toNat q.2).1.toArray⟩,(dp bs r.1 q.1.toNat q.2).2)
theorem j0 (bs:List Int)(most:Int)(s:CS)(h:0<=most):((gt bs most s).1.size:Int)<=most:=by
 have h1:=aJ bs (most+1) (aj bs 4 s).2 (by omega);unfold gt;show (((dp bs _ _ _).1.toArray.size:Nat):Int)<=most;rw[List.size_toArray,lK];omega
theorem kO (a:Option Addr)(n cap:Nat)(bs:List Int)(g:Nat)(s:CS)(most:Int)(w:World)(hC:CurAt a n cap bs g s w)(hm0:0<=most)(hm:most<=1048576) :
  Calls Tryz.prog 77 #[.pointer (some ⟨g,0,none⟩),.int .i64 most] w (jR a n cap bs g w (gt bs most s)):=by
 have HC:=zH (hC.alloc (.cells #[] 5));have hg:=hC.lt;have HO:=zH (Own.lit (e:=5) (size:=1) (n:=0) (Below.refl w.heap.size w) zN #[] rfl (by decide));have HW:=zH (World.grownBy_alloc w (.cells #[] 5) (some g));clear hC;go_enter Tryz.func77,Tryz.ntmps77
 go_wp2_with fail
 refine(aH a n cap bs g s 4 _ HC.out (by omega)).mono ?_;rintro e w1 ⟨rfl,ve,hG1⟩;have yO:=zH ve;have Ak:=zH (HW.out.trans hG1);have HR1:Hid (w1.ownsRow (g+1) 5 1 (.slice (some ⟨w.heap.size,0,none⟩) 0 0) 0 []):=zH ((World.ownsRow_lit w #[] 0 (by omega) (by decide) rfl).kept hG1 (by right;simp only[Value.ownBlock];simp;omega));clear ve hG1 HO;go_wp2_with fail
 refine(aH a n cap bs g _ (most+1) _ yO.out (by omega)).mono ?_;rintro e w2 ⟨rfl,ve,hG1⟩;have hr2:=aJ bs (most+1) (aj bs 4 s).2 (by omega);have HF:Hid (gt bs most s=(⟨(dp bs (aj bs 4 s).1 (aj bs (most+1) (aj bs 4 s).2).1.toNat (aj bs (most+1) (aj bs 4 s).2).2).1.toArray⟩,(dp bs (aj bs 4 s).1 (aj bs (most+1) (aj bs 4 s).2).1.toNat (aj bs (most+1) (aj bs 4 s).2).2).2)):=zH rfl;have wI:=zH ve;have HG2:=zH (Ak.out.trans hG1);have HR2:=zH (HR1.out.kept hG1 (by right;simp only[Value.ownBlock];simp;omega));clear ve hG1 yO Ak HR1 HC;generalize (aj bs (most+1) (aj bs 4 s).2).2=s2 at *;generalize (aj bs (most+1) (aj bs 4 s).2).1=k2 at *;generalize (aj bs 4 s).1=style at *;obtain⟨hk0,hk1⟩:=hr2;obtain⟨K,rfl⟩:=Int.eq_ofNat_of_zero_le hk0;rw[Int.toNat_natCast] at HF;clear hk0;go_wp2;go_loopg [5,7,8] K (fun gg o i t8 wr => ∃(pre:List UInt8) (sk:CS),i=.int .i64 (gg:Nat)/\Hid (pre++(dp bs style gg sk).1=(dp bs style K s2).1)/\Hid ((dp bs style gg sk).2=(dp bs style K s2).2)/\pre.length+gg=K /\
  Own 5 1 (g+1) wr o pre.length (u8s pre) wr/\Hid (CurAt a n cap bs g sk wr)/\Hid (w.grownBy wr (some g))/\(∀k,o.ownBlock=some k->w.heap.size<=k))
 case atStart=>exact⟨[],s2,rfl,zH rfl,zH rfl,by simp,⟨HR2.out,zB,by have:=wI.out.lt;omega⟩,wI,HG2,fun k hk=>by cases hk;exact zN⟩
 case round =>
  obtain⟨pre,sk,rfl,H1,H2,hlen,hO,EK,Dx,hblk⟩:=hrel;obtain⟨av,cv,rfl,_,_⟩:=hO.shape;cases gk with
  | zero =>
   have hS:=hO.rd;have H3:Hid ((gt bs most s).1=⟨pre.toArray⟩):=zH (by rw[HF.out];simp only;rw[←H1.out];simp[dp]);have H4:Hid ((gt bs most s).2=sk):=zH (by rw[HF.out];simp only;rw[←H2.out];rfl);clear H1 H2;go_wp2_with (refine pj rfl _ 34 9 5 rfl Tryz.underlying34 Tryz.underlying5 Tryz.underlying9 _ _ _ _ (by rfl) (by exact hS) ?_)
   go_ret;exact⟨by rw[H3.out];rfl,by rw[H4.out];exact EK.out,Dx.out⟩
  | succ gq =>
   have hb:=de bs sk;have hbl:pre.length<=1048576:=by omega
   go_wp2_with fail
   refine(dE a n cap bs g sk _ EK.out).mono ?_;rintro e w3 ⟨rfl,ve,hG1⟩;have xm:=zH ve;have xI:=zH (Dx.out.trans hG1);have hblk2:=zH hblk;have hw3:=Dx.out.size;have hO3:Own 5 1 (g+1) w3 (.slice av pre.length cv) pre.length (u8s pre) w3:=⟨hO.row.kept hG1 (by
    cases hv:Value.ownBlock (.slice av pre.length cv) with
    | none=>exact .inl rfl
    | some k=>right;have:=hblk k hv;simp;omega),zB,by have:=ve.lt;omega⟩
   have H1':Hid (pre++(ub (fY style (aQ bs sk).1)::(dp bs style gq (aQ bs sk).2).1)=(dp bs style K s2).1):=zH H1.out;have H2':Hid ((dp bs style gq (aQ bs sk).2).2=(dp bs style K s2).2):=zH H2.out;clear ve hG1 hO H1 H2 hblk;generalize (aQ bs sk).2=sn at *;generalize (aQ bs sk).1=x at *;obtain⟨hb0,hb1⟩:=hb;have fin:∀(y:Int) (w4:World) (a2:Option Addr) (c2:Nat),y=fY style x->Own 5 1 (g+1) w3 (.slice a2 (pre.length+1) c2) (pre.length+1) (u8s pre ++ [.int .u8 y]) w4->w3.grownBy w4 (Value.ownBlock (.slice av pre.length cv))->((Value.slice a2 (pre.length+1) c2).ownBlock=(Value.slice av pre.length cv).ownBlock∨∃k,(Value.slice a2 (pre.length+1) c2).ownBlock=some k/\w3.heap.size<=k) ->
     ∃(pre':List UInt8) (sk':CS),Hid (pre'++(dp bs style gq sk').1=(dp bs style K s2).1)/\Hid ((dp bs style gq sk').2=(dp bs style K s2).2)/\pre'.length+gq=K /\
      Own 5 1 (g+1) w4 (.slice a2 (pre.length+1) c2) pre'.length (u8s pre') w4/\Hid (CurAt a n cap bs g sk' w4)/\Hid (w.grownBy w4 (some g))/\(∀k,(Value.slice a2 (pre.length+1) c2).ownBlock=some k->w.heap.size<=k):=by
    intro y w4 a2 c2 hy hO4 hG4 PZ;have ML:=nP style x hb0 hb1;have P5:=xI.out.size;refine⟨pre ++ [ub y],sn,zH (by rw[hy];simpa using H1'.out),H2',by simp;omega,⟨?_,zB,?_⟩,zH (xm.out.grown hG4 (fun k hk=>by have:=hblk2.out k hk;omega)),zH (aq xI.out hG4 (fun k hk => .inr (hblk2.out k hk))),?_⟩
    ·have e:u8s (pre ++ [ub y])=u8s pre ++ [.int .u8 y]:=by rw[bS,pB y (by omega) (by omega)]
     rw[e,List.length_append];exact hO4.row
    ·exact hO4.base
    ·intro k hk;rcases PZ with h5|⟨q,h5,h6⟩
     ·exact hblk2.out k (h5 ▸ hk)
     ·rw[h5] at hk;cases hk;omega
   by_cases hs1:style=1
   ·have e1:(style==1)=true:=by simp[hs1]
    have e2:(style==2)=false:=by simp[hs1]
    have HY:Hid (x % 2=fY style x):=zH (by unfold fY;rw[if_pos hs1]);have vv:=zH fin;clear hs1 fin;go_wp2_with (at_builtin;go_loud (refine cI rfl _ _ 34 rfl 5 (.int .u8 0) 1 1 Tryz.underlying34 cW rfl (by decide) _ _ _ _ _ (by rfl) (by exact hO3) _ _ (by rfl) (by rfl) (by intro u hu;simp at hu;first|(subst hu;rfl)|(rcases hu with rfl|rfl <;> rfl)|(rcases hu with rfl|rfl|rfl <;> rfl)|(rcases hu with rfl|rfl|rfl|rfl <;> rfl)) (by omega) (by unfold maxLen;omega) ?_);intro a2 c2 w2 hO2 hG2 Dq)
    go_wp2;go_roundg gq
    case measure=>omega
    case rel=>obtain⟨p',s',hp⟩:=vv.out _ _ _ _ HY.out hO2 hG2 Dq;exact⟨p',s',rfl,hp⟩
   ·by_cases hs2:style=2
    ·have e1:(style==1)=false:=by simp[hs2]
     have e2:(style==2)=true:=by simp[hs2]
     have HY:Hid (97+x % 4=fY style x):=zH (by unfold fY;rw[if_neg hs1,if_pos hs2]);have vv:=zH fin;clear hs1 hs2 fin;go_wp2_with (at_builtin;go_loud (refine cI rfl _ _ 34 rfl 5 (.int .u8 0) 1 1 Tryz.underlying34 cW rfl (by decide) _ _ _ _ _ (by rfl) (by exact hO3) _ _ (by rfl) (by rfl) (by intro u hu;simp at hu;first|(subst hu;rfl)|(rcases hu with rfl|rfl <;> rfl)|(rcases hu with rfl|rfl|rfl <;> rfl)|(rcases hu with rfl|rfl|rfl|rfl <;> rfl)) (by omega) (by unfold maxLen;omega) ?_);intro a2 c2 w2 hO2 hG2 Dq)
     go_wp2;go_roundg gq
     case measure=>omega
     case rel=>obtain⟨p',s',hp⟩:=vv.out _ _ _ _ HY.out hO2 hG2 Dq;exact⟨p',s',rfl,hp⟩
    ·have e1:(style==1)=false:=by simp[hs1]
     have e2:(style==2)=false:=by simp[hs2]
     have HY:Hid (x=fY style x):=zH (by unfold fY;rw[if_neg hs1,if_neg hs2]);have vv:=zH fin;clear hs1 hs2 fin;go_wp2_with (at_builtin;go_loud (refine cI rfl _ _ 34 rfl 5 (.int .u8 0) 1 1 Tryz.underlying34 cW rfl (by decide) _ _ _ _ _ (by rfl) (by exact hO3) _ _ (by rfl) (by rfl) (by intro u hu;simp at hu;first|(subst hu;rfl)|(rcases hu with rfl|rfl <;> rfl)|(rcases hu with rfl|rfl|rfl <;> rfl)|(rcases hu with rfl|rfl|rfl|rfl <;> rfl)) (by omega) (by unfold maxLen;omega) ?_);intro a2 c2 w2 hO2 hG2 Dq)
     go_wp2;go_roundg gq
     case measure=>omega
     case rel=>obtain⟨p',s',hp⟩:=vv.out _ _ _ _ HY.out hO2 hG2 Dq;exact⟨p',s',rfl,hp⟩
end Go.Proofs.YtlkfabkkjfmnmaaGreatDoor
