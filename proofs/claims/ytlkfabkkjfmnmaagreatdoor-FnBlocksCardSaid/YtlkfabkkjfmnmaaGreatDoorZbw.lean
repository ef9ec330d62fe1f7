import Derived.Test.YtlkfabkkjfmnmaaGreatDoorZbs
import Derived.Test.YtlkfabkkjfmnmaaGreatDoorZbu
import Derived.Test.YtlkfabkkjfmnmaaGreatDoorZbv
namespace Go.Proofs.YtlkfabkkjfmnmaaGreatDoor
open Go.RowKit
set_option linter.all false
set_option maxRecDepth 1000000
set_option maxHeartbeats 6000000
theorem mx (a b:Option Addr)(n m c d:Nat)(l t:List ByteArray)(w:World)(ha:Rd w a n c 1 (cR l))(hb:Rd w b m d 1 (cR t)) :
  Calls Tryz.prog 23 #[.slice a n c,.slice b m d] w fun e w'=>e=.returned (.bool (decide (l=t)))/\Below w.heap.size w w':=by
 have hl:l.length=n:=by have:=ha.len;simpa using this
 have ht:t.length=m:=by have:=hb.len;simpa using this
 subst hl;subst ht;have hm:=Nat.le_trans ha.le ha.max;have hm2:=Nat.le_trans hb.le hb.max;unfold maxLen at hm hm2;have HA:=zH ha;have HC:=zH hb;clear ha hb;by_cases hlt:l.length=t.length
 rotate_left
 ·have HE:Hid (decide (l=t)=false):=zH (decide_eq_false (fun e=>hlt (by rw[e])));have hne:((l.length:Int) != (t.length:Int))=true:=by simp;omega
  clear hlt;go_enter Tryz.func23,Tryz.ntmps23
  go_wp2;go_ret;exact⟨ah HE.out.symm,zB⟩
 have Bb:=zH hlt;have hne:((l.length:Int) != (t.length:Int))=false:=by simp;omega
 clear hlt;go_enter Tryz.func23,Tryz.ntmps23
 go_wp2;go_loopg [5] l.length (fun gg i wr => ∃k:Nat,k+gg=l.length/\i=.int .i64 (k:Int)/\Hid (∀j (h1:j<l.length) (h2:j<t.length),j<k->l[j]=t[j])/\Hid (Below w.heap.size w wr))
 case atStart=>exact⟨0,by omega,rfl,zH (fun j _ _ h=>by omega),zH zB⟩
 case round =>
  obtain⟨k,hk,rfl,HQ,HB⟩:=hrel;by_cases hkl:k<l.length
  ·have hkt:k<t.length:=by have:=Bb.out;omega
   obtain⟨ba,oa,rfl,IA,F9⟩:=(HA.out.below HB.out zN).at' (by omega);obtain⟨bb,ob,rfl,hbb,hcb⟩:=(HC.out.below HB.out zN).at' (by omega);have a0:=F9 k (by simpa using hkl);have b0:=hcb k (by simpa using hkt);rw[cE l k hkl] at a0;rw[cE t k hkt] at b0;have hi:(k:Int)<(l.length:Int):=by omega
   have hi2:(k:Int)<(t.length:Int):=by omega
   have hi0:(0:Int)<=(k:Int):=by omega
   have HY:Hid (l[k].toList=t[k].toList->∀j (h1:j<l.length) (h2:j<t.length),j<k+1->l[j]=t[j]):=zH (fun h j h1 h2 h3=>by
    by_cases e:j=k
    ·subst e;rw[ByteArray.toList_eq,ByteArray.toList_eq] at h;have:=congrArg (fun z=>(⟨List.toArray z⟩:ByteArray)) h;simp only[gE] at this;exact this
    ·exact HQ.out j h1 h2 (by omega))
   have xP:Hid (¬l[k].toList=t[k].toList->decide (l=t)=false):=zH (fun h=>decide_eq_false (fun e=>h (by subst e;rfl)));clear F9 hcb;generalize l[k]=x at *;generalize t[k]=y at *;cases hq:(x.toList==y.toList) with
   | true =>
    have xG:=zH (HY.out (by simpa using hq));clear HY xP;go_wp2;go_region;go_wp2;go_roundg (gk - 1)
    case measure=>omega
    case rel=>exact⟨k+1,by omega,by go_num,xG,zH HB.out.drew⟩
   | false =>
    have HE:=zH (xP.out (by simpa using hq));clear HY xP;go_wp2;go_region;go_wp2;go_ret;exact⟨ah HE.out.symm,HB.out.drew⟩
  ·obtain rfl:k=l.length:=by omega
   have HE:Hid (decide (l=t)=true):=zH (decide_eq_true (List.ext_getElem Bb.out (fun j h1 h2=>HQ.out j h1 h2 h1)));go_wp2;go_ret;exact⟨ah HE.out.symm,HB.out⟩
theorem qu (s:List UInt8):(fM s).1.data.size<=s.length:=by
 unfold fM;split
 ·show (0:Nat)<=_;omega
 ·split
  ·show (0:Nat)<=_;omega
  ·show (dC _).size<=_;unfold dC;exact Nat.le_trans (Nat.le_of_eq List.size_toArray) (jg s _)
theorem oF {t:List ByteArray}{k:Nat}{l:List InoL}(hs:∀s∈t,s.size<=1048576)(h:dS t k=some l):∀x∈l,x.data.size<=1048576:=by
 induction k generalizing l with
 | zero=>rw[dS] at h;cases h;simp
 | succ k ih =>
  rw[dS] at h;split at h
  ·cases h
  ·rename_i l0 hl0
   split at h
   ·cases h;have hsz:(t.getD (k+1) ByteArray.empty).size<=1048576:=by
     rw[List.getD_eq_getElem?_getD];cases hq:t[k+1]? with
     | none=>decide
     | some s=>exact hs s (List.mem_of_getElem? hq)
    have hr:=qu (t.getD (k+1) ByteArray.empty).data.toList;rw[eC] at hr;intro x hx;rcases List.mem_append.1 hx with hx|hx
    ·exact ih hl0 x hx
    ·rw[List.mem_singleton] at hx;subst hx;exact Nat.le_trans hr hsz
   ·cases h
theorem sZ {t:List ByteArray}{next:Int}{l:List InoL}(h:t.length=17):df next l=t ↔ bQ next l=true/\bI next l=t:=by
 unfold df;split
 ·rename_i c
  exact⟨fun e=>⟨c,e⟩,fun e=>e.2⟩
 ·rename_i c
  constructor
  ·intro e;rw[←e] at h;simp at h
  ·intro e;exact absurd e.1 c
theorem eo {Post:Ending->World->Prop}{a:Act}{wf:World}{R:Nat}{u0:Int}{u1:Value}{b:Bool}(hc:Cs wf R [.int .i64 u0,u1])(h2:a.tmps[2]?.getD undef=.pointer (some ⟨R,0,none⟩))(h3:a.tmps[3]?.getD undef=.bool b)(hd:a.defers = [])
  (hp:Post (.returned (.tuple #[.agg #[.int .i64 u0,u1],.bool b])) wf):bodyPost Tryz.prog Tryz.f6 Post Exit.ret a wf:=by
 obtain⟨⟨r0,r1⟩,-⟩:=hc.two;exact bodyPost_ret (v:=.tuple #[.agg #[.int .i64 u0,u1],.bool b]) (by simp[results,Tryz.results6,go_sem,h2,h3,r0,r1]) hd hp
theorem eW (a:Option Addr)(n cap:Nat)(t:List ByteArray)(w:World)(hr:Rd w a n cap 1 (cR t))(hs:∀s∈t,s.size<=1048576)(hT:KTab w) :
  Calls Tryz.prog 6 #[.slice a n cap] w (gA t w):=by
 have hl:t.length=n:=by have:=hr.len;simpa using this
 subst hl;have hm:=Nat.le_trans hr.le hr.max;unfold maxLen at hm;have wC:=zH (ar w 26 #[.int .i64 0,.slice none 0 0]);have HB0:=zH (az w (.cells #[.int .i64 0,.slice none 0 0] 26));have Dl:=zH (hr.below HB0.out zN);have Mg:Hid (∀W,Below w.heap.size w W->Rd W a t.length cap 1 (cR t)):=zH (fun W h=>hr.below h zN);have HT:=zH hT;have vJ:=zH hs;clear hr hT hs;by_cases Er:t.length=17
 rotate_left
 ·have HZ:=zH (fO (t:=t) (by unfold gs;rw[if_neg Er]));have hne:((t.length:Int) != 17)=true:=by simp;omega
  have r0:=wC.out.two;have wX:Hid (Cs (((w.alloc (.cells #[.int .i64 0,.slice none 0 0] 26)).setCell ⟨w.heap.size,0,none⟩ (.int .i64 0)).setCell ⟨w.heap.size,1,none⟩ (.slice none 0 0)) w.heap.size [.int .i64 0,.slice none 0 0]):=zH ((wC.out.set 0 _).set 1 _);have vI:=zH ((HB0.out.setCell (p:=⟨w.heap.size,0,none⟩) zN (.int .i64 0)).setCell (p:=⟨w.heap.size,1,none⟩) zN (.slice none 0 0));clear Er;go_enter Tryz.func6,Tryz.ntmps6
  go_wp2;first|exact eo wX.out (by rfl) (by rfl) (by rfl) (dz vI.out HZ.out)|exact eo wC.out (by rfl) (by rfl) (by rfl) (dz HB0.out HZ.out)
 have Bo:Hid (gs t=if (hG t).2<0∨16<(hG t).1.getD 1 0 then none else match dS t ((hG t).1.getD 1 0).toNat with
  | none=>none
  | some l=>some ((hG t).1.getD 0 0,l)):=zH (by unfold gs;rw[if_pos Er];rfl)
 have hne:((t.length:Int) != 17)=false:=by simp;omega
 have Om:(t.length:Int)=17:=by omega
 have xM:Hid (ax (t.getD 0 ByteArray.empty).data.toList 2 1 []=hG t):=zH rfl;have Es:=zH (q4 (t.getD 0 ByteArray.empty).data.toList 1);rw[xM.out] at Es;obtain⟨b,off,rfl,hbs,hc⟩:=Dl.out.at' (by omega);have t0:=hc 0 (by simp;omega);rw[cE t 0 (by omega),Nat.add_zero] at t0;have hg0:t.getD 0 ByteArray.empty=t[0]'(by omega):=by rw[List.getD_eq_getElem?_getD,List.getElem?_eq_getElem (by omega)];rfl
 have hs0:=vJ.out (t[0]'(by omega)) (List.getElem_mem _);rw[hg0] at xM;generalize t[0]'(by omega)=s0 at *;clear hc hg0;have H17:=zH Er;clear Er;go_enter Tryz.func6,Tryz.ntmps6
 go_wp2_with fail
 refine(ew s0 1 2 _ hs0 (by omega) (by omega) (by omega)).mono ?_;rintro e w1 ⟨g0,c0,rfl,hO⟩;rw[xM.out] at hO ⊢;have Ip:=zH hO.rd;have zA:Hid (∀q,(Value.slice g0 (hG t).1.length c0).ownBlock=some q->w.heap.size+1<=q):=zH (fun q hq=>by have:=(hO.blk q hq).1;simpa using this);have HR1:=zH (wC.out.below hO.below);have HB1:=zH (HB0.out.trans (hO.below.mono HB0.out.size));clear hO wC HB0 xM Dl t0;obtain⟨p0,hp0⟩:∃x,(hG t).2=x:=⟨_,rfl⟩;rw[hp0] at Bo Es ⊢;clear hp0;generalize (hG t).1=ll at *;have Ol:w.heap.size<w1.heap.size:=HR1.out.lt;by_cases hneg:p0<0
 ·have HZ:=zH (fO (t:=t) (by rw[Bo.out,if_pos (.inl hneg)]));have r0:=HR1.out.two;have wX:=zH ((HR1.out.set 0 (.int .i64 0)).set 1 (.slice none 0 0));have vI:=zH ((HB1.out.setCell (p:=⟨w.heap.size,0,none⟩) zN (.int .i64 0)).setCell (p:=⟨w.heap.size,1,none⟩) zN (.slice none 0 0));clear Bo Es Ip zA;go_wp2;exact eo wX.out (by rfl) (by rfl) (by rfl) (dz vI.out HZ.out)
 obtain⟨nx,n0,hll,-,⟨hn0,hn1⟩⟩:=Es.out (by omega);subst hll;simp only[List.getD_cons_zero,List.getD_cons_succ] at Bo;obtain⟨n,rfl⟩:=Int.eq_ofNat_of_zero_le hn0;rw[Int.toNat_natCast] at Bo;obtain⟨bl,ol,rfl,hbs,hc⟩:=Ip.out.at' (by simp);have lc0:w1.cell? ⟨bl,ol,none⟩=some (.int .i64 nx):=hc 0 (by simp);have lc1:w1.cell? ⟨bl,ol+1,none⟩=some (.int .i64 (n:Int)):=hc 1 (by simp);have Ml:=zA.out bl rfl;have Ra:bl<w1.heap.size:=World.block_lt_of_cell? w1 _ lc0;clear hc Es Ip zA hn0 hn1;by_cases hgt:16<n
 ·have hg2:(16:Int)<(n:Int):=by omega
  have HZ:=zH (fO (t:=t) (by rw[Bo.out,if_pos (.inr hg2)]));have r0:=HR1.out.two;have wX:=zH ((HR1.out.set 0 (.int .i64 0)).set 1 (.slice none 0 0));have vI:=zH ((HB1.out.setCell (p:=⟨w.heap.size,0,none⟩) zN (.int .i64 0)).setCell (p:=⟨w.heap.size,1,none⟩) zN (.slice none 0 0));clear Bo hgt;go_wp2;exact eo wX.out (by rfl) (by rfl) (by rfl) (dz vI.out HZ.out)
 have hg2:¬(16:Int)<(n:Int):=by omega
 have hn16:n<=16:=by omega
 have Cy:=zH (Bo.out.trans (if_neg (by omega)));clear Bo;have xR:=zH (ar w1 26 #[.int .i64 nx,.slice none 0 0]);have HR2:=zH (HR1.out.alloc (.cells #[.int .i64 nx,.slice none 0 0] 26));have HB2:=zH (HB1.out.alloc HB1.out.size (.cells #[.int .i64 nx,.slice none 0 0] 26));have yf:=zH (aV lc1 (az w1 (.cells #[.int .i64 nx,.slice none 0 0] 26)));have RN:w1.heap.size<(w1.alloc (.cells #[.int .i64 nx,.slice none 0 0] 26)).heap.size:=xR.out.lt;clear HR1 HB1;go_wp2;clear lc0 lc1;generalize w1.alloc (.cells #[.int .i64 nx,.slice none 0 0] 26)=w2 at *;generalize hV:w1.heap.size=V at *;clear hV;go_loopg [7] n (fun gg i wr => ∃(k:Nat) (g:Option Addr) (c:Nat) (l:List InoL) (m:List InoP),k+gg=n/\i=.int .i64 (k:Int)/\Hid (dS t k=some l/\m.map (·.x)=l)/\Hid (VolOwn (V+1) wr g c m wr)/\Hid (Cs wr V [.int .i64 nx,.slice g k c])/\Hid (Cs wr w.heap.size [.int .i64 0,.slice none 0 0])/\Hid (wr.cell? ⟨bl,ol+1,none⟩=some (.int .i64 (n:Int)))/\Hid (Below w.heap.size w wr))
 case atStart=>exact⟨0,none,0,[],[],by omega,rfl,zH ⟨rfl,rfl⟩,zH (i7 _ _ _ zB (by omega)),xR,HR2,yf,HB2⟩
 case round =>
  obtain⟨k,g,c,l,m,hk,rfl,HL,HV,HX,HR,HN,HB⟩:=hrel;clear xR HR2 yf HB2;have QT:V<wr.heap.size:=HX.out.lt;have lc1:=HN.out;by_cases hlt:k<n
  ·have hi:(k:Int)<(n:Int):=by omega
   obtain⟨hL,hM⟩:=HL.out;have hlk:l.length=k:=(iH vJ.out hL).1;have hmk:m.length=k:=by rw[←hlk,←hM,List.length_map]
   obtain⟨b',off',e',Hm,hc⟩:=(Mg.out _ HB.out).at' (by have:=H17.out;omega);cases e';have hi2:1+(k:Int)<(t.length:Int):=by have:=H17.out;omega
   have hi0:(0:Int)<=1+(k:Int):=by omega
   have t1:=hc (1+k) (by simp;have:=H17.out;omega);rw[cE t (1+k) (by have:=H17.out;omega)] at t1;have hg1:t.getD (k+1) ByteArray.empty=t[1+k]'(by have:=H17.out;omega):=by rw[Nat.add_comm k 1,List.getD_eq_getElem?_getD,List.getElem?_eq_getElem (by have:=H17.out;omega)];rfl
   have hs1:=vJ.out (t[1+k]'(by have:=H17.out;omega)) (List.getElem_mem _);have HST:=zH (ow hL);rw[hg1] at HST;generalize t[1+k]'(by have:=H17.out;omega)=s1 at *;clear hc hg1 hL hlk;have Ga:=zH (HT.out.below HB.out zN);have xO:=zH (fun q hq=>HV.out.bl q hq);have HM:=zH hM;have t2:=t1;rw[Nat.add_comm 1 k] at t2;clear hM HL;go_wp2_with fail
   refine(mX s1 _ hs1 Ga.out).mono ?_;rintro e w5 ⟨ad,c5,rfl,hO⟩;have hb5:=hO.below;have HV5:=zH (HV.out.kept hb5);have yS:=zH (HX.out.below hb5);have Am:=zH (HR.out.below hb5);have Dc:=zH (aV HN.out hb5);have vg:=zH (HB.out.trans (hb5.mono HB.out.size));have xY:=zH hO;have y9:wr.heap.size<=w5.heap.size:=hb5.size;clear hO hb5 HV HX HR HN HB Ga lc1;obtain⟨pr,hpr⟩:∃x,fM s1.data.toList=x:=⟨_,rfl⟩;rw[hpr] at HST xY ⊢;clear hpr;obtain⟨x,ok⟩:=pr;dsimp only at HST xY ⊢;have wM:=zH (yS.out.alloc (.cells #[.int .i64 x.id,.int .i64 x.kind,.int .i64 x.links,.string x.data,.slice ad x.ents.length c5] 45));have zJ:=zH (Am.out.alloc (.cells #[.int .i64 x.id,.int .i64 x.kind,.int .i64 x.links,.string x.data,.slice ad x.ents.length c5] 45));have wu:=zH (vg.out.alloc vg.out.size (.cells #[.int .i64 x.id,.int .i64 x.kind,.int .i64 x.links,.string x.data,.slice ad x.ents.length c5] 45));have Hy:=zH (ar w5 45 #[.int .i64 x.id,.int .i64 x.kind,.int .i64 x.links,.string x.data,.slice ad x.ents.length c5]);cases ok with
   | false =>
    have HZ:Hid (aN t=(0,[],false)):=zH (fO (by
     have h:=HST.out;rw[if_neg (by decide)] at h;rw[Cy.out,qY h n (by omega)]))
    clear HST HV5 Dc xY yS Am vg Hy wM;have r0:=zJ.out.two;have wX:=zH ((zJ.out.set 0 (.int .i64 0)).set 1 (.slice none 0 0));have vI:=zH ((wu.out.setCell (p:=⟨w.heap.size,0,none⟩) zN (.int .i64 0)).setCell (p:=⟨w.heap.size,1,none⟩) zN (.slice none 0 0));go_wp2;exact eo wX.out (by rfl) (by rfl) (by rfl) (dz vI.out HZ.out)
   | true =>
    have Be:Hid (dS t (k+1)=some (l ++ [x])):=zH (by
     have h:=HST.out;rw[if_pos rfl] at h;exact h)
    clear HST;have Bc:=zH (HV5.out.alloc (.cells #[.int .i64 x.id,.int .i64 x.kind,.int .i64 x.links,.string x.data,.slice ad x.ents.length c5] 45));have yA:=zH (xY.out.alloc (.cells #[.int .i64 x.id,.int .i64 x.kind,.int .i64 x.links,.string x.data,.slice ad x.ents.length c5] 45));have Ep:=zH (aV Dc.out (az w5 (.cells #[.int .i64 x.id,.int .i64 x.kind,.int .i64 x.links,.string x.data,.slice ad x.ents.length c5] 45)));clear HV5 xY Dc yS Am vg;have x0:=wM.out.two;have i0:=Hy.out.five;have Oq:V<w5.heap.size:=by omega
    have DF:Hid (Own 45 5 (V+1) wr (.slice g k c) k (ins m) (w5.alloc (.cells #[.int .i64 x.id,.int .i64 x.kind,.int .i64 x.links,.string x.data,.slice ad x.ents.length c5] 45))):=zH (by have h:=Bc.out.top;rw[hmk] at h;exact h);have xq:Hid (∀q,(Value.slice g k c).ownBlock=some q->V+1<=q/\q<wr.heap.size):=zH (fun q hq=>xO.out q (.inl (by rw[hmk];exact hq)));have zK:Hid (∀W a9 c9,Own 45 5 (V+1) wr (.slice a9 (k+1) c9) (k+1) (ins m ++ #[.int .i64 x.id,.int .i64 x.kind,.int .i64 x.links,.string x.data,.slice ad x.ents.length c5].toList) W->(w5.alloc (.cells #[.int .i64 x.id,.int .i64 x.kind,.int .i64 x.links,.string x.data,.slice ad x.ents.length c5] 45)).grownBy W (Value.slice g k c).ownBlock ->
      Cs W V [.int .i64 nx,.slice g k c]/\Cs W w.heap.size [.int .i64 0,.slice none 0 0]/\W.cell? ⟨bl,ol+1,none⟩=some (.int .i64 (n:Int))/\Below w.heap.size w W/\VolOwn (V+1) wr a9 c9 (m ++ [⟨x,ad,c5⟩]) W):=zH (fun W a9 c9 ho hg=>⟨wM.out.grown hg (fun e=>by have:=(xq.out _ e).1;omega),zJ.out.grown hg (fun e=>by have:=(xq.out _ e).1;omega),ai Ep.out hg (fun e=>by have:=(xq.out _ e).1;omega),wu.out.grown hg wu.out.size (fun q hq=>by have:=(xq.out q hq).1;omega),by
       refine VolOwn.app Bc.out ⟨x,ad,c5⟩ ?_ ?_ ?_ ?_
       ·exact(bk yA.out (show V+1<=wr.heap.size by omega) zB (by omega)).other hg (fun q hq=>(xq.out q hq).1) (fun q hq e=>by have h1:=(xq.out q e).2;have h2:=(yA.out.blk q hq).1;omega)
       ·rw[hmk];exact ho
       ·rw[hmk];exact hg
       ·intro z hz q hq e;have h1:=(xO.out q (.inr ⟨z,hz,hq⟩)).2;have h2:=(yA.out.blk q e).1;omega⟩)
    clear Bc yA Ep wM zJ wu Hy;go_wp2_with (at_builtin;go_loud (refine d6 rfl _ _ 24 rfl 45 (.agg #[.int .i64 0,.int .i64 0,.int .i64 0,.string ByteArray.empty,.slice none 0 0]) 5 64 Tryz.underlying24 fa rfl (by decide) _ _ _ _ _ (by rfl) (by exact DF.out) _ _ _ (by rfl) (by first|rfl|simp) (by rfl) (by intro u hu;simp at hu;rcases hu with rfl|rfl|rfl|rfl|rfl <;> rfl) (by omega) (by unfold maxLen;omega) ?_);intro a9 c9 w9 vQ vZ wO;have HQ:=zH (zK.out _ _ _ vQ vZ);obtain⟨⟨y0,y1⟩,g0,g1⟩:=HQ.out.1.two;have Fp:=HQ.out.1.lt;clear vZ wO vQ)
    go_roundg (gk - 1)
    case measure=>omega
    case rel =>
     refine⟨k+1,_,_,_,m ++ [⟨x,ad,c5⟩],by omega,by go_num,zH ⟨Be.out,by rw[List.map_append,HM.out];rfl⟩,zH (HQ.out.2.2.2.2.low (ae _ V 1 _) (fun q hq e=>by have:=(HQ.out.2.2.2.2.bl q hq).1;have:=Option.some.inj e;omega)),zH (HQ.out.1.set 1 _),zH (HQ.out.2.1.far (by omega)),zH (ag HQ.out.2.2.1 (by omega)),zH (HQ.out.2.2.2.1.setCell (by dsimp only;omega) _)⟩
  ·have e:k=n:=by omega
   have hi:¬(k:Int)<(n:Int):=by omega
   rw[e] at HL HX;have Io:=(iH vJ.out HL.out.1).1;have hll:=gl (l:=l) (by omega) (iH vJ.out HL.out.1).2.1;have E8:Hid (gs t=some (nx,l)):=zH (by rw[Cy.out,HL.out.1]);have Hz:m.length=n:=by rw[←Io,←HL.out.2,List.length_map]
   have zn:Hid (VolRd wr g n c l):=zH (by have h:=HV.out.rd;rw[HL.out.2,Hz] at h;exact h);have Ey:=zH (And.intro (oF vJ.out HL.out.1) (iH vJ.out HL.out.1).2.2);have wJ:=zH (And.intro HL.out.2 Hz);have Gb:=zH (sZ (next:=nx) (l:=l) H17.out);clear e hlt hk Cy HL Hz;have x0:=HX.out.two;go_wp2_with fail
   refine(iN nx g n c l _ zn.out (fun x hx=>by have:=Ey.out.1 x hx;omega) (fun x hx s hs=>by have:=Ey.out.2 x hx s hs;omega) (by omega)).mono ?_;rintro e w3 ⟨a3,c3,rfl,hO3⟩;have hb3:=hO3.below;have HB3:=zH (HB.out.trans (hb3.mono HB.out.size));have Bn:=zH (HX.out.below hb3);have HR3:=zH (HR.out.below hb3);have Ao:=zH (HV.out.kept hb3);have HT3:=zH hO3.rd;clear hb3 hO3 HX HR HB zn HV HN lc1 x0;go_wp2_with fail
   refine(mx _ _ _ _ _ _ _ _ _ HT3.out (Mg.out _ HB3.out)).mono ?_;rintro e w4 ⟨rfl,hb4⟩;have vX:=zH (HB3.out.trans (hb4.mono HB3.out.size));have Af:=zH (Bn.out.below hb4);have HR4:=zH (HR3.out.below hb4);have AZ:=zH (Ao.out.kept hb4);have Bl:w.heap.size<w4.heap.size:=HR4.out.lt;clear hb4 HB3 Bn HR3 Ao HT3;have x0:=Af.out.two;have r0:=HR4.out.two;by_cases hbt:df nx l=t
   ·have HD:Hid (decide (df nx l=t)=true):=zH (decide_eq_true hbt);have Bh:=zH (ji (Gb.out.1 hbt).1 (Gb.out.1 hbt).2);clear hbt;rw[HD.out];have wX:=zH ((HR4.out.set 0 (.int .i64 nx)).set 1 (.slice g n c));have F8:Hid (gA t w (.returned (.tuple #[.agg #[.int .i64 nx,.slice g n c],.bool true])) ((w4.setCell ⟨w.heap.size,0,none⟩ (.int .i64 nx)).setCell ⟨w.heap.size,1,none⟩ (.slice g n c))):=zH (by
     unfold gA;rw[Bh.out];refine⟨g,c,m,by rw[wJ.out.2],wJ.out.1,?_⟩;refine cf ((AZ.out.low (ae _ w.heap.size 0 _) (fun q hq e=>by have:=(AZ.out.bl q hq).1;have:=Option.some.inj e;omega)).low (ae _ w.heap.size 1 _) (fun q hq e=>by have:=(AZ.out.bl q hq).1;have:=Option.some.inj e;omega)) (by omega) ((vX.out.setCell (p:=⟨w.heap.size,0,none⟩) zN (.int .i64 nx)).setCell (p:=⟨w.heap.size,1,none⟩) zN (.slice g n c)) ?_;have:=vX.out.size;simpa[World.setCell] using this)
    go_wp2;exact eo wX.out (by rfl) (by rfl) (by rfl) F8.out
   ·have HD:Hid (decide (df nx l=t)=false):=zH (decide_eq_false hbt);have HZ:=zH (po E8.out (fun h=>hbt (Gb.out.2 h)));clear hbt;rw[HD.out];have wX:=zH ((HR4.out.set 0 (.int .i64 0)).set 1 (.slice none 0 0));have vI:=zH ((vX.out.setCell (p:=⟨w.heap.size,0,none⟩) zN (.int .i64 0)).setCell (p:=⟨w.heap.size,1,none⟩) zN (.slice none 0 0));go_wp2;exact eo wX.out (by rfl) (by rfl) (by rfl) (dz vI.out HZ.out)
end Go.Proofs.YtlkfabkkjfmnmaaGreatDoor
