import Derived.Test.YtlkfabkkjfmnmaaGreatDoorZbt
namespace Go.Proofs.YtlkfabkkjfmnmaaGreatDoor
open Go.RowKit
set_option linter.all false
set_option maxRecDepth 1000000
set_option maxHeartbeats 6000000
theorem fN {o:Option (List UInt8)}{m:Nat}(h:∀l,o=some l->l.length<=m):∀l,(bO o).2=some l->l.length<=m:=by
 intro l hl;unfold bO at hl;cases o with
 | none=>cases hl
 | some r =>
  simp only at hl;split at hl
  ·cases hl
  ·cases hl;have:=h r rfl;rw[List.length_drop];omega
theorem pK {o:Option (List UInt8)}{n:Int}{m:Nat}(h:∀l,o=some l->l.length<=m):∀l,(eZ n o).2=some l->l.length<=m:=by
 intro l hl;unfold eZ at hl;cases o with
 | none=>cases hl
 | some r =>
  simp only at hl;split at hl
  ·cases hl;have:=h r rfl;rw[List.length_drop];omega
  ·cases hl
theorem su {o:Option (List UInt8)}{n:Int}{m:Nat}(h:∀l,o=some l->l.length<=m):∀l,(dW n o).2=some l->l.length<=m:=by
 intro l hl;unfold dW at hl;split at hl
 ·cases hl
 ·exact fN h l hl
theorem lz {o:Option (List UInt8)}{m:Nat}(h:∀l,o=some l->l.length<=m):∀l,(bZ o).2=some l->l.length<=m:=pK (fN h)
theorem qp (l:List UInt8):(dC l).size=l.length:=List.size_toArray
theorem mg {o:Option (List UInt8)}{m:Nat}(h:∀l,o=some l->l.length<=m):∀k,(∀e∈(bw o k).1,e.name.size<=m)/\(∀l,(bw o k).2=some l->l.length<=m):=by
 intro k;induction k with
 | zero=>exact⟨(fun e he=>by cases he),h⟩
 | succ k ih =>
  obtain⟨h1,h2⟩:=ih;have h3:=fN h2;refine⟨fun e he=>?_,fN (lz h3)⟩;rw[bw] at he;rcases List.mem_append.1 he with he|he
  ·exact h1 e he
  ·rw[List.mem_singleton] at he;subst he;show (dC _).size<=m;rw[qp];exact j2 h3
theorem nY (s:List UInt8)(m:Nat)(h:s.length<=m):(∀e∈(fi s).1.ents,e.name.size<=m)/\(fi s).1.ents.length<=12:=by
 have h0:∀l,some s=some l->l.length<=m:=fun l hl=>by cases hl;exact h
 have h1:=fN (fN (fN (pK (n:=1) h0)));refine⟨(mg (su (n:=12) (lz h1)) _).1,?_⟩;show (bw _ _).1.length<=12;rw[kF];have:=kC 12 (by omega) (rdD s).2;have e:(rdN s).1=(dW 12 (rdD s).2).1:=rfl;rw[e];omega
theorem fA {t:List ByteArray}{k:Nat}{l:List InoL}(hs:∀s∈t,s.size<=1048576)(h:dc t k=some l):l.length=k/\(∀x∈l,x.ents.length<=12)/\(∀x∈l,∀e∈x.ents,e.name.size<=1048576):=by
 induction k generalizing l with
 | zero=>rw[dc] at h;cases h;simp
 | succ k ih =>
  rw[dc] at h;split at h
  ·cases h
  ·rename_i l0 hl0
   obtain⟨h1,h2,h3⟩:=ih hl0;split at h
   ·cases h;have hsz:(t.getD (k+1) ByteArray.empty).size<=1048576:=by
     rw[List.getD_eq_getElem?_getD];cases hq:t[k+1]? with
     | none=>decide
     | some s=>exact hs s (List.mem_of_getElem? hq)
    have hr:=nY (t.getD (k+1) ByteArray.empty).data.toList 1048576 (by rw[eC];exact hsz);refine⟨by rw[List.length_append,h1];rfl,fun x hx=>?_,fun x hx=>?_⟩
    ·rcases List.mem_append.1 hx with hx|hx
     ·exact h2 x hx
     ·rw[List.mem_singleton] at hx;subst hx;exact hr.2
    ·rcases List.mem_append.1 hx with hx|hx
     ·exact h3 x hx
     ·rw[List.mem_singleton] at hx;subst hx;exact hr.1
   ·cases h
theorem oL {t:List ByteArray}{k:Nat}(h:dc t k=none):∀n,k<=n->dc t n=none:=by
 intro n hn;induction n with
 | zero=>have:k=0:=(by omega);subst this;exact h
 | succ n ih =>
  by_cases e:k=n+1
  ·subst e;exact h
  ·rw[dc,ih (by omega)]
theorem nk {t:List ByteArray}{k:Nat}{l:List InoL}(h:dc t k=some l):dc t (k+1)=if (fi (t.getD (k+1) ByteArray.empty).data.toList).2=true then some (l ++ [(fi (t.getD (k+1) ByteArray.empty).data.toList).1]) else none:=by rw[dc,h]
def gA (t:List ByteArray)(w:World)(e:Ending)(w':World):Prop := ∃(a:Option Addr) (c:Nat) (m:List InoP),e=.returned (.tuple #[.agg #[.int .i64 (aN t).1,.slice a m.length c],.bool (aN t).2.2])/\m.map (·.x)=(aN t).2.1/\VolOwn w.heap.size w a c m w'
theorem dz {t:List ByteArray}{w W:World}(hb:Below w.heap.size w W)(h:aN t=(0,[],false)):gA t w (.returned (.tuple #[.agg #[.int .i64 0,.slice none 0 0],.bool false])) W:=by
 unfold gA;rw[h];exact⟨none,0,[],rfl,rfl,i7 _ _ _ hb hb.size⟩
theorem mA (a b:Option Addr)(n m c d:Nat)(l t:List ByteArray)(w:World)(ha:Rd w a n c 1 (cR l))(hb:Rd w b m d 1 (cR t)) :
  Calls Tryz.prog 30 #[.slice a n c,.slice b m d] w fun e w'=>e=.returned (.bool (decide (l=t)))/\w=w':=by
 have hl:l.length=n:=by have:=ha.len;simpa using this
 have ht:t.length=m:=by have:=hb.len;simpa using this
 subst hl;subst ht;have hm:=Nat.le_trans ha.le ha.max;have hm2:=Nat.le_trans hb.le hb.max;unfold maxLen at hm hm2;have HA:=zH ha;have HC:=zH hb;clear ha hb;by_cases hlt:l.length=t.length
 rotate_left
 ·have HE:Hid (decide (l=t)=false):=zH (decide_eq_false (fun e=>hlt (by rw[e])));have hne:((l.length:Int) != (t.length:Int))=true:=by simp;omega
  clear hlt;go_enter Tryz.func30,Tryz.ntmps30
  go_wp2;go_ret;exact⟨ah HE.out.symm,rfl⟩
 have Bb:=zH hlt;have hne:((l.length:Int) != (t.length:Int))=false:=by simp;omega
 clear hlt;go_enter Tryz.func30,Tryz.ntmps30
 go_wp2;go_loopg [14] l.length (fun gg i wr => ∃k:Nat,k+gg=l.length/\i=.int .i64 (k:Int)/\Hid (∀j (h1:j<l.length) (h2:j<t.length),j<k->l[j]=t[j])/\wr=w)
 case atStart=>exact⟨0,by omega,rfl,zH (fun j _ _ h=>by omega),rfl⟩
 case round =>
  obtain⟨k,hk,rfl,HQ,rfl⟩:=hrel;by_cases hkl:k<l.length
  ·have hkt:k<t.length:=by have:=Bb.out;omega
   obtain⟨ba,oa,rfl,IA,F9⟩:=HA.out.at' (by omega);obtain⟨bb,ob,rfl,hbb,hcb⟩:=HC.out.at' (by omega);have a0:=F9 k (by simpa using hkl);have b0:=hcb k (by simpa using hkt);rw[cE l k hkl] at a0;rw[cE t k hkt] at b0;have hi:(k:Int)<(l.length:Int):=by omega
   have hi2:(k:Int)<(t.length:Int):=by omega
   have hi0:(0:Int)<=(k:Int):=by omega
   have HY:Hid (l[k].toList=t[k].toList->∀j (h1:j<l.length) (h2:j<t.length),j<k+1->l[j]=t[j]):=zH (fun h j h1 h2 h3=>by
    by_cases e:j=k
    ·subst e;rw[ByteArray.toList_eq,ByteArray.toList_eq] at h;have:=congrArg (fun z=>(⟨List.toArray z⟩:ByteArray)) h;simp only[gE] at this;exact this
    ·exact HQ.out j h1 h2 (by omega))
   have xP:Hid (¬l[k].toList=t[k].toList->decide (l=t)=false):=zH (fun h=>decide_eq_false (fun e=>h (by subst e;rfl)));clear F9 hcb;generalize l[k]=x at *;generalize t[k]=y at *;cases hq:(x.toList==y.toList) with
   | true =>
    have xG:=zH (HY.out (by simpa using hq));clear HY xP;go_wp2;go_roundg (gk - 1)
    case measure=>omega
    case rel=>exact⟨k+1,by omega,by go_num,xG,rfl⟩
   | false =>
    have HE:=zH (xP.out (by simpa using hq));clear HY xP;go_wp2;go_ret;exact⟨ah HE.out.symm,rfl⟩
  ·obtain rfl:k=l.length:=by omega
   have HE:Hid (decide (l=t)=true):=zH (decide_eq_true (List.ext_getElem Bb.out (fun j h1 h2=>HQ.out j h1 h2 h1)));go_wp2;go_ret;exact⟨ah HE.out.symm,rfl⟩
theorem eq {Post:Ending->World->Prop}{a:Act}{wf:World}{R:Nat}{u0:Int}{u1:Value}{b:Bool}(hc:Cs wf R [.int .i64 u0,u1])(h2:a.tmps[2]?.getD undef=.pointer (some ⟨R,0,none⟩))(h3:a.tmps[3]?.getD undef=.bool b)(hd:a.defers = [])
  (hp:Post (.returned (.tuple #[.agg #[.int .i64 u0,u1],.bool b])) wf):bodyPost Tryz.prog Tryz.f8 Post Exit.ret a wf:=by
 obtain⟨⟨r0,r1⟩,-⟩:=hc.two;exact bodyPost_ret (v:=.tuple #[.agg #[.int .i64 u0,u1],.bool b]) (by simp[results,Tryz.results8,go_sem,h2,h3,r0,r1]) hd hp
theorem dI (a:Option Addr)(n cap:Nat)(t:List ByteArray)(w:World)(hr:Rd w a n cap 1 (cR t))(hs:∀s∈t,s.size<=1048576)(hT:KTab w) :
  Calls Tryz.prog 8 #[.slice a n cap] w (gA t w):=by
 have hl:t.length=n:=by have:=hr.len;simpa using this
 subst hl;have hm:=Nat.le_trans hr.le hr.max;unfold maxLen at hm;have wC:=zH (ar w 26 #[.int .i64 0,.slice none 0 0]);have HB0:=zH (az w (.cells #[.int .i64 0,.slice none 0 0] 26));have Dl:=zH (hr.below HB0.out zN);have Mg:Hid (∀W,Below w.heap.size w W->Rd W a t.length cap 1 (cR t)):=zH (fun W h=>hr.below h zN);have HT:=zH hT;have vJ:=zH hs;clear hr hT hs;by_cases Er:t.length=17
 rotate_left
 ·have HZ:=zH (ik (t:=t) (by unfold fw;rw[if_neg Er]));have hne:((t.length:Int) != 17)=true:=by simp;omega
  have r0:=wC.out.two;have wX:Hid (Cs (((w.alloc (.cells #[.int .i64 0,.slice none 0 0] 26)).setCell ⟨w.heap.size,0,none⟩ (.int .i64 0)).setCell ⟨w.heap.size,1,none⟩ (.slice none 0 0)) w.heap.size [.int .i64 0,.slice none 0 0]):=zH ((wC.out.set 0 _).set 1 _);have vI:=zH ((HB0.out.setCell (p:=⟨w.heap.size,0,none⟩) zN (.int .i64 0)).setCell (p:=⟨w.heap.size,1,none⟩) zN (.slice none 0 0));clear Er;go_enter Tryz.func8,Tryz.ntmps8
  go_wp2;first|exact eq wX.out (by rfl) (by rfl) (by rfl) (dz vI.out HZ.out)|exact eq wC.out (by rfl) (by rfl) (by rfl) (dz HB0.out HZ.out)
 have Bo:Hid (fw t=match dc t (rdM t).1.toNat with
  | none=>none
  | some l=>if (rdM t).2=none then none else some ((rdX t).1,l)):=zH (by unfold fw;rw[if_pos Er];rfl)
 have hne:((t.length:Int) != 17)=false:=by simp;omega
 have Om:(t.length:Int)=17:=by omega
 have hnr:=kC 16 (by omega) (rdX t).2;rw[show dW 16 (rdX t).2=rdM t from rfl] at hnr;have xM:=zH (And.intro (show bO (eZ 1 (some (t.getD 0 ByteArray.empty).data.toList)).2=rdX t from rfl) (show dW 16 (rdX t).2=rdM t from rfl));obtain⟨b,off,rfl,hbs,hc⟩:=Dl.out.at' (by omega);have t0:=hc 0 (by simp;omega);rw[cE t 0 (by omega),Nat.add_zero] at t0;have hg0:t.getD 0 ByteArray.empty=t[0]'(by omega):=by rw[List.getD_eq_getElem?_getD,List.getElem?_eq_getElem (by omega)];rfl
 have hs0:=vJ.out (t[0]'(by omega)) (List.getElem_mem _);rw[hg0] at xM;generalize t[0]'(by omega)=s0 at *;clear hc hg0;have hsc:ScanAt ((w.alloc (.cells #[.int .i64 0,.slice none 0 0] 26)).alloc (.cells #[.string s0,.bool false] 50)) (w.heap.size+1) (some s0.data.toList) s0.size:=by
  have h:=ar (w.alloc (.cells #[.int .i64 0,.slice none 0 0] 26)) 50 #[.string s0,.bool false];have e:(w.alloc (.cells #[.int .i64 0,.slice none 0 0] 26)).heap.size=w.heap.size+1:=by simp
  rw[e] at h;obtain⟨h1,h2⟩:=Cs.two h;exact⟨s0,false,h1.1,h1.2,h2,zN,rfl⟩
 have Ag:=zH hsc;have HR1:=zH (wC.out.alloc (.cells #[.string s0,.bool false] 50));have HB1:=zH (HB0.out.alloc (by simp) (.cells #[.string s0,.bool false] 50));clear hsc wC HB0;have H17:=zH Er;clear Er;have Oo:w.heap.size+1<((w.alloc (.cells #[.int .i64 0,.slice none 0 0] 26)).alloc (.cells #[.string s0,.bool false] 50)).heap.size:=Ag.out.lt;go_enter Tryz.func8,Tryz.ntmps8
 go_wp2_with fail
 refine(jo _ _ _ _ _ Ag.out (by omega)).mono ?_;rintro e w1 ⟨rfl,hS,hG⟩;have Hg:=zH hS;have HR2:=zH (HR1.out.grown hG (fun e=>by have:=Option.some.inj e;omega));have HB2:=zH (HB1.out.grown hG HB1.out.size (fun q hq=>by cases hq;omega));clear hS hG Ag HR1 HB1 Oo;generalize (eZ 1 (some s0.data.toList)).1=junk at *;generalize (eZ 1 (some s0.data.toList)).2=o1 at *;go_wp2_with fail
 refine(dN _ _ _ _ Hg.out (by omega)).mono ?_;rintro e w2 ⟨rfl,hS,hG⟩;rw[xM.out.1] at hS;rw[xM.out.1];have HR3:=zH (HR2.out.grown hG (fun e=>by have:=Option.some.inj e;omega));have HB3:=zH (HB2.out.grown hG HB2.out.size (fun q hq=>by cases hq;omega));have EE:=zH hS;have hz3:w.heap.size+1<w2.heap.size:=hS.lt;replace xM:=zH xM.out.2;clear hS hG Hg HR2 HB2;generalize (rdX t).1=nx at *;generalize (rdX t).2=ox at *;have Bn:=zH (ar w2 26 #[.int .i64 nx,.slice none 0 0]);go_wp2_with fail
 refine(kK _ _ 16 _ _ (iY EE.out _) (by omega) (by omega) (by omega)).mono ?_;rintro e w4 ⟨rfl,hS,hG⟩;rw[xM.out] at hS;rw[xM.out];have HR4:=zH ((HR3.out.alloc (.cells #[.int .i64 nx,.slice none 0 0] 26)).grown hG (fun e=>by have:=Option.some.inj e;omega));have Af:=zH (Bn.out.grown hG (fun e=>by have:=Option.some.inj e;omega));have vX:=zH ((HB3.out.alloc HB3.out.size (.cells #[.int .i64 nx,.slice none 0 0] 26)).grown hG (by simp;omega) (fun q hq=>by cases hq;omega));have EX:=zH hS;have Bl:w2.heap.size<w4.heap.size:=Af.out.lt;clear hS hG EE HR3 HB3 Bn xM;generalize hV:w2.heap.size=V at *;clear hV;obtain⟨nn,hnn⟩:∃x,(rdM t).1=x:=⟨_,rfl⟩;rw[hnn] at hnr Bo ⊢;clear hnn;obtain⟨n,rfl⟩:=Int.eq_ofNat_of_zero_le hnr.1;have hn16:n<=16:=by omega
 rw[Int.toNat_natCast] at Bo;clear hnr;generalize (rdM t).2=o3 at *;have RG:w.heap.size+1<V:=by omega
 go_wp2;go_loopg [27] n (fun gg i wr => ∃(k:Nat) (g:Option Addr) (c:Nat) (l:List InoL) (m:List InoP),k+gg=n/\i=.int .i64 (k:Int)/\Hid (dc t k=some l/\m.map (·.x)=l)/\Hid (VolOwn (V+1) wr g c m wr)/\Hid (Cs wr V [.int .i64 nx,.slice g k c])/\Hid (Cs wr w.heap.size [.int .i64 0,.slice none 0 0])/\Hid (ScanAt wr (w.heap.size+1) o3 s0.size)/\Hid (Below w.heap.size w wr))
 case atStart=>exact⟨0,none,0,[],[],by omega,rfl,zH ⟨rfl,rfl⟩,zH (i7 _ _ _ zB (by omega)),Af,HR4,EX,vX⟩
 case round =>
  obtain⟨k,g,c,l,m,hk,rfl,HL,HV,HX,HR,HS,HB⟩:=hrel;clear Af HR4 EX vX;have QT:V<wr.heap.size:=HX.out.lt;by_cases hlt:k<n
  ·have hi:(k:Int)<(n:Int):=by omega
   obtain⟨hL,hM⟩:=HL.out;have hlk:l.length=k:=(fA vJ.out hL).1;have hmk:m.length=k:=by rw[←hlk,←hM,List.length_map]
   obtain⟨b',off',e',Hm,hc⟩:=(Mg.out _ HB.out).at' (by have:=H17.out;omega);cases e';have hi2:(k:Int)+1<(t.length:Int):=by have:=H17.out;omega
   have hi0:(0:Int)<=(k:Int)+1:=by omega
   have t1:=hc (k+1) (by simp;have:=H17.out;omega);rw[cE t (k+1) (by have:=H17.out;omega)] at t1;have hg1:t.getD (k+1) ByteArray.empty=t[k+1]'(by have:=H17.out;omega):=by rw[List.getD_eq_getElem?_getD,List.getElem?_eq_getElem (by have:=H17.out;omega)];rfl
   have hs1:=vJ.out (t[k+1]'(by have:=H17.out;omega)) (List.getElem_mem _);have HST:=zH (nk hL);rw[hg1] at HST;generalize t[k+1]'(by have:=H17.out;omega)=s1 at *;clear hc hg1 hL hlk;have Ga:=zH (HT.out.below HB.out zN);have xO:=zH (fun q hq=>HV.out.bl q hq);have HM:=zH hM;clear hM HL;go_wp2_with fail
   refine(mU s1 _ hs1 Ga.out).mono ?_;rintro e w5 ⟨ad,c5,rfl,hO⟩;have hb5:=hO.below;have HV5:=zH (HV.out.kept hb5);have yS:=zH (HX.out.below hb5);have Am:=zH (HR.out.below hb5);have Dc:=zH (HS.out.below hb5);have vg:=zH (HB.out.trans (hb5.mono HB.out.size));have xY:=zH hO;have y9:wr.heap.size<=w5.heap.size:=hb5.size;clear hO hb5 HV HX HR HS HB Ga;obtain⟨pr,hpr⟩:∃x,fi s1.data.toList=x:=⟨_,rfl⟩;rw[hpr] at HST xY ⊢;clear hpr;obtain⟨x,ok⟩:=pr;dsimp only at HST xY ⊢;have wM:=zH (yS.out.alloc (.cells #[.int .i64 x.id,.int .i64 x.kind,.int .i64 x.links,.string x.data,.slice ad x.ents.length c5] 45));have zJ:=zH (Am.out.alloc (.cells #[.int .i64 x.id,.int .i64 x.kind,.int .i64 x.links,.string x.data,.slice ad x.ents.length c5] 45));have wu:=zH (vg.out.alloc vg.out.size (.cells #[.int .i64 x.id,.int .i64 x.kind,.int .i64 x.links,.string x.data,.slice ad x.ents.length c5] 45));have Hy:=zH (ar w5 45 #[.int .i64 x.id,.int .i64 x.kind,.int .i64 x.links,.string x.data,.slice ad x.ents.length c5]);cases ok with
   | false =>
    have HZ:Hid (aN t=(0,[],false)):=zH (ik (by
     have h:=HST.out;rw[if_neg (by decide)] at h;rw[Bo.out,oL h n (by omega)]))
    clear HST HV5 Dc xY yS Am vg Hy wM;have r0:=zJ.out.two;have wX:=zH ((zJ.out.set 0 (.int .i64 0)).set 1 (.slice none 0 0));have vI:=zH ((wu.out.setCell (p:=⟨w.heap.size,0,none⟩) zN (.int .i64 0)).setCell (p:=⟨w.heap.size,1,none⟩) zN (.slice none 0 0));go_wp2;exact eq wX.out (by rfl) (by rfl) (by rfl) (dz vI.out HZ.out)
   | true =>
    have Be:Hid (dc t (k+1)=some (l ++ [x])):=zH (by
     have h:=HST.out;rw[if_pos rfl] at h;exact h)
    clear HST;have Bc:=zH (HV5.out.alloc (.cells #[.int .i64 x.id,.int .i64 x.kind,.int .i64 x.links,.string x.data,.slice ad x.ents.length c5] 45));have yA:=zH (xY.out.alloc (.cells #[.int .i64 x.id,.int .i64 x.kind,.int .i64 x.links,.string x.data,.slice ad x.ents.length c5] 45));have Ep:=zH (iY Dc.out (.cells #[.int .i64 x.id,.int .i64 x.kind,.int .i64 x.links,.string x.data,.slice ad x.ents.length c5] 45));clear HV5 xY Dc yS Am vg;have x0:=wM.out.two;have i0:=Hy.out.five;have Oq:V<w5.heap.size:=by omega
    have DF:Hid (Own 45 5 (V+1) wr (.slice g k c) k (ins m) (w5.alloc (.cells #[.int .i64 x.id,.int .i64 x.kind,.int .i64 x.links,.string x.data,.slice ad x.ents.length c5] 45))):=zH (by have h:=Bc.out.top;rw[hmk] at h;exact h);have xq:Hid (∀q,(Value.slice g k c).ownBlock=some q->V+1<=q/\q<wr.heap.size):=zH (fun q hq=>xO.out q (.inl (by rw[hmk];exact hq)));have zK:Hid (∀W a9 c9,Own 45 5 (V+1) wr (.slice a9 (k+1) c9) (k+1) (ins m ++ #[.int .i64 x.id,.int .i64 x.kind,.int .i64 x.links,.string x.data,.slice ad x.ents.length c5].toList) W->(w5.alloc (.cells #[.int .i64 x.id,.int .i64 x.kind,.int .i64 x.links,.string x.data,.slice ad x.ents.length c5] 45)).grownBy W (Value.slice g k c).ownBlock ->
      Cs W V [.int .i64 nx,.slice g k c]/\Cs W w.heap.size [.int .i64 0,.slice none 0 0]/\ScanAt W (w.heap.size+1) o3 s0.size/\Below w.heap.size w W/\VolOwn (V+1) wr a9 c9 (m ++ [⟨x,ad,c5⟩]) W):=zH (fun W a9 c9 ho hg=>⟨wM.out.grown hg (fun e=>by have:=(xq.out _ e).1;omega),zJ.out.grown hg (fun e=>by have:=(xq.out _ e).1;omega),ka Ep.out hg (fun e=>by have:=(xq.out _ e).1;omega),wu.out.grown hg wu.out.size (fun q hq=>by have:=(xq.out q hq).1;omega),by
       refine VolOwn.app Bc.out ⟨x,ad,c5⟩ ?_ ?_ ?_ ?_
       ·exact(bk yA.out (show V+1<=wr.heap.size by omega) zB (by omega)).other hg (fun q hq=>(xq.out q hq).1) (fun q hq e=>by have h1:=(xq.out q e).2;have h2:=(yA.out.blk q hq).1;omega)
       ·rw[hmk];exact ho
       ·rw[hmk];exact hg
       ·intro z hz q hq e;have h1:=(xO.out q (.inr ⟨z,hz,hq⟩)).2;have h2:=(yA.out.blk q e).1;omega⟩)
    clear Bc yA Ep wM zJ wu Hy;go_wp2_with (at_builtin;go_loud (refine d6 rfl _ _ 24 rfl 45 (.agg #[.int .i64 0,.int .i64 0,.int .i64 0,.string ByteArray.empty,.slice none 0 0]) 5 64 Tryz.underlying24 fa rfl (by decide) _ _ _ _ _ (by rfl) (by exact DF.out) _ _ _ (by rfl) (by first|rfl|simp) (by rfl) (by intro u hu;simp at hu;rcases hu with rfl|rfl|rfl|rfl|rfl <;> rfl) (by omega) (by unfold maxLen;omega) ?_);intro a9 c9 w9 vQ vZ wO;have HQ:=zH (zK.out _ _ _ vQ vZ);obtain⟨⟨y0,y1⟩,g0,g1⟩:=HQ.out.1.two;have Fp:=HQ.out.1.lt;clear vZ wO vQ)
    go_roundg (gk - 1)
    case measure=>omega
    case rel =>
     refine⟨k+1,_,_,_,m ++ [⟨x,ad,c5⟩],by omega,by go_num,zH ⟨Be.out,by rw[List.map_append,HM.out];rfl⟩,zH (HQ.out.2.2.2.2.low (ae _ V 1 _) (fun q hq e=>by have:=(HQ.out.2.2.2.2.bl q hq).1;have:=Option.some.inj e;omega)),zH (HQ.out.1.set 1 _),zH (HQ.out.2.1.far (by omega)),zH (f9 HQ.out.2.2.1 (by omega)),zH (HQ.out.2.2.2.1.setCell (by dsimp only;omega) _)⟩
  ·have e:k=n:=by omega
   have hi:¬(k:Int)<(n:Int):=by omega
   rw[e] at HL HX;have Io:=(fA vJ.out HL.out.1).1;have hll:=gl (l:=l) (by omega) (fA vJ.out HL.out.1).2.1;have Cy:Hid (fw t=if o3=none then none else some (nx,l)):=zH (by rw[Bo.out,HL.out.1]);have Hz:m.length=n:=by rw[←Io,←HL.out.2,List.length_map]
   have zn:Hid (VolRd wr g n c l):=zH (by have h:=HV.out.rd;rw[HL.out.2,Hz] at h;exact h);have Ey:=zH (And.intro (fA vJ.out HL.out.1).2.1 (fA vJ.out HL.out.1).2.2);have Ga:=zH (HT.out.below HB.out zN);have wJ:=zH (And.intro HL.out.2 Hz);clear e hlt hk Bo HL Hz;have x0:=HX.out.two;have r0:=HR.out.two;have s1:=pQ HS.out;have CZ:w.heap.size+1<wr.heap.size:=HS.out.lt;cases o3 with
   | none =>
    have HZ:=zH (ik (t:=t) (by rw[Cy.out,if_pos rfl]));have wX:=zH ((HR.out.set 0 (.int .i64 0)).set 1 (.slice none 0 0));have vI:=zH ((HB.out.setCell (p:=⟨w.heap.size,0,none⟩) zN (.int .i64 0)).setCell (p:=⟨w.heap.size,1,none⟩) zN (.slice none 0 0));go_wp2;exact eq wX.out (by rfl) (by rfl) (by rfl) (dz vI.out HZ.out)
   | some rest =>
    have E8:Hid (fw t=some (nx,l)):=zH (by rw[Cy.out,if_neg (by simp)]);clear Cy;go_wp2_with fail
    refine(g7 nx g n c l _ zn.out (fun x hx s hs=>by have:=Ey.out.2 x hx s hs;omega) (by omega) Ga.out).mono ?_;rintro e w2 ⟨rfl,hb2⟩;have xR:=zH (HX.out.below hb2);have HR2:=zH (HR.out.below hb2);have HB2:=zH (HB.out.trans (hb2.mono HB.out.size));have Mh:=zH (zn.out.step hb2);have yT:=zH (HV.out.kept hb2);have hz2:w.heap.size<w2.heap.size:=HR2.out.lt;clear hb2 HX HR HB zn HV HS s1 x0 r0 Ga;have x0:=xR.out.two;have r0:=HR2.out.two;cases hvb:bQ nx l with
    | false =>
     have HZ:=zH (kv E8.out (fun h=>by rw[hvb] at h;exact absurd h.1 (by decide)));have wX:=zH ((HR2.out.set 0 (.int .i64 0)).set 1 (.slice none 0 0));have vI:=zH ((HB2.out.setCell (p:=⟨w.heap.size,0,none⟩) zN (.int .i64 0)).setCell (p:=⟨w.heap.size,1,none⟩) zN (.slice none 0 0));go_wp2;exact eq wX.out (by rfl) (by rfl) (by rfl) (dz vI.out HZ.out)
    | true =>
     have vo:=zH hvb;clear hvb;go_wp2_with fail
     refine(gB nx g n c l _ Mh.out (fun x hx=>?_) (fun x hx s hs=>by have:=Ey.out.2 x hx s hs;omega) (fun x hx=>by have:=Ey.out.1 x hx;omega)).mono ?_
     ·obtain⟨j,hj,rfl⟩:=List.mem_iff_getElem.1 hx;have:=(gK ((fc vo.out).2.2 j hj).2).2.2.1;omega
     rintro e w3 ⟨a3,c3,rfl,hO3⟩;have hb3:=hO3.below;have HB3:=zH (HB2.out.trans (hb3.mono HB2.out.size));have Bn:=zH (xR.out.below hb3);have HR3:=zH (HR2.out.below hb3);have Ao:=zH (yT.out.kept hb3);have HT3:=zH hO3.rd;clear hb3 hO3 xR HR2 HB2 Mh yT x0 r0;have x0:=Bn.out.two;have r0:=HR3.out.two;go_wp2_with fail
     refine(mA _ _ _ _ _ _ _ _ _ HT3.out (Mg.out _ HB3.out)).mono ?_;rintro e w4 ⟨rfl,rfl⟩;by_cases hbt:bI nx l=t
     ·have HD:Hid (decide (bI nx l=t)=true):=zH (decide_eq_true hbt);have Bh:=zH (ji vo.out hbt);clear hbt;rw[HD.out];have wX:=zH ((HR3.out.set 0 (.int .i64 nx)).set 1 (.slice g n c));have F8:Hid (gA t w (.returned (.tuple #[.agg #[.int .i64 nx,.slice g n c],.bool true])) ((w3.setCell ⟨w.heap.size,0,none⟩ (.int .i64 nx)).setCell ⟨w.heap.size,1,none⟩ (.slice g n c))):=zH (by
       unfold gA;rw[Bh.out];refine⟨g,c,m,by rw[wJ.out.2],wJ.out.1,?_⟩;refine cf ((Ao.out.low (ae _ w.heap.size 0 _) (fun q hq e=>by have:=(Ao.out.bl q hq).1;have:=Option.some.inj e;omega)).low (ae _ w.heap.size 1 _) (fun q hq e=>by have:=(Ao.out.bl q hq).1;have:=Option.some.inj e;omega)) (by omega) ((HB3.out.setCell (p:=⟨w.heap.size,0,none⟩) zN (.int .i64 nx)).setCell (p:=⟨w.heap.size,1,none⟩) zN (.slice g n c)) ?_;have:=HB3.out.size;simpa[World.setCell] using this)
      go_wp2;exact eq wX.out (by rfl) (by rfl) (by rfl) F8.out
     ·have HD:Hid (decide (bI nx l=t)=false):=zH (decide_eq_false hbt);have HZ:=zH (kv E8.out (fun h=>hbt h.2));clear hbt;rw[HD.out];have wX:=zH ((HR3.out.set 0 (.int .i64 0)).set 1 (.slice none 0 0));have vI:=zH ((HB3.out.setCell (p:=⟨w.heap.size,0,none⟩) zN (.int .i64 0)).setCell (p:=⟨w.heap.size,1,none⟩) zN (.slice none 0 0));go_wp2;exact eq wX.out (by rfl) (by rfl) (by rfl) (dz vI.out HZ.out)
end Go.Proofs.YtlkfabkkjfmnmaaGreatDoor
