import Derived.Test.YtlkfabkkjfmnmaaGreatDoorZap
import Derived.Test.YtlkfabkkjfmnmaaGreatDoorZbs
import Derived.Test.YtlkfabkkjfmnmaaGreatDoorZbw
namespace Go.Proofs.YtlkfabkkjfmnmaaGreatDoor
open Go.RowKit
set_option linter.all false
set_option maxRecDepth 1000000
set_option maxHeartbeats 6000000
theorem hY (a b:Option Addr)(n m c d:Nat)(l:List ByteArray)(w:World)(ha:Rd w a n c 1 (cR l))(hb:Rd w b m d 1 (cR l))(hn:n<=1073741824) :
  Calls Tryz.prog 20 #[.slice a n c,.slice b m d] w fun e w'=>e=.returned (.bool true)/\Below w.heap.size w w':=by
 have hl:l.length=n:=by have:=ha.len;simpa using this
 have hl2:l.length=m:=by have:=hb.len;simpa using this
 subst hl;subst hl2;go_enter Tryz.func20,Tryz.ntmps20
 go_wp2;go_loopg [5] l.length (fun gg i wr => ∃k:Nat,k+gg=l.length/\i=.int .i64 k/\Below w.heap.size w wr)
 case atStart=>exact⟨0,by omega,rfl,zB⟩
 case round =>
  obtain⟨k,hk,rfl,hB⟩:=hrel;by_cases hlt:k<l.length
  ·obtain⟨ba,oa,rfl,IA,F9⟩:=ha.at' (by omega);obtain⟨bb,ob,rfl,hbb,hcb⟩:=hb.at' (by omega);have hc1:=F9 k (by simpa using hlt);have hc2:=hcb k (by simpa using hlt);rw[←hB.cell (p:=⟨ba,oa+k,none⟩) (by exact IA),cE l k hlt] at hc1;rw[←hB.cell (p:=⟨bb,ob+k,none⟩) (by exact hbb),cE l k hlt] at hc2;have hi:(k:Int)<(l.length:Int):=by omega
   have hi0:(0:Int)<=(k:Int):=by omega
   clear F9 hcb ha hb;go_wp2;go_quiet (fail)
   go_wp2;go_roundg (gk - 1)
   case measure=>omega
   case rel=>exact⟨k+1,by omega,by go_num,below_drewN hB _⟩
  ·go_wp2;go_ret;exact⟨rfl,hB⟩
theorem nQ (next:Int)(a b:Option Addr)(n m c d:Nat)(l:List InoL)(w:World)(ha:VolRd w a n c l)(hb:VolRd w b m d l)(hn:n<=1000)(hne:∀x∈l,x.ents.length<=1000) :
  Calls Tryz.prog 18 #[.agg #[.int .i64 next,.slice a n c],.agg #[.int .i64 next,.slice b m d]] w fun e w'=>e=.returned (.bool true)/\Below w.heap.size w w':=by
 have hl:l.length=n:=ha.len;have hl2:l.length=m:=hb.len;subst hl;subst hl2;have HA:=zH ha;have HC:=zH hb;have wY:=zH hne;have HX0:=zH ((ar w 26 #[.int .i64 next,.slice a l.length c]).alloc (.cells #[.int .i64 next,.slice b l.length d] 26));have wW:Hid (Cs ((w.alloc (.cells #[.int .i64 next,.slice a l.length c] 26)).alloc (.cells #[.int .i64 next,.slice b l.length d] 26)) (w.heap.size+1) [.int .i64 next,.slice b l.length d]):=zH (by have:=ar (w.alloc (.cells #[.int .i64 next,.slice a l.length c] 26)) 26 #[.int .i64 next,.slice b l.length d];simpa using this);have HB0:=zH ((az w (.cells #[.int .i64 next,.slice a l.length c] 26)).alloc (by simp) (.cells #[.int .i64 next,.slice b l.length d] 26));clear ha hb hne;go_enter Tryz.func18,Tryz.ntmps18
 go_upto_region 1 with fail
 generalize (w.alloc (.cells #[.int .i64 next,.slice a l.length c] 26)).alloc (.cells #[.int .i64 next,.slice b l.length d] 26)=w1 at *;obtain⟨⟨p0,p1⟩,-⟩:=HX0.out.two;obtain⟨⟨q0,q1⟩,-⟩:=wW.out.two;go_wp2;clear p0 p1 q0 q1;go_loopg [5] l.length (fun gg i wr => ∃k:Nat,k+gg=l.length/\i=.int .i64 (k:Int)/\Hid (Below w.heap.size w wr)/\Hid (Cs wr w.heap.size [.int .i64 next,.slice a l.length c])/\Hid (Cs wr (w.heap.size+1) [.int .i64 next,.slice b l.length d]))
 case atStart=>exact⟨0,by omega,rfl,HB0,HX0,wW⟩
 case round =>
  clear HB0 HX0 wW;obtain⟨k,hk,rfl,HB,HX,HY⟩:=hrel;obtain⟨⟨p0,p1⟩,-⟩:=HX.out.two;obtain⟨⟨q0,q1⟩,-⟩:=HY.out.two;by_cases hlt:k<l.length
  ·obtain⟨ba,oa,aa,ca,rfl,IA,a0,a1,a2,a3,a4,ra⟩:=bF (HA.out.step HB.out) k hlt;obtain⟨bb,ob,ab,cb,rfl,hbb,b0,b1,b2,b3,b4,rb⟩:=bF (HC.out.step HB.out) k hlt;have hne:=wY.out l[k] (List.getElem_mem hlt);have Iq:=zH ra;have y7:=zH rb;have hi:(k:Int)<(l.length:Int):=by omega
   have hi0:(0:Int)<=(k:Int):=by omega
   have hxl:=HX.out.lt;have hyl:=HY.out.lt;clear ra rb;have Pz:Hid (∃es,es=l[k].ents):=zH ⟨_,rfl⟩;obtain⟨es,hes⟩:=Pz.out;rw[←hes] at hne Iq y7 a4 b4;clear hes Pz;generalize l[k].id=x0 at *;generalize l[k].kind=x1 at *;generalize l[k].links=x2 at *;generalize l[k].data=x3 at *;have H5:=zH ((ar wr 45 #[.int .i64 x0,.int .i64 x1,.int .i64 x2,.string x3,.slice aa es.length ca]).alloc (.cells #[.int .i64 x0,.int .i64 x1,.int .i64 x2,.string x3,.slice ab es.length cb] 45));have EA:Hid (Cs ((wr.alloc (.cells #[.int .i64 x0,.int .i64 x1,.int .i64 x2,.string x3,.slice aa es.length ca] 45)).alloc (.cells #[.int .i64 x0,.int .i64 x1,.int .i64 x2,.string x3,.slice ab es.length cb] 45)) (wr.heap.size+1) [.int .i64 x0,.int .i64 x1,.int .i64 x2,.string x3,.slice ab es.length cb]):=zH (by have:=ar (wr.alloc (.cells #[.int .i64 x0,.int .i64 x1,.int .i64 x2,.string x3,.slice aa es.length ca] 45)) 45 #[.int .i64 x0,.int .i64 x1,.int .i64 x2,.string x3,.slice ab es.length cb];simpa using this);have Co:=zH ((az wr (.cells #[.int .i64 x0,.int .i64 x1,.int .i64 x2,.string x3,.slice aa es.length ca] 45)).alloc (by simp) (.cells #[.int .i64 x0,.int .i64 x1,.int .i64 x2,.string x3,.slice ab es.length cb] 45));go_upto_region 8 with fail
   clear p0 p1 q0 q1 a0 a1 a2 a3 a4 b0 b1 b2 b3 b4;generalize (wr.alloc (.cells #[.int .i64 x0,.int .i64 x1,.int .i64 x2,.string x3,.slice aa es.length ca] 45)).alloc (.cells #[.int .i64 x0,.int .i64 x1,.int .i64 x2,.string x3,.slice ab es.length cb] 45)=w8 at *;obtain⟨⟨y0,y1,y2,y3,y4⟩,-⟩:=H5.out.five;obtain⟨⟨z0,z1,z2,z3,z4⟩,-⟩:=EA.out.five;have RO:(x3.toList != x3.toList)=false:=by simp
   go_wp2_with fail
   refine(nG aa ab ca cb es _ (Iq.out.below Co.out zN) (y7.out.below Co.out zN) (by omega)).mono ?_;rintro e w9 ⟨rfl,hb⟩;have vD:=zH (ac Co.out hb);clear hb y0 y1 y2 y3 y4 z0 z1 z2 z3 z4 H5 EA;go_wp2;go_roundg (gk - 1)
   case measure=>omega
   case rel=>exact⟨k+1,by omega,by go_num,zH (ac HB.out vD.out),zH (HX.out.below vD.out),zH (HY.out.below vD.out)⟩
  ·go_wp2;go_ret;exact⟨rfl,HB.out⟩
theorem qM (next:Int)(l:List InoL):(bQ next l=true->df next l=bI next l/\aN (df next l)=(next,l,true))/\(bQ next l=false->df next l = []/\aN (df next l)=(0,[],false)):=by
 refine⟨fun h=>?_,fun h=>?_⟩
 ·have e:df next l=bI next l:=by unfold df;rw[if_pos h]
  exact⟨e,by rw[e];exact ji h rfl⟩
 ·have e:df next l = []:=by unfold df;rw[if_neg (by rw[h];simp)]
  refine⟨e,?_⟩;rw[e];cases hr:(aN []).2.2 with
  | false=>exact iC [] hr
  | true =>
   obtain⟨h1,h2⟩:=(eg [] (aN []).1 (aN []).2.1).1 (by rw[←hr]);have:=cY (aN []).1 (aN []).2.1;rw[h2] at this;simp at this
theorem kT {next:Int}{l:List InoL}(h:bQ next l=true):l.length<=16/\∀x∈l,x.data.size<=1001/\x.ents.length<=12/\∀s∈x.ents,s.name.size<=24:=by
 obtain⟨-,h2,h3⟩:=fc h;refine⟨h2.2,fun x hx=>?_⟩;obtain⟨k,hk,rfl⟩:=List.mem_iff_getElem.1 hx;obtain⟨-,g2,g3,g4,-⟩:=gK (h3 k hk).2;exact⟨by omega,g2,fun s hs=>(uf (g4 s hs)).2⟩
theorem q8 (next:Int)(l:List InoL):∀s∈df next l,s.size<=8000:=by
 unfold df;split
 ·next h=>exact n9 next l (kT h).2
 ·intro s hs;cases hs
theorem lZ (t:List ByteArray):(aN t).2.1.length<=16/\(∀x∈(aN t).2.1,x.data.size<=1001/\x.ents.length<=12/\∀s∈x.ents,s.name.size<=24):=by
 cases e:(aN t).2.2 with
 | false=>rw[iC t e];simp
 | true =>
  obtain⟨h1,-⟩:=(eg t (aN t).1 (aN t).2.1).1 (by rw[←e]);exact kT h1
theorem mv {l:List InoL}{c:Nat}(h:∀x∈l,x.ents.length<=c):gW l<=l.length*c:=by
 induction l with
 | nil=>simp[gW]
 | cons x l ih =>
  have h1:=h x (List.mem_cons_self ..);have h2:=ih (fun y hy=>h y (List.mem_cons_of_mem _ hy));have e:gW (x::l)=x.ents.length+gW l:=by simp[gW]
  rw[e,List.length_cons,Nat.succ_mul];omega
theorem qC (a:Option Addr)(len cap:Nat)(zs0:List Int)(w:World)(hrow:IsRow .u8 w a len cap zs0)(hT:KTab w):Calls Tryz.prog 4 #[.slice a len cap] w fun e w'=>e=.returned (.bool true)/\Below w.heap.size w w':=by
 have hm:len<=maxLen:=by have h:=hrow.rd.1;exact Nat.le_trans h.le h.max
 by_cases hs:1048576<len
 ·clear hrow;go_enter Tryz.func4,Tryz.ntmps4
  go_wp2_with fail
  refine(mS _ _ _ _ hs hm).mono ?_;rintro e w' ⟨rfl,rfl⟩;go_wp2;go_ret;exact⟨rfl,zB⟩
 ·obtain⟨hR,hz⟩:=hrow.rd;have HR:=zH hR;have HZ2:Hid (∀z∈zs0.take len,0<=z/\z<=255):=zH (fun z hz'=>by have:=hz z hz';simpa[Lit.wf,IntKind.min,IntKind.max,IntKind.signed,IntKind.bits] using this);have hn:len<=1048576:=by omega
  have HK:Hid (∀W,Below w.heap.size w W->KTab W):=zH (fun W hW=>hT.below hW zN);clear hrow hR hz hs hm hT;generalize zs0.take len=zs at *;go_enter Tryz.func4,Tryz.ntmps4
  go_wp2_with fail
  refine(ou _ _ _ _ hn).mono ?_;rintro e w' ⟨rfl,rfl⟩;go_wp2_with fail
  refine(iB _ _ _ _ _ HR.out HZ2.out hn).mono ?_;rintro e w1 ⟨next,va,vc,m,rfl,hsm,hrd,hb⟩;have BN:=zH hsm;have PD:Hid ((gW (xs m):Int)<=4611686018427387904):=zH (by
   have h1:=mv (l:=xs m) (c:=901) (fun x hx=>by obtain⟨y,hy,rfl⟩:=List.mem_map.1 hx;exact(hsm.2 y hy).2.1);rw[cy] at h1;have h2:=hsm.1;have h3:m.length*901<=17*901:=Nat.mul_le_mul_right _ h2;omega)
  have Ba:Hid (∀x∈xs m,x.data.size<=1073741824):=zH (fun x hx=>by obtain⟨y,hy,rfl⟩:=List.mem_map.1 hx;have:=(hsm.2 y hy).1;omega);have PE:Hid (∀x∈xs m,∀s∈x.ents,s.name.size<=1073741824):=zH (fun x hx=>by obtain⟨y,hy,rfl⟩:=List.mem_map.1 hx;exact(hsm.2 y hy).2.2);obtain⟨vb,hvb⟩:∃vb,vb=w1.heap.size:=⟨_,rfl⟩;have HB2:=zH (hb.trans ((az w1 (.cells #[.int .i64 next,.slice va m.length vc] 26)).mono hb.size));have xR:Hid (Cs (w1.alloc (.cells #[.int .i64 next,.slice va m.length vc] 26)) vb [.int .i64 next,.slice va m.length vc]):=zH (by rw[hvb];exact ar w1 26 #[.int .i64 next,.slice va m.length vc]);have yT:=zH (hrd.alloc (.cells #[.int .i64 next,.slice va m.length vc] 26));have hwb:=hb.size;clear hsm hrd hb;go_upto_region 4 with fail
  rw[←hvb];clear hvb;generalize w1.alloc (.cells #[.int .i64 next,.slice va m.length vc] 26)=w2 at *;obtain⟨⟨v0,v1⟩,-⟩:=xR.out.two;go_wp2_with fail
  refine(dZ next va m.length vc (xs m) _ yT.out Ba.out PE.out PD.out (HK.out _ HB2.out)).mono ?_;rintro e w3 ⟨pl,cl,rfl,hO⟩;have HB3:=zH (HB2.out.trans (hO.below.mono HB2.out.size));have Bn:=zH (xR.out.below hO.below);have Ao:=zH (yT.out.step hO.below);have H6:=zH hO.rd;have Hl:Hid (∀s∈df next (xs m),s.size<=8000):=zH (q8 next (xs m));have Hq:=zH (qM next (xs m));have zy:Hid (df next (xs m)=bI next (xs m)->(df next (xs m)).length=17):=zH (fun h=>by rw[h];exact cY _ _);clear hO v0 v1 HB2 xR yT;generalize df next (xs m)=L at *
  go_wp2_with fail
  refine(dI pl L.length cl L _ H6.out (fun s hs=>by have:=Hl.out s hs;omega) (HK.out _ HB3.out)).mono ?_;rintro e w4 ⟨p4,c4,m4,rfl,Iw,hO⟩;obtain⟨xb,hxb⟩:∃xb,xb=w4.heap.size:=⟨_,rfl⟩;have vX:=zH (HB3.out.trans (hO.below.mono HB3.out.size));have Af:=zH (Bn.out.below hO.below);have AZ:=zH (Ao.out.step hO.below);have PG:Hid (VolRd w4 p4 m4.length c4 (aN L).2.1):=zH (by rw[←Iw];exact hO.rd);have PH:=zH Iw;clear hO Iw HB3 Bn Ao H6;generalize hnx:(aN L).1=nx at *;generalize hok:(aN L).2.2=ok at *;have zK:=zH hnx;have Bh:=zH hok;clear hnx hok;have vg:=zH (vX.out.trans ((az w4 (.cells #[.int .i64 nx,.slice p4 m4.length c4] 26)).mono vX.out.size));have yS:=zH (Af.out.alloc (.cells #[.int .i64 nx,.slice p4 m4.length c4] 26));have OB:Hid (Cs (w4.alloc (.cells #[.int .i64 nx,.slice p4 m4.length c4] 26)) xb [.int .i64 nx,.slice p4 m4.length c4]):=zH (by rw[hxb];exact ar w4 26 #[.int .i64 nx,.slice p4 m4.length c4]);have HV5:=zH (AZ.out.alloc (.cells #[.int .i64 nx,.slice p4 m4.length c4] 26));have PI:=zH (PG.out.alloc (.cells #[.int .i64 nx,.slice p4 m4.length c4] 26));clear vX Af AZ PG;go_upto_region 6 with fail
  rw[←hxb];clear hxb;generalize w4.alloc (.cells #[.int .i64 nx,.slice p4 m4.length c4] 26)=w5 at *;obtain⟨⟨v0,v1⟩,-⟩:=yS.out.two;obtain⟨⟨y0,y1⟩,-⟩:=OB.out.two;go_wp2_with fail
  refine(ic next va m.length vc (xs m) _ HV5.out PE.out PD.out).mono ?_;rintro e w6 ⟨rfl,hb⟩;have wu:=zH (vg.out.trans (hb.mono vg.out.size));have wM:=zH (yS.out.below hb);have Rb:=zH (OB.out.below hb);have Bc:=zH (HV5.out.step hb);have OC:=zH (PI.out.step hb);clear hb v0 v1 y0 y1 vg yS OB HV5 PI;obtain⟨⟨v0,v1⟩,-⟩:=wM.out.two;obtain⟨⟨y0,y1⟩,-⟩:=Rb.out.two;cases MO:bQ next (xs m) with
  | false =>
   obtain⟨hL,hr⟩:=Hq.out.2 MO;have hok2:ok=false:=by rw[←Bh.out,hr]
   have zh:=zH wu.out;subst hok2;have hl0:(L.length:Int)=0:=by rw[hL];rfl
   clear hr hL Hq zy zK Bh PH OC Bc;generalize L.length=ln at *;go_upto_region 8 with fail
   clear v0 v1 y0 y1;go_wp2_with fail
   refine(eP _ _ _ _ _ (HR.out.below zh.out zN) HZ2.out hn).mono ?_;rintro e w8 ⟨t,pt,ct,rfl,OD,hts,hrt,hb⟩;have vE:=zH (zh.out.trans (hb.mono zh.out.size));have Dl:=zH hrt;have Fa:Hid (∀s∈t,s.size<=1048576):=zH (fun s hs=>by have:=hts s hs;omega);clear hb hrt hts zh;go_wp2_with fail
   refine(dI pt t.length ct t _ Dl.out Fa.out (HK.out _ vE.out)).mono ?_;rintro e w9 ⟨p9,c9,m9,rfl,Mq,hO⟩;obtain⟨yb,hyb⟩:∃yb,yb=w9.heap.size:=⟨_,rfl⟩;have vD:=zH (vE.out.trans (hO.below.mono vE.out.size));have Et:=zH (Dl.out.below hO.below zN);have Mr:Hid (VolRd w9 p9 m9.length c9 (aN t).2.1):=zH (by rw[←Mq];exact hO.rd);have Eu:=zH (lZ t);have AU:Hid ((aN t).2.2=true->bQ (aN t).1 (aN t).2.1=true/\bI (aN t).1 (aN t).2.1=t):=zH (fun e=>(eg t (aN t).1 (aN t).2.1).1 (by rw[←e]));have Ms:Hid (∀W,Rd W pt t.length ct 1 (cR t)->KTab W->Calls Tryz.prog 6 #[.slice pt t.length ct] W fun e w' => ∃(a:Option Addr) (c:Nat) (m:List InoP),e=.returned (.tuple #[.agg #[.int .i64 (aN t).1,.slice a m.length c],.bool (aN t).2.2])/\Below W.heap.size W w'):=zH (fun W h1 h2=>(eW pt t.length ct t W h1 Fa.out h2).mono (fun e w' ⟨a,c,m,e1,_,ho⟩=>⟨a,c,m,e1,ho.below⟩));clear hO Mq vE Dl;generalize (aN t).1=ny at *;generalize (aN t).2.1=LY at *;generalize (aN t).2.2=fine at *;have yC:=zH (vD.out.trans ((az w9 (.cells #[.int .i64 ny,.slice p9 m9.length c9] 26)).mono vD.out.size));have Mt:Hid (Cs (w9.alloc (.cells #[.int .i64 ny,.slice p9 m9.length c9] 26)) yb [.int .i64 ny,.slice p9 m9.length c9]):=zH (by rw[hyb];exact ar w9 26 #[.int .i64 ny,.slice p9 m9.length c9]);have Cz:=zH (Et.out.alloc (.cells #[.int .i64 ny,.slice p9 m9.length c9] 26));have Mv:=zH (Mr.out.alloc (.cells #[.int .i64 ny,.slice p9 m9.length c9] 26));clear vD Et Mr;go_upto_region 10 with fail
   rw[←hyb];clear hyb;generalize w9.alloc (.cells #[.int .i64 ny,.slice p9 m9.length c9] 26)=wa at *;go_wp2_with fail
   refine(Ms.out _ Cz.out (HK.out _ yC.out)).mono ?_;rintro e wb ⟨pb,cb,mb,rfl,hb⟩;have yL:=zH (yC.out.trans (hb.mono yC.out.size));have Mw:=zH (Mt.out.below hb);have Ev:=zH (Cz.out.below hb zN);have Mx:=zH (Mv.out.step hb);clear hb yC Mt Cz Mv Ms;have Ew:=zH (yL.out.trans ((az wb (.cells #[.int .i64 ny,.slice pb mb.length cb] 26)).mono yL.out.size));have MB:=zH (Mw.out.alloc (.cells #[.int .i64 ny,.slice pb mb.length cb] 26));have Ex:=zH (Ev.out.alloc (.cells #[.int .i64 ny,.slice pb mb.length cb] 26));have MC:=zH (Mx.out.alloc (.cells #[.int .i64 ny,.slice pb mb.length cb] 26));clear yL Mw Ev Mx;go_upto_region 11 with fail
   generalize wb.alloc (.cells #[.int .i64 ny,.slice pb mb.length cb] 26)=wc at *;obtain⟨⟨y0,y1⟩,-⟩:=MB.out.two;cases fine with
   | false =>
    go_wp2;go_ret;exact⟨rfl,Ew.out⟩
   | true =>
    obtain⟨ME,hby⟩:=AU.out rfl;have vo:Hid (df ny LY=t):=zH (by unfold df;rw[if_pos ME];exact hby);have AQ:Hid (∀W,VolRd W p9 m9.length c9 LY->KTab W->Calls Tryz.prog 16 #[.agg #[.int .i64 ny,.slice p9 m9.length c9]] W (fj ny LY W)):=zH (fun W h1 h2=>dZ ny p9 m9.length c9 LY W h1 (fun x hx=>by have:=(Eu.out.2 x hx).1;omega) (fun x hx s hs=>by have:=(Eu.out.2 x hx).2.2 s hs;omega) (by
     have h3:=mv (l:=LY) (c:=12) (fun x hx=>(Eu.out.2 x hx).2.1);have h4:=Eu.out.1;have h5:LY.length*12<=16*12:=Nat.mul_le_mul_right _ h4;omega) h2)
    clear ME hby AU Eu;go_wp2_with fail
    refine(AQ.out _ MC.out (HK.out _ Ew.out)).mono ?_;rintro e wd ⟨pd,cd,rfl,hO⟩;rw[vo.out] at hO;rw[vo.out];have MF:=zH (Ew.out.trans (hO.below.mono Ew.out.size));have Ig:=zH (Ex.out.below hO.below zN);have OE:=zH hO.rd;clear hO Ew Ex MC MB y0 y1 AQ;go_wp2_with fail
    refine(hY pd pt t.length t.length cd ct t _ OE.out Ig.out (by omega)).mono ?_;rintro e we ⟨rfl,hb⟩;have OG:=zH (MF.out.trans (hb.mono MF.out.size));clear hb;go_wp2;go_ret;exact⟨rfl,OG.out⟩
  | true =>
   obtain⟨hL,hr⟩:=Hq.out.1 MO;have hok2:ok=true:=by rw[←Bh.out,hr]
   have hnx2:nx=next:=by rw[←zK.out,hr]
   have MG:=zH (zy.out hL);have PK:Hid ((aN L).2.1=xs m):=zH (by rw[hr]);subst hok2;subst hnx2;have PL:Hid (Calls Tryz.prog 18 #[.agg #[.int .i64 nx,.slice p4 m4.length c4],.agg #[.int .i64 nx,.slice va m.length vc]] w6 fun e w'=>e=.returned (.bool true)/\Below w6.heap.size w6 w'):=zH (by
    have h:=OC.out;rw[PK.out] at h;have hv:=kT MO;exact nQ nx p4 va m4.length m.length c4 vc (xs m) _ h Bc.out (by have:=h.len;have:=hv.1;omega) (fun x hx=>by have:=(hv.2 x hx).2.1;omega))
   have OH:(L.length:Int)=17:=by have:=MG.out;omega
   clear hL hr Hq zy zK Bh PH OC Bc PK MG;generalize L.length=ln at *;go_wp2_with fail
   refine PL.out.mono ?_;rintro e w7 ⟨rfl,hb⟩;have zh:=zH (wu.out.trans (hb.mono wu.out.size));clear hb PL wu;go_upto_region 8 with fail
   clear v0 v1 y0 y1;go_wp2_with fail
   refine(eP _ _ _ _ _ (HR.out.below zh.out zN) HZ2.out hn).mono ?_;rintro e w8 ⟨t,pt,ct,rfl,OD,hts,hrt,hb⟩;have vE:=zH (zh.out.trans (hb.mono zh.out.size));have Dl:=zH hrt;have Fa:Hid (∀s∈t,s.size<=1048576):=zH (fun s hs=>by have:=hts s hs;omega);clear hb hrt hts zh;go_wp2_with fail
   refine(dI pt t.length ct t _ Dl.out Fa.out (HK.out _ vE.out)).mono ?_;rintro e w9 ⟨p9,c9,m9,rfl,Mq,hO⟩;obtain⟨yb,hyb⟩:∃yb,yb=w9.heap.size:=⟨_,rfl⟩;have vD:=zH (vE.out.trans (hO.below.mono vE.out.size));have Et:=zH (Dl.out.below hO.below zN);have Mr:Hid (VolRd w9 p9 m9.length c9 (aN t).2.1):=zH (by rw[←Mq];exact hO.rd);have Eu:=zH (lZ t);have AU:Hid ((aN t).2.2=true->bQ (aN t).1 (aN t).2.1=true/\bI (aN t).1 (aN t).2.1=t):=zH (fun e=>(eg t (aN t).1 (aN t).2.1).1 (by rw[←e]));have Ms:Hid (∀W,Rd W pt t.length ct 1 (cR t)->KTab W->Calls Tryz.prog 6 #[.slice pt t.length ct] W fun e w' => ∃(a:Option Addr) (c:Nat) (m:List InoP),e=.returned (.tuple #[.agg #[.int .i64 (aN t).1,.slice a m.length c],.bool (aN t).2.2])/\Below W.heap.size W w'):=zH (fun W h1 h2=>(eW pt t.length ct t W h1 Fa.out h2).mono (fun e w' ⟨a,c,m,e1,_,ho⟩=>⟨a,c,m,e1,ho.below⟩));clear hO Mq vE Dl;generalize (aN t).1=ny at *;generalize (aN t).2.1=LY at *;generalize (aN t).2.2=fine at *;have yC:=zH (vD.out.trans ((az w9 (.cells #[.int .i64 ny,.slice p9 m9.length c9] 26)).mono vD.out.size));have Mt:Hid (Cs (w9.alloc (.cells #[.int .i64 ny,.slice p9 m9.length c9] 26)) yb [.int .i64 ny,.slice p9 m9.length c9]):=zH (by rw[hyb];exact ar w9 26 #[.int .i64 ny,.slice p9 m9.length c9]);have Cz:=zH (Et.out.alloc (.cells #[.int .i64 ny,.slice p9 m9.length c9] 26));have Mv:=zH (Mr.out.alloc (.cells #[.int .i64 ny,.slice p9 m9.length c9] 26));clear vD Et Mr;go_upto_region 10 with fail
   rw[←hyb];clear hyb;generalize w9.alloc (.cells #[.int .i64 ny,.slice p9 m9.length c9] 26)=wa at *;go_wp2_with fail
   refine(Ms.out _ Cz.out (HK.out _ yC.out)).mono ?_;rintro e wb ⟨pb,cb,mb,rfl,hb⟩;have yL:=zH (yC.out.trans (hb.mono yC.out.size));have Mw:=zH (Mt.out.below hb);have Ev:=zH (Cz.out.below hb zN);have Mx:=zH (Mv.out.step hb);clear hb yC Mt Cz Mv Ms;have Ew:=zH (yL.out.trans ((az wb (.cells #[.int .i64 ny,.slice pb mb.length cb] 26)).mono yL.out.size));have MB:=zH (Mw.out.alloc (.cells #[.int .i64 ny,.slice pb mb.length cb] 26));have Ex:=zH (Ev.out.alloc (.cells #[.int .i64 ny,.slice pb mb.length cb] 26));have MC:=zH (Mx.out.alloc (.cells #[.int .i64 ny,.slice pb mb.length cb] 26));clear yL Mw Ev Mx;go_upto_region 11 with fail
   generalize wb.alloc (.cells #[.int .i64 ny,.slice pb mb.length cb] 26)=wc at *;obtain⟨⟨y0,y1⟩,-⟩:=MB.out.two;cases fine with
   | false =>
    go_wp2;go_ret;exact⟨rfl,Ew.out⟩
   | true =>
    obtain⟨ME,hby⟩:=AU.out rfl;have vo:Hid (df ny LY=t):=zH (by unfold df;rw[if_pos ME];exact hby);have AQ:Hid (∀W,VolRd W p9 m9.length c9 LY->KTab W->Calls Tryz.prog 16 #[.agg #[.int .i64 ny,.slice p9 m9.length c9]] W (fj ny LY W)):=zH (fun W h1 h2=>dZ ny p9 m9.length c9 LY W h1 (fun x hx=>by have:=(Eu.out.2 x hx).1;omega) (fun x hx s hs=>by have:=(Eu.out.2 x hx).2.2 s hs;omega) (by
     have h3:=mv (l:=LY) (c:=12) (fun x hx=>(Eu.out.2 x hx).2.1);have h4:=Eu.out.1;have h5:LY.length*12<=16*12:=Nat.mul_le_mul_right _ h4;omega) h2)
    clear ME hby AU Eu;go_wp2_with fail
    refine(AQ.out _ MC.out (HK.out _ Ew.out)).mono ?_;rintro e wd ⟨pd,cd,rfl,hO⟩;rw[vo.out] at hO;rw[vo.out];have MF:=zH (Ew.out.trans (hO.below.mono Ew.out.size));have Ig:=zH (Ex.out.below hO.below zN);have OE:=zH hO.rd;clear hO Ew Ex MC MB y0 y1 AQ;go_wp2_with fail
    refine(hY pd pt t.length t.length cd ct t _ OE.out Ig.out (by omega)).mono ?_;rintro e we ⟨rfl,hb⟩;have OG:=zH (MF.out.trans (hb.mono MF.out.size));clear hb;go_wp2;go_ret;exact⟨rfl,OG.out⟩
end Go.Proofs.YtlkfabkkjfmnmaaGreatDoor
