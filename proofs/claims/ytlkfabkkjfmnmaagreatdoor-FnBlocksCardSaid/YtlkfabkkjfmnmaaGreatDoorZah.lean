import Derived.Test.YtlkfabkkjfmnmaaGreatDoorZag
namespace Go.Proofs.YtlkfabkkjfmnmaaGreatDoor
open Go.RowKit
set_option linter.all false
set_option maxRecDepth 1000000
set_option maxHeartbeats 6000000
theorem iR (s:ByteArray)(k:Nat):(s.extract k s.size).data.toList=s.data.toList.drop k:=by
 simp only[ByteArray.data_extract,Array.toList_extract];rw[List.extract_eq_take_drop,List.take_of_length_le (by simp)]
theorem gc (s:ByteArray)(w:World)(hs:s.size<=1073741824) :
  Calls Tryz.prog 108 #[.string s] w fun e w' => ∃a c',e=.returned (.tuple #[.slice a (cK s.data.toList).length c',.bool (fF s.data.toList)])/\Own 3 1 w.heap.size w (.slice a (cK s.data.toList).length c') (cK s.data.toList).length (aE (cK s.data.toList)) w':=by
 go_enter Tryz.func108,Tryz.ntmps108
 go_wp2;go_loopg [4,5] s.size (fun gg o i wr => ∃(at0:Nat) (pre:List Int),at0+gg=s.size/\i=.int .i64 at0/\pre.length<=at0/\ff s.data.toList=(ff (s.data.toList.drop at0)).map (pre ++ ·)/\Own 3 1 w.heap.size w o pre.length (aE pre) wr)
 case atStart=>exact⟨0,[],by omega,rfl,by simp,by simp,by simpa[aE] using Own.lit (e:=3) (size:=1) (n:=0) (Below.refl w.heap.size w) zN #[] rfl (by decide)⟩
 case round =>
  obtain⟨at0,pre,hk,rfl,hpl,hU,vN⟩:=hrel;obtain⟨av,cv,rfl,_,_⟩:=vN.shape;by_cases hlt:at0<s.size
  ·have hne:s.data.toList.drop at0 ≠ []:=by
    intro e;have:=congrArg List.length e;simp at this;omega
   have hle:=oo (s.data.toList.drop at0);have hle1:(sg1 (s.data.toList.drop at0)).2<=s.size - at0:=by have:=hle.1;simpa using this
   have hi0:(0:Int)<=(at0:Int):=by omega
   have hi1:(at0:Int)<=(s.size:Int):=by omega
   by_cases h0:(sg1 (s.data.toList.drop at0)).2=0
   ·have hO:ff s.data.toList=none:=by rw[hU,nT _ hne h0];rfl
    have HR:Hid (cK s.data.toList = []):=zH (by unfold cK;rw[hO];rfl);have HB:Hid (fF s.data.toList=false):=zH (by unfold fF;rw[hO];rfl);have H0:=zH h0;clear hU hO hle hle1 h0 hne;go_wp2_with fail
    refine(kE (s.extract at0 s.size) _ (by rw[ByteArray.size_extract];omega) (by rw[ByteArray.size_extract];omega)).mono ?_;rintro e w1 ⟨rfl,hb1⟩;rw[iR];unfold sgV;rw[H0.out];go_wp2;go_ret2;rw[HR.out,HB.out];exact⟨_,_,rfl,⟨World.ownsRow_nil _ _ _ _,vN.below.trans (hb1.mono vN.base),Nat.le_trans vN.base hb1.size⟩⟩
   ·have M7:Hid (ff s.data.toList=(ff (s.data.toList.drop (at0+(sg1 (s.data.toList.drop at0)).2))).map (pre ++ [(sg1 (s.data.toList.drop at0)).1] ++ ·)):=zH (by
     rw[hU,lN _ hne h0,Option.map_map,List.drop_drop];congr 1
     funext x
     simp)
    have hz:(((sg1 (s.data.toList.drop at0)).2:Int)==0)=false:=by simp;omega
    clear hU hle hne;have hS:sgV (s.data.toList.drop at0)=.tuple #[.int .i64 (sg1 (s.data.toList.drop at0)).1,.int .i64 ((sg1 (s.data.toList.drop at0)).2:Int)]:=rfl;have HS:=zH hS;clear hS;generalize (sg1 (s.data.toList.drop at0)).2=nn at *;generalize (sg1 (s.data.toList.drop at0)).1=cc at *;go_wp2_with fail
    refine(kE (s.extract at0 s.size) _ (by rw[ByteArray.size_extract];omega) (by rw[ByteArray.size_extract];omega)).mono ?_;rintro e w1 ⟨rfl,hb1⟩;rw[iR];rw[HS.out];have M8:=vN.kept hb1;go_wp2_with (at_builtin;go_loud (refine cV rfl _ _ 40 rfl 3 (.int .i64 0) 1 8 Tryz.underlying40 cA rfl (by decide) w.heap.size w _ _ _ (by rfl) (by exact M8) _ _ (by rfl) (by rfl) (by intro u hu;simp at hu;first|(subst hu;rfl)|(rcases hu with rfl|rfl <;> rfl)|(rcases hu with rfl|rfl|rfl <;> rfl)) (by omega) (by unfold maxLen;omega) ?_);intro a2 c2 w2 hO2)
    go_wp2;go_roundg (gk - nn)
    case measure=>omega
    case rel=>exact⟨at0+nn,pre ++ [cc],by omega,by go_num,by simp;omega,M7.out,by rw[List.length_append,cm];exact hO2⟩
  ·have hks:at0=s.size:=by omega
   subst hks;have hO:ff s.data.toList=some pre:=by rw[hU,List.drop_of_length_le (by simp),nh];simp
   have HR:Hid (cK s.data.toList=pre):=zH (by unfold cK;rw[hO];rfl);have HB:Hid (fF s.data.toList=true):=zH (by unfold fF;rw[hO];rfl);clear hU hO;go_wp2;go_ret2;rw[HR.out,HB.out];exact⟨_,_,rfl,vN⟩
theorem i6 (c:Int)(h:bH c=true):fp [c]=cx c:=by
 unfold fp dH;rw[if_pos (by simpa using h)];simp
theorem tG (q:Nat)(h:q<2048):(cx q).length=2 ↔ 128<=q:=by
 unfold cx;by_cases h1:(q:Int)<128
 ·rw[if_pos h1];simp;omega
 ·rw[if_neg h1,if_pos (by omega)];simp;omega
theorem tv (q:Nat)(h:q<65536):(cx q).length=3 ↔ 2048<=q:=by
 unfold cx;by_cases h1:(q:Int)<128
 ·rw[if_pos h1];simp;omega
 ·by_cases h2:(q:Int)<2048
  ·rw[if_neg h1,if_pos h2];simp;omega
  ·rw[if_neg h1,if_neg h2,if_pos (by omega)];simp;omega
theorem tM (q:Nat)(h:q<2097152):(cx q).length=4 ↔ 65536<=q:=by
 unfold cx;by_cases h1:(q:Int)<128
 ·rw[if_pos h1];simp;omega
 ·by_cases h2:(q:Int)<2048
  ·rw[if_neg h1,if_pos h2];simp;omega
  ·by_cases h3:(q:Int)<65536
   ·rw[if_neg h1,if_neg h2,if_pos h3];simp;omega
   ·rw[if_neg h1,if_neg h2,if_neg h3];simp;omega
theorem lL (s:ByteArray)(at0:Nat)(w:World)(h0:at0<s.size)(hs:s.size<=1073741824) :
  Calls Tryz.prog 128 #[.string s,.int .i64 at0] w fun e w'=>e=.returned (sgV (s.data.toList.drop at0))/\Below w.heap.size w w':=by
 have hD0:0<(s.data.toList.drop at0).length:=by simp;omega
 have hs0:(s.data.toList.drop at0)[0]'hD0=s[at0]:=by simp only[List.getElem_drop];rfl
 have hb0:=s[at0].toNat_lt;rcases (show s[at0].toNat<128∨((128<=s[at0].toNat/\s[at0].toNat<192)∨248<=s[at0].toNat)∨(192<=s[at0].toNat/\s[at0].toNat<224)∨(224<=s[at0].toNat/\s[at0].toNat<240)∨(240<=s[at0].toNat/\s[at0].toNat<248) from by omega) with hr|hr|hr|hr|hr
 ·have H:Hid (sg1 (s.data.toList.drop at0)=((s[at0].toNat:Int),1)):=zH (by rw[←hs0];exact mC _ hD0 (by rw[hs0];exact sz1 _ hr));have hsg:bH (s[at0].toNat:Int)=true:=by simp only[bH,decide_eq_true_eq];omega
  have HE:=zH (i6 _ hsg);have zy:Hid ((cx (s[at0].toNat:Int)).length=1):=zH (by unfold cx;rw[if_pos (by omega)];rfl);have hl2:¬(s.size:Int)<(at0:Int)+1:=by omega
  clear hs0 hsg;go_enter Tryz.func128,Tryz.ntmps128
  go_wp2;go_loopg [8,9] 0 (fun g c i wr=>i=.int .i64 1/\c=.int .i64 (s[at0].toNat:Int)/\wr=w)
  case atStart=>exact⟨rfl,rfl,rfl⟩
  case round =>
   obtain⟨rfl,rfl,rfl⟩:=hrel;go_wp2_with (first|(go_at_call 129;refine(cD _ _ (by omega) (by omega) (by omega)).mono ?_;rintro e w' ⟨rfl,rfl⟩)|(go_at_call 104;refine(bK _ _ _ [(s[at0].toNat:Int)] _ (aM rfl (by decide)) (by decide)).mono ?_;rintro e w1 ⟨rfl,hb1⟩;rw[HE.out];have hlq:=zy.out))
   go_ret2;exact⟨by rw[sgV,H.out];rfl,(zB.alloc zN _).trans (hb1.mono (by simp))⟩
 ·have H:Hid (sg1 (s.data.toList.drop at0)=(0,0)):=zH (kj _ hD0 (by rw[hs0];exact sz0 _ hr));clear hs0;rcases hr with hr|hr
  all_goals
   go_enter Tryz.func128,Tryz.ntmps128
   go_wp2;go_ret2;exact⟨by rw[sgV,H.out];rfl,zB⟩
 ·obtain⟨hr1,hr2⟩:=hr;have hq:=lU (s[at0].toNat:Int) (by omega) (by omega);by_cases hlen:s.size<at0+2
  ·have H:Hid (sg1 (s.data.toList.drop at0)=(0,0)):=zH (ej _ 2 hD0 (by rw[hs0];exact sz2 _ (by omega) (by omega)) (by decide) (by simp;omega));have hl2:(s.size:Int)<(at0:Int)+2:=by omega
   clear hs0;go_enter Tryz.func128,Tryz.ntmps128
   go_wp2;go_ret2;exact⟨by rw[sgV,H.out];rfl,zB⟩
  ·have hl2:¬(s.size:Int)<(at0:Int)+2:=by omega
   have vJ:Hid (ch ((s.data.toList.drop at0)[0]'hD0).toNat=2):=zH (by rw[hs0];exact sz2 _ (by omega) (by omega));have Ag:=zH hs0;clear hs0;go_enter Tryz.func128,Tryz.ntmps128
   go_wp2;go_loopg [8,9] 1 (fun g c i wr => ∃j:Nat,j+g=1/\i=.int .i64 (1+(j:Int))/\c=.int .i64 (bf (s[at0].toNat % 32) (((s.data.toList.drop at0).drop 1).take j):Nat)/\(∀b∈((s.data.toList.drop at0).drop 1).take j,bh b=true)/\wr=w)
   case atStart=>exact⟨0,by omega,by go_num,by simp[bf],by simp,rfl⟩
   case round =>
    obtain⟨j,hj,rfl,rfl,hall,rfl⟩:=hrel;by_cases hlt:j<1
    ·have hjs:at0+(1+j)<s.size:=by omega
     have hD:∃h:j<((s.data.toList.drop at0).drop 1).length,((s.data.toList.drop at0).drop 1)[j]'h=s[at0+(1+j)]:=⟨by simp;omega,by simp only[List.getElem_drop];rfl⟩;obtain⟨hD1,hD2⟩:=hD;have hts:((s.data.toList.drop at0).drop 1).take (j+1)=((s.data.toList.drop at0).drop 1).take j ++ [s[at0+(1+j)]]:=by rw[List.take_succ_eq_append_getElem hD1,hD2]
     have hmem:s[at0+(1+j)]∈((s.data.toList.drop at0).drop 1).take 1:=by
      rw[←hD2];exact List.mem_take_iff_getElem.2 ⟨j,by simp;omega,rfl⟩
     have hb0:=(s[at0+(1+j)]).toNat_lt;have hcb:=dA (s[at0].toNat % 32) (((s.data.toList.drop at0).drop 1).take j);have yP:bf (s[at0].toNat % 32) (((s.data.toList.drop at0).drop 1).take j)<134217728:=by
      refine Nat.lt_of_lt_of_le hcb ?_;have h2:(((s.data.toList.drop at0).drop 1).take j).length<=3:=by rw[List.length_take];omega
      have h3:=dP 64 _ 3 h2 (by decide);have h4:s[at0].toNat % 32+1<=32:=by omega
      exact Nat.le_trans (Nat.mul_le_mul h4 h3) (by decide)
     have ha2:=bR ((s[at0+(1+j)]).toNat:Int) (by omega) (by omega);have hi0:(0:Int)<=(at0:Int)+(1+(j:Int)):=by omega
     have hi1:(at0:Int)+(1+(j:Int))<(s.size:Int):=by omega
     clear hcb hD2 hD1;by_cases hco:bh s[at0+(1+j)]=true
     ·have H1:Hid (bf (s[at0].toNat % 32) (((s.data.toList.drop at0).drop 1).take (j+1))=bf (s[at0].toNat % 32) (((s.data.toList.drop at0).drop 1).take j)*64+s[at0+(1+j)].toNat % 64):=zH (by rw[hts,ey]);have H2:Hid (∀b∈((s.data.toList.drop at0).drop 1).take (j+1),bh b=true):=zH (by
       rw[hts];intro b hb;rcases List.mem_append.1 hb with hb|hb
       ·exact hall b hb
       ·rw[List.mem_singleton.1 hb];exact hco)
      simp only[bh,Bool.and_eq_true,decide_eq_true_eq] at hco;have hk1:=hco.1;have hk2:=hco.2;clear hts hmem hall hco;generalize bf (s[at0].toNat % 32) (((s.data.toList.drop at0).drop 1).take j)=q at *;go_wp2;go_roundg (gk - 1)
      case measure=>omega
      case rel=>exact⟨j+1,by omega,by go_num,by rw[H1.out];go_num,H2.out,rfl⟩
     ·have H:Hid (sg1 (s.data.toList.drop at0)=(0,0)):=zH (fT _ 2 hD0 vJ.out (by decide) (by intro hh;exact hco (hh _ hmem)));have hkk:(s[at0+(1+j)]).toNat<128∨191<(s[at0+(1+j)]).toNat:=by
       simp only[bh,Bool.and_eq_true,decide_eq_true_eq] at hco;omega
      clear hts hmem hall hco;generalize bf (s[at0].toNat % 32) (((s.data.toList.drop at0).drop 1).take j)=q at *;rcases hkk with hkk|hkk
      all_goals
       go_wp2;go_ret2;exact⟨by rw[sgV,H.out];rfl,zB⟩
    ·have hjn:j=1:=by omega
     subst hjn;have hcb:=dA (s[at0].toNat % 32) (((s.data.toList.drop at0).drop 1).take 1);have hlen3:(((s.data.toList.drop at0).drop 1).take 1).length=1:=by rw[List.length_take,List.length_drop,List.length_drop];simp;omega
     rw[hlen3] at hcb;have yP:bf (s[at0].toNat % 32) (((s.data.toList.drop at0).drop 1).take 1)<2048:=by
      have h4:s[at0].toNat % 32+1<=32:=by omega
      exact Nat.lt_of_lt_of_le hcb (Nat.le_trans (Nat.mul_le_mul_right _ h4) (by decide))
     have hV:=eY _ 2 hD0 vJ.out (by decide) (by decide) (by simp;omega) hall;rw[Ag.out,show cOf s[at0].toNat=s[at0].toNat % 32 from c2 _ (by omega) (by omega)] at hV;have HV:=zH hV;clear hV hall hcb hlen3;generalize bf (s[at0].toNat % 32) (((s.data.toList.drop at0).drop 1).take 1)=q at *;have vY:eH 2=128:=rfl;by_cases hq2:bH q=true
     ·have HE:=zH (i6 q hq2);have xS:Hid ((cx q).length=2 ↔ 128<=q):=zH (tG q yP);have zL:=hq2;simp only[bH,decide_eq_true_eq] at hq2;have k1:=hq2.1;have k2:=hq2.2.1;have HK:Hid ((q:Int)<55296∨57343<(q:Int)):=zH (by omega);clear hq2;by_cases hq1:128<=q
      ·have H:Hid (sg1 (s.data.toList.drop at0)=((q:Int),2)):=zH (by rw[HV.out,if_pos ⟨by rw[vY];omega,zL⟩]);have zy:Hid ((cx q).length=2):=zH (xS.out.2 hq1);clear vY zL;go_wp2_with (first|(go_at_call 129;refine(cD _ _ (by omega) (by omega) HK.out).mono ?_;rintro e w' ⟨rfl,rfl⟩)|(go_at_call 104;refine(bK _ _ _ [(q:Int)] _ (aM rfl (by decide)) (by decide)).mono ?_;rintro e w1 ⟨rfl,hb1⟩;rw[HE.out];have hlq:=zy.out))
       go_ret2;exact⟨by rw[sgV,H.out];rfl,(zB.alloc zN _).trans (hb1.mono (by simp))⟩
      ·have H:Hid (sg1 (s.data.toList.drop at0)=(0,0)):=zH (by rw[HV.out,if_neg (by rw[vY];omega)]);have zy:Hid ((((cx q).length:Int) != 2)=true):=zH (by
        have h9:¬(cx q).length=2:=fun h=>hq1 (xS.out.1 h)
        simp;omega)
       clear vY zL;go_wp2_with (first|(go_at_call 129;refine(cD _ _ (by omega) (by omega) HK.out).mono ?_;rintro e w' ⟨rfl,rfl⟩)|(go_at_call 104;refine(bK _ _ _ [(q:Int)] _ (aM rfl (by decide)) (by decide)).mono ?_;rintro e w1 ⟨rfl,hb1⟩;rw[HE.out];have hlq:(((cx q).length:Int) != 2)=true:=zy.out))
       go_ret2;exact⟨by rw[sgV,H.out];rfl,(zB.alloc zN _).trans (hb1.mono (by simp))⟩
     ·have H:Hid (sg1 (s.data.toList.drop at0)=(0,0)):=zH (by rw[HV.out,if_neg (fun h=>hq2 h.2)]);simp only[bH,decide_eq_true_eq] at hq2;have HK:Hid ((q:Int)<0∨1114111<(q:Int)∨(55296<=(q:Int)/\(q:Int)<=57343)):=zH (by omega);clear vY hq2;go_wp2_with (go_at_call 129;refine(gR _ _ HK.out).mono ?_;rintro e w' ⟨rfl,rfl⟩)
      go_ret2;exact⟨by rw[sgV,H.out];rfl,zB⟩
 ·obtain⟨hr1,hr2⟩:=hr;have hq:=lE (s[at0].toNat:Int) (by omega) (by omega);by_cases hlen:s.size<at0+3
  ·have H:Hid (sg1 (s.data.toList.drop at0)=(0,0)):=zH (ej _ 3 hD0 (by rw[hs0];exact sz3 _ (by omega) (by omega)) (by decide) (by simp;omega));have hl2:(s.size:Int)<(at0:Int)+3:=by omega
   clear hs0;go_enter Tryz.func128,Tryz.ntmps128
   go_wp2;go_ret2;exact⟨by rw[sgV,H.out];rfl,zB⟩
  ·have hl2:¬(s.size:Int)<(at0:Int)+3:=by omega
   have vJ:Hid (ch ((s.data.toList.drop at0)[0]'hD0).toNat=3):=zH (by rw[hs0];exact sz3 _ (by omega) (by omega));have Ag:=zH hs0;clear hs0;go_enter Tryz.func128,Tryz.ntmps128
   go_wp2;go_loopg [8,9] 2 (fun g c i wr => ∃j:Nat,j+g=2/\i=.int .i64 (1+(j:Int))/\c=.int .i64 (bf (s[at0].toNat % 16) (((s.data.toList.drop at0).drop 1).take j):Nat)/\(∀b∈((s.data.toList.drop at0).drop 1).take j,bh b=true)/\wr=w)
   case atStart=>exact⟨0,by omega,by go_num,by simp[bf],by simp,rfl⟩
   case round =>
    obtain⟨j,hj,rfl,rfl,hall,rfl⟩:=hrel;by_cases hlt:j<2
    ·have hjs:at0+(1+j)<s.size:=by omega
     have hD:∃h:j<((s.data.toList.drop at0).drop 1).length,((s.data.toList.drop at0).drop 1)[j]'h=s[at0+(1+j)]:=⟨by simp;omega,by simp only[List.getElem_drop];rfl⟩;obtain⟨hD1,hD2⟩:=hD;have hts:((s.data.toList.drop at0).drop 1).take (j+1)=((s.data.toList.drop at0).drop 1).take j ++ [s[at0+(1+j)]]:=by rw[List.take_succ_eq_append_getElem hD1,hD2]
     have hmem:s[at0+(1+j)]∈((s.data.toList.drop at0).drop 1).take 2:=by
      rw[←hD2];exact List.mem_take_iff_getElem.2 ⟨j,by simp;omega,rfl⟩
     have hb0:=(s[at0+(1+j)]).toNat_lt;have hcb:=dA (s[at0].toNat % 16) (((s.data.toList.drop at0).drop 1).take j);have yP:bf (s[at0].toNat % 16) (((s.data.toList.drop at0).drop 1).take j)<134217728:=by
      refine Nat.lt_of_lt_of_le hcb ?_;have h2:(((s.data.toList.drop at0).drop 1).take j).length<=3:=by rw[List.length_take];omega
      have h3:=dP 64 _ 3 h2 (by decide);have h4:s[at0].toNat % 16+1<=32:=by omega
      exact Nat.le_trans (Nat.mul_le_mul h4 h3) (by decide)
     have ha2:=bR ((s[at0+(1+j)]).toNat:Int) (by omega) (by omega);have hi0:(0:Int)<=(at0:Int)+(1+(j:Int)):=by omega
     have hi1:(at0:Int)+(1+(j:Int))<(s.size:Int):=by omega
     clear hcb hD2 hD1;by_cases hco:bh s[at0+(1+j)]=true
     ·have H1:Hid (bf (s[at0].toNat % 16) (((s.data.toList.drop at0).drop 1).take (j+1))=bf (s[at0].toNat % 16) (((s.data.toList.drop at0).drop 1).take j)*64+s[at0+(1+j)].toNat % 64):=zH (by rw[hts,ey]);have H2:Hid (∀b∈((s.data.toList.drop at0).drop 1).take (j+1),bh b=true):=zH (by
       rw[hts];intro b hb;rcases List.mem_append.1 hb with hb|hb
       ·exact hall b hb
       ·rw[List.mem_singleton.1 hb];exact hco)
      simp only[bh,Bool.and_eq_true,decide_eq_true_eq] at hco;have hk1:=hco.1;have hk2:=hco.2;clear hts hmem hall hco;generalize bf (s[at0].toNat % 16) (((s.data.toList.drop at0).drop 1).take j)=q at *;go_wp2;go_roundg (gk - 1)
      case measure=>omega
      case rel=>exact⟨j+1,by omega,by go_num,by rw[H1.out];go_num,H2.out,rfl⟩
     ·have H:Hid (sg1 (s.data.toList.drop at0)=(0,0)):=zH (fT _ 3 hD0 vJ.out (by decide) (by intro hh;exact hco (hh _ hmem)));have hkk:(s[at0+(1+j)]).toNat<128∨191<(s[at0+(1+j)]).toNat:=by
       simp only[bh,Bool.and_eq_true,decide_eq_true_eq] at hco;omega
      clear hts hmem hall hco;generalize bf (s[at0].toNat % 16) (((s.data.toList.drop at0).drop 1).take j)=q at *;rcases hkk with hkk|hkk
      all_goals
       go_wp2;go_ret2;exact⟨by rw[sgV,H.out];rfl,zB⟩
    ·have hjn:j=2:=by omega
     subst hjn;have hcb:=dA (s[at0].toNat % 16) (((s.data.toList.drop at0).drop 1).take 2);have hlen3:(((s.data.toList.drop at0).drop 1).take 2).length=2:=by rw[List.length_take,List.length_drop,List.length_drop];simp;omega
     rw[hlen3] at hcb;have yP:bf (s[at0].toNat % 16) (((s.data.toList.drop at0).drop 1).take 2)<65536:=by
      have h4:s[at0].toNat % 16+1<=16:=by omega
      exact Nat.lt_of_lt_of_le hcb (Nat.le_trans (Nat.mul_le_mul_right _ h4) (by decide))
     have hV:=eY _ 3 hD0 vJ.out (by decide) (by decide) (by simp;omega) hall;rw[Ag.out,show cOf s[at0].toNat=s[at0].toNat % 16 from c3 _ (by omega) (by omega)] at hV;have HV:=zH hV;clear hV hall hcb hlen3;generalize bf (s[at0].toNat % 16) (((s.data.toList.drop at0).drop 1).take 2)=q at *;have vY:eH 3=2048:=rfl;by_cases hq2:bH q=true
     ·have HE:=zH (i6 q hq2);have xS:Hid ((cx q).length=3 ↔ 2048<=q):=zH (tv q yP);have zL:=hq2;simp only[bH,decide_eq_true_eq] at hq2;have k1:=hq2.1;have k2:=hq2.2.1;have HK:Hid ((q:Int)<55296∨57343<(q:Int)):=zH (by omega);clear hq2;by_cases hq1:2048<=q
      ·have H:Hid (sg1 (s.data.toList.drop at0)=((q:Int),3)):=zH (by rw[HV.out,if_pos ⟨by rw[vY];omega,zL⟩]);have zy:Hid ((cx q).length=3):=zH (xS.out.2 hq1);clear vY zL;go_wp2_with (first|(go_at_call 129;refine(cD _ _ (by omega) (by omega) HK.out).mono ?_;rintro e w' ⟨rfl,rfl⟩)|(go_at_call 104;refine(bK _ _ _ [(q:Int)] _ (aM rfl (by decide)) (by decide)).mono ?_;rintro e w1 ⟨rfl,hb1⟩;rw[HE.out];have hlq:=zy.out))
       go_ret2;exact⟨by rw[sgV,H.out];rfl,(zB.alloc zN _).trans (hb1.mono (by simp))⟩
      ·have H:Hid (sg1 (s.data.toList.drop at0)=(0,0)):=zH (by rw[HV.out,if_neg (by rw[vY];omega)]);have zy:Hid ((((cx q).length:Int) != 3)=true):=zH (by
        have h9:¬(cx q).length=3:=fun h=>hq1 (xS.out.1 h)
        simp;omega)
       clear vY zL;go_wp2_with (first|(go_at_call 129;refine(cD _ _ (by omega) (by omega) HK.out).mono ?_;rintro e w' ⟨rfl,rfl⟩)|(go_at_call 104;refine(bK _ _ _ [(q:Int)] _ (aM rfl (by decide)) (by decide)).mono ?_;rintro e w1 ⟨rfl,hb1⟩;rw[HE.out];have hlq:(((cx q).length:Int) != 3)=true:=zy.out))
       go_ret2;exact⟨by rw[sgV,H.out];rfl,(zB.alloc zN _).trans (hb1.mono (by simp))⟩
     ·have H:Hid (sg1 (s.data.toList.drop at0)=(0,0)):=zH (by rw[HV.out,if_neg (fun h=>hq2 h.2)]);simp only[bH,decide_eq_true_eq] at hq2;have HK:Hid ((q:Int)<0∨1114111<(q:Int)∨(55296<=(q:Int)/\(q:Int)<=57343)):=zH (by omega);clear vY hq2;go_wp2_with (go_at_call 129;refine(gR _ _ HK.out).mono ?_;rintro e w' ⟨rfl,rfl⟩)
      go_ret2;exact⟨by rw[sgV,H.out];rfl,zB⟩
 ·obtain⟨hr1,hr2⟩:=hr;have hq:=nj (s[at0].toNat:Int) (by omega) (by omega);by_cases hlen:s.size<at0+4
  ·have H:Hid (sg1 (s.data.toList.drop at0)=(0,0)):=zH (ej _ 4 hD0 (by rw[hs0];exact sz4 _ (by omega) (by omega)) (by decide) (by simp;omega));have hl2:(s.size:Int)<(at0:Int)+4:=by omega
   clear hs0;go_enter Tryz.func128,Tryz.ntmps128
   go_wp2;go_ret2;exact⟨by rw[sgV,H.out];rfl,zB⟩
  ·have hl2:¬(s.size:Int)<(at0:Int)+4:=by omega
   have vJ:Hid (ch ((s.data.toList.drop at0)[0]'hD0).toNat=4):=zH (by rw[hs0];exact sz4 _ (by omega) (by omega));have Ag:=zH hs0;clear hs0;go_enter Tryz.func128,Tryz.ntmps128
   go_wp2;go_loopg [8,9] 3 (fun g c i wr => ∃j:Nat,j+g=3/\i=.int .i64 (1+(j:Int))/\c=.int .i64 (bf (s[at0].toNat % 8) (((s.data.toList.drop at0).drop 1).take j):Nat)/\(∀b∈((s.data.toList.drop at0).drop 1).take j,bh b=true)/\wr=w)
   case atStart=>exact⟨0,by omega,by go_num,by simp[bf],by simp,rfl⟩
   case round =>
    obtain⟨j,hj,rfl,rfl,hall,rfl⟩:=hrel;by_cases hlt:j<3
    ·have hjs:at0+(1+j)<s.size:=by omega
     have hD:∃h:j<((s.data.toList.drop at0).drop 1).length,((s.data.toList.drop at0).drop 1)[j]'h=s[at0+(1+j)]:=⟨by simp;omega,by simp only[List.getElem_drop];rfl⟩;obtain⟨hD1,hD2⟩:=hD;have hts:((s.data.toList.drop at0).drop 1).take (j+1)=((s.data.toList.drop at0).drop 1).take j ++ [s[at0+(1+j)]]:=by rw[List.take_succ_eq_append_getElem hD1,hD2]
     have hmem:s[at0+(1+j)]∈((s.data.toList.drop at0).drop 1).take 3:=by
      rw[←hD2];exact List.mem_take_iff_getElem.2 ⟨j,by simp;omega,rfl⟩
     have hb0:=(s[at0+(1+j)]).toNat_lt;have hcb:=dA (s[at0].toNat % 8) (((s.data.toList.drop at0).drop 1).take j);have yP:bf (s[at0].toNat % 8) (((s.data.toList.drop at0).drop 1).take j)<134217728:=by
      refine Nat.lt_of_lt_of_le hcb ?_;have h2:(((s.data.toList.drop at0).drop 1).take j).length<=3:=by rw[List.length_take];omega
      have h3:=dP 64 _ 3 h2 (by decide);have h4:s[at0].toNat % 8+1<=32:=by omega
      exact Nat.le_trans (Nat.mul_le_mul h4 h3) (by decide)
     have ha2:=bR ((s[at0+(1+j)]).toNat:Int) (by omega) (by omega);have hi0:(0:Int)<=(at0:Int)+(1+(j:Int)):=by omega
     have hi1:(at0:Int)+(1+(j:Int))<(s.size:Int):=by omega
     clear hcb hD2 hD1;by_cases hco:bh s[at0+(1+j)]=true
     ·have H1:Hid (bf (s[at0].toNat % 8) (((s.data.toList.drop at0).drop 1).take (j+1))=bf (s[at0].toNat % 8) (((s.data.toList.drop at0).drop 1).take j)*64+s[at0+(1+j)].toNat % 64):=zH (by rw[hts,ey]);have H2:Hid (∀b∈((s.data.toList.drop at0).drop 1).take (j+1),bh b=true):=zH (by
       rw[hts];intro b hb;rcases List.mem_append.1 hb with hb|hb
       ·exact hall b hb
       ·rw[List.mem_singleton.1 hb];exact hco)
      simp only[bh,Bool.and_eq_true,decide_eq_true_eq] at hco;have hk1:=hco.1;have hk2:=hco.2;clear hts hmem hall hco;generalize bf (s[at0].toNat % 8) (((s.data.toList.drop at0).drop 1).take j)=q at *;go_wp2;go_roundg (gk - 1)
      case measure=>omega
      case rel=>exact⟨j+1,by omega,by go_num,by rw[H1.out];go_num,H2.out,rfl⟩
     ·have H:Hid (sg1 (s.data.toList.drop at0)=(0,0)):=zH (fT _ 4 hD0 vJ.out (by decide) (by intro hh;exact hco (hh _ hmem)));have hkk:(s[at0+(1+j)]).toNat<128∨191<(s[at0+(1+j)]).toNat:=by
       simp only[bh,Bool.and_eq_true,decide_eq_true_eq] at hco;omega
      clear hts hmem hall hco;generalize bf (s[at0].toNat % 8) (((s.data.toList.drop at0).drop 1).take j)=q at *;rcases hkk with hkk|hkk
      all_goals
       go_wp2;go_ret2;exact⟨by rw[sgV,H.out];rfl,zB⟩
    ·have hjn:j=3:=by omega
     subst hjn;have hcb:=dA (s[at0].toNat % 8) (((s.data.toList.drop at0).drop 1).take 3);have hlen3:(((s.data.toList.drop at0).drop 1).take 3).length=3:=by rw[List.length_take,List.length_drop,List.length_drop];simp;omega
     rw[hlen3] at hcb;have yP:bf (s[at0].toNat % 8) (((s.data.toList.drop at0).drop 1).take 3)<2097152:=by
      have h4:s[at0].toNat % 8+1<=8:=by omega
      exact Nat.lt_of_lt_of_le hcb (Nat.le_trans (Nat.mul_le_mul_right _ h4) (by decide))
     have hV:=eY _ 4 hD0 vJ.out (by decide) (by decide) (by simp;omega) hall;rw[Ag.out,show cOf s[at0].toNat=s[at0].toNat % 8 from c4 _ (by omega) (by omega)] at hV;have HV:=zH hV;clear hV hall hcb hlen3;generalize bf (s[at0].toNat % 8) (((s.data.toList.drop at0).drop 1).take 3)=q at *;have vY:eH 4=65536:=rfl;by_cases hq2:bH q=true
     ·have HE:=zH (i6 q hq2);have xS:Hid ((cx q).length=4 ↔ 65536<=q):=zH (tM q yP);have zL:=hq2;simp only[bH,decide_eq_true_eq] at hq2;have k1:=hq2.1;have k2:=hq2.2.1;have HK:Hid ((q:Int)<55296∨57343<(q:Int)):=zH (by omega);clear hq2;by_cases hq1:65536<=q
      ·have H:Hid (sg1 (s.data.toList.drop at0)=((q:Int),4)):=zH (by rw[HV.out,if_pos ⟨by rw[vY];omega,zL⟩]);have zy:Hid ((cx q).length=4):=zH (xS.out.2 hq1);clear vY zL;go_wp2_with (first|(go_at_call 129;refine(cD _ _ (by omega) (by omega) HK.out).mono ?_;rintro e w' ⟨rfl,rfl⟩)|(go_at_call 104;refine(bK _ _ _ [(q:Int)] _ (aM rfl (by decide)) (by decide)).mono ?_;rintro e w1 ⟨rfl,hb1⟩;rw[HE.out];have hlq:=zy.out))
       go_ret2;exact⟨by rw[sgV,H.out];rfl,(zB.alloc zN _).trans (hb1.mono (by simp))⟩
      ·have H:Hid (sg1 (s.data.toList.drop at0)=(0,0)):=zH (by rw[HV.out,if_neg (by rw[vY];omega)]);have zy:Hid ((((cx q).length:Int) != 4)=true):=zH (by
        have h9:¬(cx q).length=4:=fun h=>hq1 (xS.out.1 h)
        simp;omega)
       clear vY zL;go_wp2_with (first|(go_at_call 129;refine(cD _ _ (by omega) (by omega) HK.out).mono ?_;rintro e w' ⟨rfl,rfl⟩)|(go_at_call 104;refine(bK _ _ _ [(q:Int)] _ (aM rfl (by decide)) (by decide)).mono ?_;rintro e w1 ⟨rfl,hb1⟩;rw[HE.out];have hlq:(((cx q).length:Int) != 4)=true:=zy.out))
       go_ret2;exact⟨by rw[sgV,H.out];rfl,(zB.alloc zN _).trans (hb1.mono (by simp))⟩
     ·have H:Hid (sg1 (s.data.toList.drop at0)=(0,0)):=zH (by rw[HV.out,if_neg (fun h=>hq2 h.2)]);simp only[bH,decide_eq_true_eq] at hq2;have HK:Hid ((q:Int)<0∨1114111<(q:Int)∨(55296<=(q:Int)/\(q:Int)<=57343)):=zH (by omega);clear vY hq2;go_wp2_with (go_at_call 129;refine(gR _ _ HK.out).mono ?_;rintro e w' ⟨rfl,rfl⟩)
      go_ret2;exact⟨by rw[sgV,H.out];rfl,zB⟩
theorem gw (s:ByteArray)(w:World)(hs:s.size<=1073741824) :
  Calls Tryz.prog 103 #[.string s] w fun e w' => ∃a c',e=.returned (.tuple #[.slice a (cK s.data.toList).length c',.bool (fF s.data.toList)])/\Own 3 1 w.heap.size w (.slice a (cK s.data.toList).length c') (cK s.data.toList).length (aE (cK s.data.toList)) w':=by
 go_enter Tryz.func103,Tryz.ntmps103
 go_wp2;go_loopg [4,5] s.size (fun gg o i wr => ∃(at0:Nat) (pre:List Int),at0+gg=s.size/\i=.int .i64 at0/\pre.length<=at0/\ff s.data.toList=(ff (s.data.toList.drop at0)).map (pre ++ ·)/\Own 3 1 w.heap.size w o pre.length (aE pre) wr)
 case atStart=>exact⟨0,[],by omega,rfl,by simp,by simp,by simpa[aE] using Own.lit (e:=3) (size:=1) (n:=0) (Below.refl w.heap.size w) zN #[] rfl (by decide)⟩
 case round =>
  obtain⟨at0,pre,hk,rfl,hpl,hU,vN⟩:=hrel;obtain⟨av,cv,rfl,_,_⟩:=vN.shape;by_cases hlt:at0<s.size
  ·have hne:s.data.toList.drop at0 ≠ []:=by
    intro e;have:=congrArg List.length e;simp at this;omega
   have hle:=oo (s.data.toList.drop at0);have hle1:(sg1 (s.data.toList.drop at0)).2<=s.size - at0:=by have:=hle.1;simpa using this
   have hi0:(0:Int)<=(at0:Int):=by omega
   have hi1:(at0:Int)<=(s.size:Int):=by omega
   by_cases h0:(sg1 (s.data.toList.drop at0)).2=0
   ·have hO:ff s.data.toList=none:=by rw[hU,nT _ hne h0];rfl
    have HR:Hid (cK s.data.toList = []):=zH (by unfold cK;rw[hO];rfl);have HB:Hid (fF s.data.toList=false):=zH (by unfold fF;rw[hO];rfl);have H0:=zH h0;clear hU hO hle hle1 h0 hne;go_wp2_with fail
    refine(lL s at0 _ (by omega) (by omega)).mono ?_;rintro e w1 ⟨rfl,hb1⟩;unfold sgV;rw[H0.out];go_wp2;go_ret2;rw[HR.out,HB.out];exact⟨_,_,rfl,Own.lit (vN.below.trans (hb1.mono vN.base)) (Nat.le_trans vN.base hb1.size) #[] rfl (by decide)⟩
   ·have M7:Hid (ff s.data.toList=(ff (s.data.toList.drop (at0+(sg1 (s.data.toList.drop at0)).2))).map (pre ++ [(sg1 (s.data.toList.drop at0)).1] ++ ·)):=zH (by
     rw[hU,lN _ hne h0,Option.map_map,List.drop_drop];congr 1
     funext x
     simp)
    have hz:(((sg1 (s.data.toList.drop at0)).2:Int)==0)=false:=by simp;omega
    clear hU hle hne;have hS:sgV (s.data.toList.drop at0)=.tuple #[.int .i64 (sg1 (s.data.toList.drop at0)).1,.int .i64 ((sg1 (s.data.toList.drop at0)).2:Int)]:=rfl;have HS:=zH hS;clear hS;generalize (sg1 (s.data.toList.drop at0)).2=nn at *;generalize (sg1 (s.data.toList.drop at0)).1=cc at *;go_wp2_with fail
    refine(lL s at0 _ (by omega) (by omega)).mono ?_;rintro e w1 ⟨rfl,hb1⟩;rw[HS.out];have M8:=vN.kept hb1;go_wp2_with (at_builtin;go_loud (refine cV rfl _ _ 40 rfl 3 (.int .i64 0) 1 8 Tryz.underlying40 cA rfl (by decide) w.heap.size w _ _ _ (by rfl) (by exact M8) _ _ (by rfl) (by rfl) (by intro u hu;simp at hu;first|(subst hu;rfl)|(rcases hu with rfl|rfl <;> rfl)|(rcases hu with rfl|rfl|rfl <;> rfl)) (by omega) (by unfold maxLen;omega) ?_);intro a2 c2 w2 hO2)
    go_wp2;go_roundg (gk - nn)
    case measure=>omega
    case rel=>exact⟨at0+nn,pre ++ [cc],by omega,by go_num,by simp;omega,M7.out,by rw[List.length_append,cm];exact hO2⟩
  ·have hks:at0=s.size:=by omega
   subst hks;have hO:ff s.data.toList=some pre:=by rw[hU,List.drop_of_length_le (by simp),nh];simp
   have HR:Hid (cK s.data.toList=pre):=zH (by unfold cK;rw[hO];rfl);have HB:Hid (fF s.data.toList=true):=zH (by unfold fF;rw[hO];rfl);clear hU hO;go_wp2;go_ret2;rw[HR.out,HB.out];exact⟨_,_,rfl,vN⟩
end Go.Proofs.YtlkfabkkjfmnmaaGreatDoor
