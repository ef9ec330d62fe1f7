import Derived.Test.YtlkfabkkjfmnmaaGreatDoorZaa
import Derived.Test.YtlkfabkkjfmnmaaGreatDoorZab
import Derived.Test.YtlkfabkkjfmnmaaGreatDoorZae
import Derived.Test.YtlkfabkkjfmnmaaGreatDoorZag
import Derived.Test.YtlkfabkkjfmnmaaGreatDoorZah
import Derived.Test.YtlkfabkkjfmnmaaGreatDoorZai
namespace Go.Proofs.YtlkfabkkjfmnmaaGreatDoor
open Go.RowKit
set_option linter.all false
set_option maxRecDepth 1000000
set_option maxHeartbeats 6000000
def aI (s:ByteArray):Bool:=fF s.data.toList&&decide (1<=s.size/\s.size<=24) && !(s.toList == [46]) && !(s.toList == [46,46])&&(cK s.data.toList).all bA
theorem pN (l:List UInt8)(h:fF l=false):cK l = []:=by
 unfold fF at h;unfold cK;cases e:ff l with
 | none=>rfl
 | some x=>rw[e] at h;cases h
theorem sR:∀(f:Nat) (t:List UInt8) (l:List Int),gj f t=some l->l.length<=t.length:=by
 intro f;induction f with
 | zero =>
  intro t l h;cases t with
  | nil=>simp[gj] at h;simp[h]
  | cons b r=>simp[gj] at h
 | succ f ih =>
  intro t l h;cases t with
  | nil=>simp[gj] at h;simp[h]
  | cons b r =>
   rw[eO] at h;split at h
   ·cases h
   ·rename_i h0
    obtain⟨l',hl',rfl⟩:=Option.map_eq_some_iff.1 h;have h1:=ih _ _ hl';have h2:=(oo (b::r)).1;simp only[List.length_drop,List.length_cons] at h1 h2 ⊢;omega
theorem gm (t:List UInt8):(cK t).length<=t.length:=by
 unfold cK;cases e:ff t with
 | none=>simp
 | some l=>exact sR _ _ _ e
theorem sS {α : Type}(l:List α)(p : α -> Bool)(k:Nat)(h:k<l.length)(h0:(l.take k).all p=true)(hp:p l[k]=true):(l.take (k+1)).all p=true:=by
 rw[List.take_succ_eq_append_getElem h,List.all_append,h0,List.all_cons,List.all_nil,hp];rfl
theorem ul {α : Type}(l:List α)(p : α -> Bool)(k:Nat)(h:k<l.length)(hp:p l[k]=false):l.all p=false:=by
 rw[Bool.eq_false_iff];intro c;rw[List.all_eq_true] at c;rw[c _ (List.getElem_mem h)] at hp;cases hp
theorem kt (s:ByteArray)(w:World)(hs:s.size<=1073741824)(hT:KTab w):Calls Tryz.prog 107 #[.string s] w fun e w'=>e=.returned (.bool (aI s))/\Below w.heap.size w w':=by
 have HT:=zH hT;clear hT;go_enter Tryz.func107,Tryz.ntmps107
 go_wp2_with fail
 refine(gc s _ hs).mono ?_;rintro e w1 ⟨a,c,rfl,hO⟩;have HO:=zH hO;have HD:=zH (pN s.data.toList);have HB:Hid (aI s=(fF s.data.toList&&decide (1<=s.size/\s.size<=24) && !(s.toList == [46]) && !(s.toList == [46,46])&&(cK s.data.toList).all bA)):=zH rfl;have hlen:(cK s.data.toList).length<=s.size:=Nat.le_trans (gm _) (Nat.le_of_eq Array.length_toList);clear hO;generalize cK s.data.toList=l at *;generalize fF s.data.toList=ok at *;cases ok with
 | false =>
  go_wp2;go_ret;exact⟨ah (by rw[HB.out];rfl),HO.out.below⟩
 | true =>
  by_cases hin:1<=s.size/\s.size<=24
  ·have HI:=zH hin;obtain⟨h1,h2⟩:=hin;cases h46:(s.toList == [46]) with
   | true =>
    go_wp2_with (first|(go_at_call 51;(first|refine(am _ _ _ _ (by omega) (by omega)).mono ?_|refine(aB _ _ _ _ (by omega)).mono ?_);rintro e w' ⟨rfl,rfl⟩))
    go_ret;exact⟨ah (by rw[HB.out,h46];simp),HO.out.below⟩
   | false =>
    cases h47:(s.toList == [46,46]) with
    | true =>
     go_wp2_with (first|(go_at_call 51;(first|refine(am _ _ _ _ (by omega) (by omega)).mono ?_|refine(aB _ _ _ _ (by omega)).mono ?_);rintro e w' ⟨rfl,rfl⟩))
     go_ret;exact⟨ah (by rw[HB.out,h47];simp),HO.out.below⟩
    | false =>
     have HF:Hid (aI s=l.all bA):=zH (by rw[HB.out,h46,h47,decide_eq_true HI.out];simp);clear HB HD HI;go_wp2_with (first|(go_at_call 51;(first|refine(am _ _ _ _ (by omega) (by omega)).mono ?_|refine(aB _ _ _ _ (by omega)).mono ?_);rintro e w' ⟨rfl,rfl⟩))
     go_loopg [6,30] l.length (fun gg x6 i wr => ∃k:Nat,k+gg=l.length/\i=.int .i64 (k:Int)/\Hid ((l.take k).all bA=true)/\Hid (Below w1.heap.size w1 wr))
     case atStart=>exact⟨0,by omega,rfl,zH rfl,zH zB⟩
     case round =>
      obtain⟨k,hk,rfl,HA,HW⟩:=hrel;by_cases hlt:k<l.length
      ·have hr:=(HO.out.rd.below HW.out zN);obtain⟨b,off,rfl,hbs,hc⟩:=hr.at' (by omega);have hc1:=hc k (by simpa using hlt);rw[br l k hlt] at hc1;have HN:=zH (sS l bA k hlt HA.out);have HX:=zH (ul l bA k hlt);have hi:(k:Int)<(l.length:Int):=by omega
       have PU:=zH ((HT.out.step HO.out.below).below HW.out zN);clear hc hr hbs;generalize l[k]=x at *;clear hlt;go_wp2_with fail
       refine(lg x _ PU.out).mono ?_;rintro e w2 ⟨rfl,hb⟩;have HW2:=zH (HW.out.trans (hb.mono HW.out.size));clear hb;cases hkx:bA x with
       | true =>
        have yf:=zH (HN.out hkx);clear HN HX hkx;go_wp2;go_roundg (gk - 1)
        case measure=>omega
        case rel=>exact⟨k+1,by omega,by go_num,yf,HW2⟩
       | false =>
        have HE:=zH (HX.out hkx);clear HN HX hkx;go_wp2;go_ret;exact⟨ah (by rw[HF.out];exact HE.out.symm),HO.out.below.trans (HW2.out.mono HO.out.below.size)⟩
      ·have hi:¬(k:Int)<(l.length:Int):=by omega
       have HE:Hid (l.all bA=true):=zH (by have:=HA.out;rwa [List.take_of_length_le (by omega)] at this);go_wp2;go_ret;exact⟨ah (by rw[HF.out];exact HE.out.symm),HO.out.below.trans (HW.out.mono HO.out.below.size)⟩
  ·have HI:=zH hin;have hin2:(s.size:Int)<1∨24<(s.size:Int):=by omega
   clear hin;go_wp2_with (first|(go_at_call 51;(first|refine(am _ _ _ _ (by omega) (by omega)).mono ?_|refine(aB _ _ _ _ (by omega)).mono ?_);rintro e w' ⟨rfl,rfl⟩))
   go_ret;exact⟨ah (by rw[HB.out,decide_eq_false HI.out];rfl),HO.out.below⟩
theorem cB (s:ByteArray)(w:World)(hs:s.size<=1073741824):Calls Tryz.prog 93 #[.string s] w fun e w'=>e=.returned (.bool (aI s))/\Below w.heap.size w w':=by
 have HD:=zH (pN s.data.toList);have HB:Hid (aI s=(fF s.data.toList&&decide (1<=s.size/\s.size<=24) && !(s.toList == [46]) && !(s.toList == [46,46])&&(cK s.data.toList).all bA)):=zH rfl;by_cases hin:1<=s.size/\s.size<=24
 ·have HI:=zH hin;obtain⟨h1,h2⟩:=hin;cases h46:(s.toList == [46]) with
  | true =>
   go_enter Tryz.func93,Tryz.ntmps93
   go_wp2_with (first|(go_at_call 39;(first|refine(ao _ _ _ _ (by omega) (by omega)).mono ?_|refine(aG _ _ _ _ (by omega)).mono ?_);rintro e w' ⟨rfl,rfl⟩))
   go_ret;exact⟨ah (by rw[HB.out,h46];simp),zB⟩
  | false =>
   cases h47:(s.toList == [46,46]) with
   | true =>
    go_enter Tryz.func93,Tryz.ntmps93
    go_wp2_with (first|(go_at_call 39;(first|refine(ao _ _ _ _ (by omega) (by omega)).mono ?_|refine(aG _ _ _ _ (by omega)).mono ?_);rintro e w' ⟨rfl,rfl⟩))
    go_ret;exact⟨ah (by rw[HB.out,h47];simp),zB⟩
   | false =>
    have HF:Hid (aI s=(fF s.data.toList&&(cK s.data.toList).all bA)):=zH (by rw[HB.out,h46,h47,decide_eq_true HI.out];simp);clear HB HI;go_enter Tryz.func93,Tryz.ntmps93
    go_wp2_with (first|(go_at_call 39;(first|refine(ao _ _ _ _ (by omega) (by omega)).mono ?_|refine(aG _ _ _ _ (by omega)).mono ?_);rintro e w' ⟨rfl,rfl⟩)|fail)
    refine(gw s _ hs).mono ?_;rintro e w1 ⟨a,c,rfl,hO⟩;have HO:=zH hO;have hlen:(cK s.data.toList).length<=s.size:=Nat.le_trans (gm _) (Nat.le_of_eq Array.length_toList);clear hO;generalize cK s.data.toList=l at *;generalize fF s.data.toList=ok at *;go_wp2;go_loopg [4,5] l.length (fun gg b i wr => ∃k:Nat,k+gg=l.length/\i=.int .i64 (k:Int)/\b=.bool (ok&&(l.take k).all bA)/\Hid (Below w1.heap.size w1 wr))
    case atStart=>exact⟨0,by omega,rfl,by simp,zH zB⟩
    case round =>
     obtain⟨k,hk,rfl,rfl,HW⟩:=hrel;by_cases hlt:k<l.length
     ·have hr:=(HO.out.rd.below HW.out zN);obtain⟨b,off,rfl,hbs,hc⟩:=hr.at' (by omega);have hc1:=hc k (by simpa using hlt);rw[br l k hlt] at hc1;have HN:Hid ((ok&&(l.take (k+1)).all bA)=(ok&&(l.take k).all bA&&bA l[k])):=zH (by rw[List.take_succ_eq_append_getElem hlt,List.all_append,List.all_cons,List.all_nil,Bool.and_true,Bool.and_assoc]);have hi:(k:Int)<(l.length:Int):=by omega
      clear hc hr hbs;generalize l[k]=x at *;generalize (ok&&(l.take k).all bA)=t at *;clear hlt;cases t with
      | true =>
       go_wp2_with fail
       refine(la x _).mono ?_;rintro e w2 ⟨rfl,hb⟩;have HW2:=zH (HW.out.trans (hb.mono HW.out.size));clear hb;go_wp2;go_roundg (gk - 1)
       case measure=>omega
       case rel=>exact⟨k+1,by omega,by go_num,by rw[HN.out];simp,HW2⟩
      | false =>
       go_wp2;go_roundg (gk - 1)
       case measure=>omega
       case rel=>exact⟨k+1,by omega,by go_num,by rw[HN.out];rfl,HW⟩
     ·have hi:¬(k:Int)<(l.length:Int):=by omega
      have HE:Hid ((ok&&(l.take k).all bA)=(ok&&l.all bA)):=zH (by rw[List.take_of_length_le (by omega)]);go_wp2;go_ret;exact⟨ah (by rw[HF.out];exact HE.out),HO.out.below.trans (HW.out.mono HO.out.below.size)⟩
 ·have HI:=zH hin;have hin2:(s.size:Int)<1∨24<(s.size:Int):=by omega
  clear hin;go_enter Tryz.func93,Tryz.ntmps93
  go_wp2_with (first|(go_at_call 39;(first|refine(ao _ _ _ _ (by omega) (by omega)).mono ?_|refine(aG _ _ _ _ (by omega)).mono ?_);rintro e w' ⟨rfl,rfl⟩))
  go_ret;exact⟨ah (by rw[HB.out,decide_eq_false HI.out];simp),zB⟩
theorem ix (l:List UInt8):0<=iu l/\iu l<=4294967295:=by
 have:=mq l;unfold iu;omega
theorem q7 (x:Int):∀(n:Nat) (c:Int),x∈aU n c->x=c∨(0<=x/\x<=65535):=by
 intro n;induction n with
 | zero=>intro c h;left;simpa[aU] using h
 | succ n ih =>
  intro c h;rw[aU] at h;split at h
  ·left;simpa using h
  ·obtain⟨y,hy,hx⟩:=List.mem_flatMap.1 h;rcases ih y hx with rfl|h2
   ·exact .inr (mh c x hy)
   ·exact .inr h2
theorem jJ (l:List Int)(h:∀x∈l,0<=x/\x<=1114143):∀x∈bq l,0<=x/\x<=1114143:=by
 intro x hx;unfold bq at hx;rw[pq] at hx;obtain⟨c,hc,hx⟩:=List.mem_flatMap.1 hx;rcases q7 x 3 c hx with rfl|h2
 ·exact h x hc
 ·omega
theorem l8 (t:List UInt8):∀x∈cK t,0<=x/\x<=1114143:=by
 intro x hx;unfold cK at hx;cases e:ff t with
 | none=>rw[e] at hx;simp at hx
 | some l =>
  rw[e] at hx;have:=(i9 x).1 (rJ t l e x hx);omega
def ds (s:ByteArray):ByteArray:=⟨(fp (tP (cK s.data.toList))).toArray⟩
def eV (s:ByteArray):ByteArray:=if aI s=true then ds s else ByteArray.empty
def RQ (s t:ByteArray):Bool:=aI s&&aI t&&(ds s).toList==(ds t).toList
def a7 (s:ByteArray):Int:=if aI s=true then iu (ds s).data.toList % 16 else -1
theorem aL (s:ByteArray)(h:aI s=true):s.size<=24:=by
 unfold aI at h;simp only[Bool.and_eq_true,decide_eq_true_eq] at h;exact h.1.1.1.2.2
theorem qt (l:List Int):(fp l).length<=4*l.length:=by
 have h1:=iI l;unfold fp;split <;> simp <;> omega
theorem jq (s:ByteArray)(h:aI s=true):(ds s).size<=1000000:=by
 have h0:=aL s h;have h1:=gm s.data.toList;have h2:s.data.toList.length=s.size:=Array.length_toList;have h3:=dG (cK s.data.toList);have h4:=fz (bq (cK s.data.toList));have h5:=dG (bY (bq (cK s.data.toList)));have h6:=qt (tP (cK s.data.toList));have h7:(ds s).size=(fp (tP (cK s.data.toList))).length:=List.size_toArray;unfold tP at h6 h7;omega
theorem hZ (s:ByteArray)(w:World)(hs:s.size<=1073741824)(hT:KTab w):Calls Tryz.prog 80 #[.string s] w fun e w'=>e=.returned (.tuple #[.string (eV s),.bool (aI s)])/\Below w.heap.size w w':=by
 have HT:=zH hT;clear hT;go_enter Tryz.func80,Tryz.ntmps80
 go_wp2_with fail
 refine(kt s _ hs HT.out).mono ?_;rintro e w1 ⟨rfl,hb⟩;have HB1:=zH hb;clear hb;have HK:Hid (eV s=if aI s=true then ds s else ByteArray.empty):=zH rfl;have vJ:Hid (aI s=true->s.size<=24):=zH (aL s);obtain⟨nb,hnb⟩:∃b,aI s=b:=⟨_,rfl⟩;rw[hnb] at HK vJ ⊢;have HN:=zH hnb;clear hnb;cases nb with
 | false =>
  go_wp2;go_ret2;exact⟨by rw[HK.out,HN.out];rfl,HB1.out⟩
 | true =>
  have Na:=vJ.out rfl;go_wp2_with fail
  refine(gc s _ hs).mono ?_;rintro e w2 ⟨a1,c1,rfl,hO⟩;have HR:=zH hO.rd;have HB2:=zH (ac HB1.out hO.below);have hl1:(cK s.data.toList).length<=24:=by have h1:=gm s.data.toList;have h2:s.data.toList.length=s.size:=Array.length_toList;omega
  have HW:=zH (l8 s.data.toList);have CU:Hid (eV s=⟨(fp (bq (bY (bq (cK s.data.toList))))).toArray⟩):=zH HK.out;clear hO HB1 HK vJ;generalize cK s.data.toList=l1 at *;generalize fF s.data.toList=b1 at *;go_wp2_with fail
  refine(ig _ _ _ l1 _ HR.out (by omega)).mono ?_;rintro e w3 ⟨a2,c2,rfl,hO⟩;have HR2:=zH hO.rd;have HB3:=zH (ac HB2.out hO.below);have hl2:=dG l1;have HW2:=zH (jJ l1 HW.out);clear hO HR HB2 HW;generalize bq l1=l2 at *;go_wp2_with fail
  refine(mf _ _ _ l2 _ HR2.out (by omega) (fun x hx=>by have:=HW2.out x hx;omega)).mono ?_;rintro e w4 ⟨a3,c3,rfl,hO⟩;have HR3:=zH hO.rd;have vX:=zH (ac HB3.out hO.below);have hl3:=fz l2;clear hO HR2 HB3 HW2;generalize bY l2=l3 at *;go_wp2_with fail
  refine(ig _ _ _ l3 _ HR3.out (by omega)).mono ?_;rintro e w5 ⟨a4,c4,rfl,hO⟩;have HR4:=zH hO.rd;have vg:=zH (ac vX.out hO.below);have hl4:=dG l3;clear hO HR3 vX;generalize bq l3=l4 at *;go_wp2_with fail
  refine(j4 _ _ _ l4 _ HR4.out (by omega)).mono ?_;rintro e w6 ⟨rfl,hb⟩;have wu:=zH (ac vg.out hb);clear hb HR4 vg;go_wp2;go_ret2;exact⟨by rw[CU.out,HN.out];rfl,wu.out⟩
theorem j6 (s:ByteArray)(w:World)(hs:s.size<=1073741824)(hT:KTab w):Calls Tryz.prog 54 #[.string s] w fun e w'=>e=.returned (.int .i64 (a7 s))/\Below w.heap.size w w':=by
 have HT:=zH hT;clear hT;go_enter Tryz.func54,Tryz.ntmps54
 go_wp2_with fail
 refine(hZ s _ hs HT.out).mono ?_;rintro e w1 ⟨rfl,hb⟩;have HB1:=zH hb;clear hb;have HH:Hid (a7 s=if aI s=true then iu (ds s).data.toList % 16 else -1):=zH rfl;have CB:Hid (eV s=if aI s=true then ds s else ByteArray.empty):=zH rfl;have HZ:Hid (aI s=true->(ds s).size<=1000000):=zH (jq s);generalize aI s=b1 at *;cases b1 with
 | false =>
  go_wp2;go_ret;exact⟨eI (by rw[HH.out];rfl),HB1.out⟩
 | true =>
  have Nb:Hid (a7 s=iu (eV s).data.toList % 16):=zH (by rw[HH.out,CB.out];rfl);have hz:(eV s).size<=140737488355328:=by have h1:=HZ.out rfl;have h2:eV s=ds s:=CB.out;rw[h2];omega
  clear HH CB HZ;generalize eV s=x at *;have hc:=ix x.data.toList;go_wp2_with fail
  refine(jC x _ hz).mono ?_;rintro e w2 ⟨rfl,rfl⟩;generalize iu x.data.toList=y at *;have hy:y.tmod 16=y % 16:=Int.tmod_eq_emod_of_nonneg hc.1;have MJ:IntKind.i64.wrap (y.tmod 16)=y % 16:=by rw[hy];exact IntWalk.i64_in _ ⟨by omega,by omega⟩
  go_wp2;go_ret;exact⟨eI (by rw[Nb.out]),HB1.out⟩
theorem fo (s:ByteArray)(w:World)(hs:s.size<=1073741824):Calls Tryz.prog 78 #[.string s] w fun e w'=>e=.returned (.tuple #[.string (eV s),.bool (aI s)])/\Below w.heap.size w w':=by
 go_enter Tryz.func78,Tryz.ntmps78
 go_wp2_with fail
 refine(cB s _ hs).mono ?_;rintro e w1 ⟨rfl,hb⟩;have HB1:=zH hb;clear hb;have HK:Hid (eV s=if aI s=true then ds s else ByteArray.empty):=zH rfl;have vJ:Hid (aI s=true->s.size<=24):=zH (aL s);obtain⟨nb,hnb⟩:∃b,aI s=b:=⟨_,rfl⟩;rw[hnb] at HK vJ ⊢;have HN:=zH hnb;clear hnb;cases nb with
 | false =>
  go_wp2;go_ret2;exact⟨by rw[HK.out,HN.out];rfl,HB1.out⟩
 | true =>
  have Na:=vJ.out rfl;go_wp2_with fail
  refine(gw s _ hs).mono ?_;rintro e w2 ⟨a1,c1,rfl,hO⟩;have HR:=zH hO.rd;have HB2:=zH (ac HB1.out hO.below);have hl1:(cK s.data.toList).length<=24:=by have h1:=gm s.data.toList;have h2:s.data.toList.length=s.size:=Array.length_toList;omega
  have HW:=zH (l8 s.data.toList);have CU:Hid (eV s=⟨(fp (bq (bY (bq (cK s.data.toList))))).toArray⟩):=zH HK.out;clear hO HB1 HK vJ;generalize cK s.data.toList=l1 at *;generalize fF s.data.toList=b1 at *;go_wp2_with fail
  refine(ia _ _ _ l1 _ HR.out (by omega)).mono ?_;rintro e w3 ⟨a2,c2,rfl,hO⟩;have HR2:=zH hO.rd;have HB3:=zH (ac HB2.out hO.below);have hl2:=dG l1;have HW2:=zH (jJ l1 HW.out);clear hO HR HB2 HW;generalize bq l1=l2 at *;go_wp2_with fail
  refine(my _ _ _ l2 _ HR2.out (by omega) (fun x hx=>by have:=HW2.out x hx;omega)).mono ?_;rintro e w4 ⟨a3,c3,rfl,hO⟩;have HR3:=zH hO.rd;have vX:=zH (ac HB3.out hO.below);have hl3:=fz l2;clear hO HR2 HB3 HW2;generalize bY l2=l3 at *;go_wp2_with fail
  refine(ia _ _ _ l3 _ HR3.out (by omega)).mono ?_;rintro e w5 ⟨a4,c4,rfl,hO⟩;have HR4:=zH hO.rd;have vg:=zH (ac vX.out hO.below);have hl4:=dG l3;clear hO HR3 vX;generalize bq l3=l4 at *;go_wp2_with fail
  refine(bK _ _ _ l4 _ HR4.out (by omega)).mono ?_;rintro e w6 ⟨rfl,hb⟩;have wu:=zH (ac vg.out hb);clear hb HR4 vg;go_wp2;go_ret2;exact⟨by rw[CU.out,HN.out];rfl,wu.out⟩
theorem dx (s t:ByteArray)(w:World)(hs:s.size<=1073741824)(ht:t.size<=1073741824):Calls Tryz.prog 95 #[.string s,.string t] w fun e w'=>e=.returned (.bool (RQ s t))/\Below w.heap.size w w':=by
 go_enter Tryz.func95,Tryz.ntmps95
 go_wp2_with fail
 refine(fo s _ hs).mono ?_;rintro e w1 ⟨rfl,hb⟩;have HB1:=zH hb;clear hb;go_wp2_with fail
 refine(fo t _ ht).mono ?_;rintro e w2 ⟨rfl,hb⟩;have HB2:=zH (ac HB1.out hb);clear hb HB1;have HA:Hid (RQ s t=(aI s&&aI t&&(ds s).toList==(ds t).toList)):=zH rfl;have CB:Hid (eV s=if aI s=true then ds s else ByteArray.empty):=zH rfl;have CU:Hid (eV t=if aI t=true then ds t else ByteArray.empty):=zH rfl;generalize aI s=b1 at *;generalize aI t=b2 at *;cases b1 with
 | false =>
  go_wp2;go_ret;exact⟨ah (by rw[HA.out];rfl),HB2.out⟩
 | true =>
  cases b2 with
  | false =>
   go_wp2;go_ret;exact⟨ah (by rw[HA.out];rfl),HB2.out⟩
  | true =>
   have HA2:Hid (RQ s t=((eV s).toList==(eV t).toList)):=zH (by rw[HA.out,CB.out,CU.out];simp);clear HA CB CU;generalize eV s=x at *;generalize eV t=y at *;cases he:(x.toList==y.toList) with
   | true =>
    have HE:=zH he;go_wp2;go_ret;exact⟨ah (by rw[HA2.out,HE.out]),HB2.out⟩
   | false =>
    have HE:=zH he;go_wp2;go_ret;exact⟨ah (by rw[HA2.out,HE.out]),HB2.out⟩
theorem dg (s:ByteArray)(w:World)(hs:s.size<=1073741824):Calls Tryz.prog 50 #[.string s] w fun e w'=>e=.returned (.int .i64 (a7 s))/\Below w.heap.size w w':=by
 go_enter Tryz.func50,Tryz.ntmps50
 go_wp2_with fail
 refine(fo s _ hs).mono ?_;rintro e w1 ⟨rfl,hb⟩;have HB1:=zH hb;clear hb;have HH:Hid (a7 s=if aI s=true then iu (ds s).data.toList % 16 else -1):=zH rfl;have CB:Hid (eV s=if aI s=true then ds s else ByteArray.empty):=zH rfl;have HZ:Hid (aI s=true->(ds s).size<=1000000):=zH (jq s);generalize aI s=b1 at *;cases b1 with
 | false =>
  go_wp2;go_ret;exact⟨eI (by rw[HH.out];rfl),HB1.out⟩
 | true =>
  have Nb:Hid (a7 s=iu (eV s).data.toList % 16):=zH (by rw[HH.out,CB.out];rfl);have hz:(eV s).size<=140737488355328:=by have h1:=HZ.out rfl;have h2:eV s=ds s:=CB.out;rw[h2];omega
  clear HH CB HZ;generalize eV s=x at *;have hc:=ix x.data.toList;go_wp2_with fail
  refine(nZ x _ hz).mono ?_;rintro e w2 ⟨rfl,rfl⟩;generalize iu x.data.toList=y at *;have hy:y.tmod 16=y % 16:=Int.tmod_eq_emod_of_nonneg hc.1;have MJ:IntKind.i64.wrap (y.tmod 16)=y % 16:=by rw[hy];exact IntWalk.i64_in _ ⟨by omega,by omega⟩
  go_wp2;go_ret;exact⟨eI (by rw[Nb.out]),HB1.out⟩
def dm (h1 k1 h2 k2:Int):Bool:=decide (h1<h2) || (decide (h1=h2)&&decide (k1<k2))
theorem nF {h1 k1 h2 k2:Int}(h:h1<h2):dm h1 k1 h2 k2=true:=by unfold dm;rw[decide_eq_true h];rfl
theorem n3 {h1 k1 h2 k2:Int}(h:h2<h1):dm h1 k1 h2 k2=false:=by unfold dm;rw[decide_eq_false (by omega),decide_eq_false (by omega)];rfl
theorem mQ {h k1 k2:Int} : dm h k1 h k2=decide (k1<k2):=by unfold dm;rw[decide_eq_false (by omega),decide_eq_true rfl];rfl
theorem mB (x:EntL)(h k:Int)(w:World):Calls Tryz.prog 114 #[enV x,.int .i64 h,.int .i64 k] w fun e w'=>e=.returned (.bool (dm h k x.hash x.index))/\Below w.heap.size w w':=by
 obtain⟨a,b,c,d⟩:=x;unfold enV;simp only;by_cases h1:h<a
 ·rw[nF h1];go_enter Tryz.func114,Tryz.ntmps114
  go_wp2;go_ret;exact⟨rfl,(zB.alloc zN _)⟩
 ·by_cases h2:a=h
  ·subst h2;rw[mQ];go_enter Tryz.func114,Tryz.ntmps114
   go_wp2;go_ret;exact⟨rfl,(zB.alloc zN _)⟩
  ·rw[n3 (by omega)];go_enter Tryz.func114,Tryz.ntmps114
   go_wp2;go_ret;exact⟨rfl,(zB.alloc zN _)⟩
theorem iw (x:EntL)(h k:Int)(w:World):Calls Tryz.prog 94 #[enV x,.int .i64 h,.int .i64 k] w fun e w'=>e=.returned (.bool (dm x.hash x.index h k))/\Below w.heap.size w w':=by
 obtain⟨a,b,c,d⟩:=x;unfold enV;simp only;by_cases h1:a<h
 ·rw[nF h1];go_enter Tryz.func94,Tryz.ntmps94
  go_wp2;go_ret;exact⟨rfl,(zB.alloc zN _)⟩
 ·by_cases h2:a=h
  ·subst h2;rw[mQ];go_enter Tryz.func94,Tryz.ntmps94
   go_wp2;go_ret;exact⟨rfl,(zB.alloc zN _)⟩
  ·rw[n3 (by omega)];go_enter Tryz.func94,Tryz.ntmps94
   go_wp2;go_ret;exact⟨rfl,(zB.alloc zN _)⟩
theorem sN (x:Int)(w:World)(h:1<=x/\x<=100000):Calls Tryz.prog 113 #[.int .i64 x] w fun e w'=>e=.returned (.bool true)/\w=w':=by
 obtain⟨h0,h1⟩:=h;go_enter Tryz.func113,Tryz.ntmps113
 go_wp2_with (first|(go_at_call 51;(first|refine(am _ _ _ _ (by omega) (by omega)).mono ?_|refine(aB _ _ _ _ (by omega)).mono ?_);rintro e w' ⟨rfl,rfl⟩))
 go_ret;exact⟨rfl,rfl⟩
theorem tJ (x:Int)(w:World)(h:x<1∨100000<x):Calls Tryz.prog 113 #[.int .i64 x] w fun e w'=>e=.returned (.bool false)/\w=w':=by
 go_enter Tryz.func113,Tryz.ntmps113
 go_wp2_with (first|(go_at_call 51;(first|refine(am _ _ _ _ (by omega) (by omega)).mono ?_|refine(aB _ _ _ _ (by omega)).mono ?_);rintro e w' ⟨rfl,rfl⟩))
 go_ret;exact⟨rfl,rfl⟩
def eG (l:List ByteArray)(x:ByteArray):Bool:=l.any (fun t=>x.toList==t.toList)
def uP (l:List ByteArray)(x:ByteArray)(w:World)(e:Ending)(w':World):Prop := ∃r:Int,e=.returned (.int .i64 r)/\decide (0<=r)=eG l x/\w=w'
theorem tB (a:Option Addr)(n cap:Nat)(l:List ByteArray)(x:ByteArray)(w:World)(h:Rd w a n cap 1 (cR l))(hn:n<=1073741824) :
  Calls Tryz.prog 139 #[.slice a n cap,.string x] w (uP l x w):=by
 have hl:l.length=n:=by have:=h.len;simp at this;omega
 subst hl;have H:=zH h;clear h;go_enter Tryz.func139,Tryz.ntmps139
 go_wp2;go_loopg [8] l.length (fun gg i wr => ∃k:Nat,k+gg=l.length/\i=.int .i64 (k:Int)/\Hid (eG (l.take k) x=false)/\wr=w)
 case atStart=>exact⟨0,by omega,rfl,zH rfl,rfl⟩
 case round =>
  obtain⟨k,hk,rfl,HA,rfl⟩:=hrel;by_cases hlt:k<l.length
  ·obtain⟨b,off,rfl,hbs,hc⟩:=H.out.at' (by omega);have hc0:=hc k (by simpa using hlt);rw[cE l k hlt] at hc0;have hi:(k:Int)<(l.length:Int):=by omega
   have hi0:(0:Int)<=(k:Int):=by omega
   have HY:Hid ((x.toList==l[k].toList)=true->eG l x=true):=zH (fun e=>List.any_eq_true.2 ⟨l[k],List.getElem_mem hlt,e⟩);have HN:Hid ((x.toList==l[k].toList)=false->eG (l.take (k+1)) x=false):=zH (fun e=>by
    have:=HA.out;unfold eG at this ⊢;rw[List.take_succ_eq_append_getElem hlt,List.any_append,this,List.any_cons,e];rfl)
   clear hc H;generalize l[k]=y at *;cases hq:(x.toList==y.toList) with
   | true =>
    have xG:=zH (HY.out hq);clear HY HN;go_wp2;go_ret;exact⟨_,rfl,by rw[xG.out];exact decide_eq_true hi0,rfl⟩
   | false =>
    have yf:=zH (HN.out hq);clear HY HN;go_wp2;go_roundg (gk - 1)
    case measure=>omega
    case rel=>exact⟨k+1,by omega,by go_num,yf,rfl⟩
  ·have hkl:k=l.length:=by omega
   subst hkl;rw[List.take_length] at HA;go_wp2;go_ret;exact⟨-1,rfl,by rw[HA.out];decide,rfl⟩
theorem sK (a:Option Addr)(n cap:Nat)(l:List ByteArray)(x:ByteArray)(w:World)(h:Rd w a n cap 1 (cR l))(hn:n<=1073741824) :
  Calls Tryz.prog 112 #[.slice a n cap,.string x] w fun e w'=>e=.returned (.bool (eG l x))/\w=w':=by
 have H:=zH h;clear h;go_enter Tryz.func112,Tryz.ntmps112
 go_wp2_with fail
 refine(tB a n cap l x _ H.out hn).mono ?_;rintro e w1 ⟨r,rfl,hr,rfl⟩;have HR:=zH hr;clear hr;go_wp2;go_ret;exact⟨ah HR.out,rfl⟩
def EntL.row (x:EntL):Bool:=aI x.name&&decide (a7 x.name=x.hash)&&decide (0<=x.index/\x.index<=12)&&decide (1<=x.id/\x.id<=100000)
def cO (l:List EntL)(i:Nat)(x:EntL):Bool := !(l.take i).any (fun d=>RQ d.name x.name)
def dr (l:List EntL)(i:Nat)(x:EntL):Bool:=i==0 || dm (l.getD (i - 1) ak).hash (l.getD (i - 1) ak).index x.hash x.index
def fd (l:List EntL)(i:Nat):Bool:=(l.getD i ak).row&&dr l i (l.getD i ak)&&cO l i (l.getD i ak)
def fb (l:List EntL)(i:Nat):Bool:=(List.range i).all (fd l)
def du (l:List EntL):Bool:=decide (l.length<=12)&&fb l l.length
theorem iT (l:List EntL)(i:Nat)(h:i<l.length):l.getD i ak=l[i]:=by rw[List.getD_eq_getElem?_getD,List.getElem?_eq_getElem h];rfl
theorem kQ (l:List EntL)(i:Nat):fb l (i+1)=(fb l i&&fd l i):=by unfold fb;rw[List.range_succ,List.all_append];simp
theorem ta (l:List EntL)(i n:Nat)(h:i<n)(he:fd l i=false):fb l n=false:=by
 unfold fb;rw[List.all_eq_false];exact⟨i,List.mem_range.2 h,by rw[he];decide⟩
theorem pF (l:List EntL)(i:Nat)(h:i<l.length)(he:fd l i=false):du l=false:=by unfold du;rw[ta l i _ h he,Bool.and_false]
theorem mW (l:List EntL)(n:Nat)(h:fb l n=true)(i:Nat)(hi:i<n):fd l i=true:=by
 unfold fb at h;exact List.all_eq_true.1 h i (List.mem_range.2 hi)
theorem sW {x:EntL}(h:x.row=true):aI x.name=true:=by unfold EntL.row at h;simp only[Bool.and_eq_true] at h;exact h.1.1.1
theorem lM {l:List EntL}{i:Nat}(h:fd l i=true):(l.getD i ak).row=true:=by unfold fd at h;simp only[Bool.and_eq_true] at h;exact h.1.1
theorem pk (l:List EntL)(i:Nat)(hi:i<=l.length)(h:fb l i=true)(x:EntL)(hx:aI x.name=true) :
  eG ((l.take i).map fun d=>ds d.name) (ds x.name)=(l.take i).any (fun d=>RQ d.name x.name):=by
 have hall:∀d∈l.take i,aI d.name=true:=by
  intro d hd;obtain⟨j,hj,e⟩:=List.mem_iff_getElem.1 hd;have hji:j<i:=by have:=hj;rw[List.length_take] at this;omega
  have h1:=lM (mW l i h j hji);rw[iT l j (by omega)] at h1;rw[List.getElem_take] at e;rw[←e];exact sW h1
 unfold eG;rw[List.any_map];generalize l.take i=m at hall;induction m with
 | nil=>rfl
 | cons d m ih =>
  rw[List.any_cons,List.any_cons,ih (fun d hd=>hall d (List.mem_cons_of_mem _ hd))];congr 1
  show ((ds x.name).toList==(ds d.name).toList)=RQ d.name x.name;unfold RQ;rw[hall d (List.mem_cons_self ..),hx];simp only[Bool.true_and];exact Bool.eq_iff_iff.2 (by simp only[beq_iff_eq];exact eq_comm)
theorem iJ (l:List EntL)(i:Nat)(h:i<l.length):fd l i=(l[i].row&&dr l i l[i]&&cO l i l[i]):=by unfold fd;rw[iT l i h]
theorem i8 (l:List EntL)(i:Nat)(h:i<l.length)(e:l[i].row=false):fd l i=false:=by rw[iJ l i h,e];rfl
theorem gC (l:List EntL)(i:Nat)(h:i<l.length)(e:dr l i l[i]=false):fd l i=false:=by rw[iJ l i h,e];simp
theorem gD (l:List EntL)(i:Nat)(h:i<l.length)(e:cO l i l[i]=false):fd l i=false:=by rw[iJ l i h,e];simp
theorem lG (l:List EntL)(i:Nat)(h:i<l.length)(e1:l[i].row=true)(e2:dr l i l[i]=true)(e3:cO l i l[i]=true):fd l i=true:=by rw[iJ l i h,e1,e2,e3];rfl
theorem jD (l:List EntL)(i:Nat)(h:i<l.length)(x:EntL):dr l (i+1) x=dm l[i].hash l[i].index x.hash x.index:=by
 unfold dr;rw[Nat.add_sub_cancel,iT l i h];rfl
theorem pJ {x:EntL}(h:aI x.name=false):x.row=false:=by unfold EntL.row;rw[h];rfl
theorem pY {x:EntL}(h:¬a7 x.name=x.hash):x.row=false:=by unfold EntL.row;rw[decide_eq_false h];simp
theorem pM {x:EntL}(h:x.index<0∨12<x.index):x.row=false:=by unfold EntL.row;rw[decide_eq_false (show ¬(0<=x.index/\x.index<=12) by omega)];simp
theorem px {x:EntL}(h:x.id<1∨100000<x.id):x.row=false:=by unfold EntL.row;rw[decide_eq_false (show ¬(1<=x.id/\x.id<=100000) by omega)];simp
theorem pV {x:EntL}(h1:aI x.name=true)(h2:a7 x.name=x.hash)(h3:0<=x.index/\x.index<=12)(h4:1<=x.id/\x.id<=100000):x.row=true:=by unfold EntL.row;rw[h1,decide_eq_true h2,decide_eq_true h3,decide_eq_true h4];rfl
theorem sI (l:List EntL)(k m:Nat)(hm:m<k)(hk:k<=l.length)(x:EntL)(e:RQ (l[m]'(by omega)).name x.name=true):cO l k x=false:=by
 unfold cO;rw[List.any_eq_true.2 ⟨l[m]'(by omega),?_,e⟩]
 ·rfl
 ·rw[List.mem_iff_getElem];exact⟨m,by rw[List.length_take];omega,by rw[List.getElem_take]⟩
theorem qP (l:List EntL)(k:Nat)(x:EntL)(e:(l.take k).any (fun d=>RQ d.name x.name)=false):cO l k x=true:=by unfold cO;rw[e];rfl
theorem kL (l:List EntL)(m:Nat)(hm:m<l.length)(p:EntL->Bool)(h:(l.take m).any p=false)(e:p l[m]=false):(l.take (m+1)).any p=false:=by
 rw[List.take_succ_eq_append_getElem hm,List.any_append,h,List.any_cons,e];rfl
end Go.Proofs.YtlkfabkkjfmnmaaGreatDoor
