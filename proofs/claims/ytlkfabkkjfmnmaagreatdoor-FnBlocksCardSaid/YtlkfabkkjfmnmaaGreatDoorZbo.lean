import Derived.Test.YtlkfabkkjfmnmaaGreatDoorZaa
import Derived.Test.YtlkfabkkjfmnmaaGreatDoorZao
import Derived.Test.YtlkfabkkjfmnmaaGreatDoorZap
namespace Go.Proofs.YtlkfabkkjfmnmaaGreatDoor
open Go.RowKit
set_option linter.all false
set_option maxRecDepth 1000000
set_option maxHeartbeats 6000000


def uL:Array UInt8:=#[48,49,50,51,52,53,54,55,56,57,97,98,99,100,101,102]
def uG (b:Int):Int:=if 48<=b/\b<=57 then b - 48 else if 97<=b/\b<=102 then b - 87 else -1
def hb2 (a b:UInt8):UInt8:=UInt8.ofNat (uG a.toNat*16+uG b.toNat).toNat
theorem p5 (n:Nat):rv (cr n)=n:=by
 induction n using Nat.strongRecOn with
 | _ n ih =>
  by_cases h:n<128
  ·rw[fJ h,gS,lV n h];show n % 128+128*0=n;omega
  ·rw[gN h,gS,ih (n / 128) (by omega),lP];omega
theorem ki (n:Nat)(h:n<=562949953421311)(tail:List UInt8):aR (cr n++tail)=(n,(cr n).length):=by
 obtain⟨pre,c,e,hc,hp⟩:=kG n;have hl:=gU n h;have hk:(cr n).length=pre.length+1:=by rw[e];simp
 have ht:(cr n++tail).take (pre.length+1)=cr n:=by rw[←hk,List.take_left]
 have h1:=lq (cr n++tail) pre.length (by omega) (by rw[List.length_append];omega) (by rw[ht,p5]);rw[h1,ht,p5,hk]
theorem jK (l:List UInt8)(h:(aR l).2≠0):cr (aR l).1=l.take (aR l).2/\(aR l).1<=562949953421311/\(aR l).2<=l.length:=by
 unfold aR at h ⊢;simp only at h ⊢;split at h
 ·rename_i hc
  rw[if_pos hc];refine⟨hc.2.2,?_,by have:=hc.2.1;omega⟩;have:=ip l (l.findIdx (fun b=>decide (b.toNat<128))+1) (by have:=hc.1;omega);omega
 ·exact absurd rfl h
theorem ps (l:List UInt8)(h:(aR l).2=0):aR l=(0,0):=by
 unfold aR at h ⊢;simp only at h ⊢;split at h
 ·simp at h
 ·rename_i hc;rw[if_neg hc]
theorem nJ (l:List UInt8):(aR l).2<=7:=by
 unfold aR;simp only;split
 ·rename_i hc;have:=hc.1;simp only;omega
 ·exact Nat.zero_le _
def eU (l:List UInt8):Value:=.tuple #[.int .i64 ((aR l).1:Int),.int .i64 ((aR l).2:Int)]
theorem uO (x i:Nat)(hx:x<128)(hi:i<7):IntKind.i64.wrap ((x:Int)*2 ^ (7*i))=((x*128 ^ i:Nat):Int):=by
 match i,hi with
 | 0,_=>simp;rw[IntKind.wrap_i64];omega
 | 1,_=>simp;rw[IntKind.wrap_i64];omega
 | 2,_=>simp;rw[IntKind.wrap_i64];omega
 | 3,_=>simp;rw[IntKind.wrap_i64];omega
 | 4,_=>simp;rw[IntKind.wrap_i64];omega
 | 5,_=>simp;rw[IntKind.wrap_i64];omega
 | 6,_=>simp;rw[IntKind.wrap_i64];omega
theorem or7 (r x i:Nat)(hr:r<128 ^ i)(hx:x<128)(hi:i<7):bits .or .i64 (r:Int) ((x*128 ^ i:Nat):Int)=((r+x*128 ^ i:Nat):Int):=by
 rw[iQ];match i,hi,hr with
 | 0,_,hr=>simp at hr;subst hr;rw[cP 0] <;> omega
 | 1,_,hr=>rw[cP 7] <;> omega
 | 2,_,hr=>rw[cP 14] <;> omega
 | 3,_,hr=>rw[cP 21] <;> omega
 | 4,_,hr=>rw[cP 28] <;> omega
 | 5,_,hr=>rw[cP 35] <;> omega
 | 6,_,hr=>rw[cP 42] <;> omega
theorem ql (x:Int)(h₀ : 0<=x)(h₁ : x<256):bits .and .u8 x 127=x % 128:=bits_mask .u8 8 (by decide) wraps_u8 7 (by decide) x h₀ h₁
theorem jM (s:ByteArray)(w:World)(hs:s.size<=1073741824) :
  Calls Tryz.prog 52 #[.string s] w fun e w'=>e=.returned (eU s.data.toList)/\Below w.heap.size w w':=by
 go_enter Tryz.func52,Tryz.ntmps52
 go_wp2;go_loopg [4,5] 8 (fun g n i wr => ∃k:Nat,k+g=8/\k<=s.size/\k<=7/\i=.int .i64 k/\n=.int .i64 (rv (s.data.toList.take k):Nat)/\(∀j (h:j<s.data.toList.length),j<k->128<=(s.data.toList[j]).toNat)/\wr=w)
 case atStart=>exact⟨0,by omega,by omega,by omega,rfl,rfl,fun j _ h=>by omega,rfl⟩
 case round =>
  obtain⟨k,hk,hks,I7,rfl,rfl,hlo,rfl⟩:=hrel;by_cases hlt:k<s.size
  ·by_cases LV:k<7
   ·have hb0:(s[k].toNat:Int)<256:=by have:=s[k].toNat_lt;omega
    have ha:=ql (s[k].toNat:Int) (by omega) (by omega);have hx:s[k].toNat % 128<128:=Nat.mod_lt _ (by decide);have hsh:wrap64 ((s[k].toNat:Int) % 128*2 ^ (7*k))=((s[k].toNat % 128*128 ^ k:Nat):Int):=by
     have:=uO (s[k].toNat % 128) k hx LV;rw[PlainAid.i64_is] at this;rw[←this,Int.natCast_emod];rfl
    have hor:=or7 (rv (s.data.toList.take k)) (s[k].toNat % 128) k (by have:=rE (s.data.toList.take k);rw[List.length_take] at this;simpa[Nat.min_eq_left hks] using this) hx LV;have hR:rv (s.data.toList.take (k+1))=rv (s.data.toList.take k)+s[k].toNat % 128*128 ^ k:=by
     rw[gT s k hlt,ty,List.length_take];simp[Nat.min_eq_left hks]
    have hbig:=ip s.data.toList (k+1) (by omega);rw[←hR] at hor;clear hR;have hlen:k<s.data.toList.length:=by simpa using hlt
    have hsk:s.data.toList[k]=s[k]:=rfl;generalize s[k].toNat % 128*128 ^ k=X at *;by_cases hc:s[k].toNat<128
    ·have hat:=sE s.data.toList k LV hlen (by rw[hsk];exact hc) (fun j hj hjk=>hlo j hj hjk);have hV:an ((rv (s.data.toList.take (k+1)):Nat):Int)=cr (rv (s.data.toList.take (k+1))):=eS _ (by omega);have HV:=zH hV;clear hlo hV hsk;by_cases hE:cr (rv (s.data.toList.take (k+1)))=s.data.toList.take (k+1)
     ·rw[if_pos hE] at hat;have HA:=zH hat;have HE:=zH hE;clear hat hE;generalize rv (s.data.toList.take (k+1))=N at *;generalize rv (s.data.toList.take k)=r at *;go_wp2;have hw1:IntKind.i64.wrap ((k:Int)+1)=(k:Int)+1:=IntWalk.i64_in _ ⟨by omega,by omega⟩;have hw2:((k:Int)+1).toNat=k+1:=by omega
      have hw3:0<=(k:Int)+1:=by omega
      have hw4:(k:Int)+1<=(s.size:Int):=by omega
      refine wp_region_any (by kernel_rfl) ?_;try (change wpAny _ _ _ _ _ _ _ (World.drew _))
      refine wpAny_take (i:=0) (v:=?_) rfl (by kernel_rfl) (by kernel_rfl) (by kernel_rfl) (fun _ _ _ h=>h) (Or.inl ⟨by rfl,?hy⟩) ?_;(case hy=>(intro w;go_simp;try with_reducible rfl));refine wpAny_take (i:=2) (v:=?_) rfl (by kernel_rfl) (by kernel_rfl) (by kernel_rfl) (fun _ _ _ h=>h) (Or.inl ⟨by rfl,?hy⟩) ?_;(case hy=>(intro w;go_simp;try with_reducible rfl));refine wpAny_take (i:=3) (v:=?_) rfl (by kernel_rfl) (by kernel_rfl) (by kernel_rfl) (fun _ _ _ h=>h) (Or.inl ⟨by rfl,?hy⟩) ?_;(case hy=>(intro w;go_simp;try with_reducible rfl));refine wpAny_take (i:=4) (v:=?_) rfl (by kernel_rfl) (by kernel_rfl) (by kernel_rfl) (fun _ _ _ h=>h) (Or.inl ⟨by rfl,?hy⟩) ?_;(case hy=>(intro w;go_simp;try with_reducible rfl));refine wpAny_take (i:=5) (v:=?_) rfl (by kernel_rfl) (by kernel_rfl) (by kernel_rfl) (fun _ _ _ h=>h) (Or.inl ⟨by rfl,?hy⟩) ?_;(case hy=>(intro w;go_simp;try with_reducible rfl));refine wpAny_ready (rs:=[1]) (by kernel_rfl) (by simp) ?_;refine AllReady.cons rfl (fun K hK=>?_) AllReady.nil;go_simp;refine(bV _ _).mono ?_;rintro e w2 ⟨rfl,hb2⟩;refine hK _ _ ?_;clear hK K;rw[HV.out,HE.out];have hex:=fR s (k+1);refine wpAny_ready (rs:=[6]) (by kernel_rfl) (by simp) ?_;refine AllReady.cons rfl (fun K hK=>?_) AllReady.nil;go_simp;refine hK _ _ ?_;clear hK K;refine wpAny_done (by kernel_rfl) ?_ _;go_wp2;go_ret2;exact⟨by rw[eU,HA.out];go_num,hb2.drewL⟩
     ·rw[if_neg hE] at hat;have HA:=zH hat;have hE2:(cr (rv (s.data.toList.take (k+1)))==s.data.toList.take (k+1))=false:=by simpa using hE
      clear hat hE;generalize rv (s.data.toList.take (k+1))=N at *;generalize rv (s.data.toList.take k)=r at *;go_wp2;have hw1:IntKind.i64.wrap ((k:Int)+1)=(k:Int)+1:=IntWalk.i64_in _ ⟨by omega,by omega⟩;have hw2:((k:Int)+1).toNat=k+1:=by omega
      have hw3:0<=(k:Int)+1:=by omega
      have hw4:(k:Int)+1<=(s.size:Int):=by omega
      refine wp_region_any (by kernel_rfl) ?_;try (change wpAny _ _ _ _ _ _ _ (World.drew _))
      refine wpAny_take (i:=0) (v:=?_) rfl (by kernel_rfl) (by kernel_rfl) (by kernel_rfl) (fun _ _ _ h=>h) (Or.inl ⟨by rfl,?hy⟩) ?_;(case hy=>(intro w;go_simp;try with_reducible rfl));refine wpAny_take (i:=2) (v:=?_) rfl (by kernel_rfl) (by kernel_rfl) (by kernel_rfl) (fun _ _ _ h=>h) (Or.inl ⟨by rfl,?hy⟩) ?_;(case hy=>(intro w;go_simp;try with_reducible rfl));refine wpAny_take (i:=3) (v:=?_) rfl (by kernel_rfl) (by kernel_rfl) (by kernel_rfl) (fun _ _ _ h=>h) (Or.inl ⟨by rfl,?hy⟩) ?_;(case hy=>(intro w;go_simp;try with_reducible rfl));refine wpAny_take (i:=4) (v:=?_) rfl (by kernel_rfl) (by kernel_rfl) (by kernel_rfl) (fun _ _ _ h=>h) (Or.inl ⟨by rfl,?hy⟩) ?_;(case hy=>(intro w;go_simp;try with_reducible rfl));refine wpAny_take (i:=5) (v:=?_) rfl (by kernel_rfl) (by kernel_rfl) (by kernel_rfl) (fun _ _ _ h=>h) (Or.inl ⟨by rfl,?hy⟩) ?_;(case hy=>(intro w;go_simp;try with_reducible rfl));refine wpAny_ready (rs:=[1]) (by kernel_rfl) (by simp) ?_;refine AllReady.cons rfl (fun K hK=>?_) AllReady.nil;go_simp;refine(bV _ _).mono ?_;rintro e w2 ⟨rfl,hb2⟩;refine hK _ _ ?_;clear hK K;rw[HV.out];have hex:=fR s (k+1);refine wpAny_ready (rs:=[6]) (by kernel_rfl) (by simp) ?_;refine AllReady.cons rfl (fun K hK=>?_) AllReady.nil;go_simp;refine hK _ _ ?_;clear hK K;refine wpAny_done (by kernel_rfl) ?_ _;go_wp2;go_ret2;exact⟨by rw[eU,HA.out];rfl,hb2.drewL⟩
    ·have hlo2:Hid (∀j (h:j<s.data.toList.length),j<k+1->128<=(s.data.toList[j]).toNat):=zH (fun j h hj=>by
      rcases Nat.lt_or_ge j k with hjk|hjk
      ·exact hlo j h hjk
      ·have:j=k:=by omega
       subst this;rw[hsk];omega)
     clear hlo hsk;go_wp2;go_roundg (gk - 1)
     case measure=>omega
     case rel=>exact⟨k+1,by omega,by omega,by omega,by go_num,rfl,hlo2.out,rfl⟩
   ·have H:Hid (aR s.data.toList=(0,0)):=zH (kr _ k (by omega) hlo);clear hlo;go_wp2;go_ret2;exact⟨by rw[eU,H.out];rfl,zB⟩
  ·have H:Hid (aR s.data.toList=(0,0)):=zH (kr _ k (by simp;omega) hlo);clear hlo;go_wp2;go_ret2;exact⟨by rw[eU,H.out];rfl,zB⟩
theorem jL (s:ByteArray)(w:World)(hs:s.size<=1073741824) :
  Calls Tryz.prog 48 #[.string s] w fun e w'=>e=.returned (eU s.data.toList)/\Below w.heap.size w w':=by
 go_enter Tryz.func48,Tryz.ntmps48
 go_wp2;go_loopg [4] 8 (fun g i wr => ∃k:Nat,k+g=8/\k<=s.size/\k<=7/\i=.int .i64 ((k:Int)+1)/\(∀j,j<k->cr (rv (s.data.toList.take (j+1)))≠s.data.toList.take (j+1))/\Below w.heap.size w wr)
 case atStart=>exact⟨0,by omega,by omega,by omega,rfl,fun j h=>by omega,zB⟩
 case round =>
  obtain⟨k,hk,hks,I7,rfl,hlo,hB⟩:=hrel;obtain⟨gg,rfl⟩:∃g,g=gk:=⟨_,rfl⟩;by_cases hlt:k<s.size
  ·by_cases LV:k<7
   ·have hlen:k<s.data.toList.length:=by simpa using hlt
    have HL:=zH hlo;clear hlo;obtain⟨wo,rfl⟩:∃wo:World,wo=wr:=⟨_,rfl⟩;go_wp2;go_loopg [5,6] (k+1) (fun g n i wr2 => ∃j:Nat,j=g/\j<=k+1/\i=.int .i64 ((j:Int) - 1)/\n=.int .i64 (rv ((s.data.toList.take (k+1)).drop j):Nat)/\wr2=wo)
    case atStart=>exact⟨k+1,rfl,by omega,by go_num,by rw[List.drop_of_length_le (by rw[List.length_take];omega)];rfl,rfl⟩
    case round =>
     obtain⟨j,rfl,hj,rfl,rfl,rfl⟩:=hrel;by_cases hj0:0<j
     ·have hjs:j - 1<s.size:=by omega
      have hb0:=(s[j - 1]).toNat_lt;have hi0:(0:Int)<=(j:Int) - 1:=by omega
      have hi1:(j:Int) - 1<(s.size:Int):=by omega
      have hR:Hid (rv ((s.data.toList.take (k+1)).drop (j - 1))=s[j - 1].toNat % 128+128*rv ((s.data.toList.take (k+1)).drop j)):=zH (by
       have hl:j - 1<(s.data.toList.take (k+1)).length:=by rw[List.length_take];simp;omega
       rw[List.drop_eq_getElem_cons hl,gS,List.getElem_take,show j - 1+1=j from by omega];rfl)
      have hbig:rv ((s.data.toList.take (k+1)).drop j)<4398046511104:=by
       have h1:=rE ((s.data.toList.take (k+1)).drop j);have h2:((s.data.toList.take (k+1)).drop j).length<=6:=by rw[List.length_drop,List.length_take];omega
       exact Nat.lt_of_lt_of_le h1 (dP 128 _ 6 h2 (by decide))
      generalize rv ((s.data.toList.take (k+1)).drop j)=q at *;go_wp2;go_roundg (j - 1)
      case measure=>omega
      case rel=>exact⟨j - 1,rfl,by omega,by go_num,by rw[hR.out];go_num,rfl⟩
     ·have hj1:j=0:=by omega
      subst hj1;have hbig:=ip s.data.toList (k+1) (by omega);have hV:an ((rv (s.data.toList.take (k+1)):Nat):Int)=cr (rv (s.data.toList.take (k+1))):=eS _ (by omega);have HV:=zH hV;clear hV;rw[List.drop_zero];have hw3:0<=(k:Int)+1:=by omega
      have hw2:((k:Int)+1).toNat=k+1:=by omega
      have hw4:(k:Int)+1<=(s.size:Int):=by omega
      have hex:=fR s (k+1);by_cases hE:cr (rv (s.data.toList.take (k+1)))=s.data.toList.take (k+1)
      ·have HA:=zH (lq s.data.toList k LV hlen hE);have HE:=zH hE;clear hE;generalize rv (s.data.toList.take (k+1))=N at *;go_wp2;refine wp_region_any (by kernel_rfl) ?_;try (change wpAny _ _ _ _ _ _ _ (World.drew _))
       refine wpAny_take (i:=0) (v:=?_) rfl (by kernel_rfl) (by kernel_rfl) (by kernel_rfl) (fun _ _ _ h=>h) (Or.inl ⟨by rfl,?hy⟩) ?_;(case hy=>(intro w;go_simp;try with_reducible rfl));refine wpAny_take (i:=2) (v:=?_) rfl (by kernel_rfl) (by kernel_rfl) (by kernel_rfl) (fun _ _ _ h=>h) (Or.inl ⟨by rfl,?hy⟩) ?_;(case hy=>(intro w;go_simp;try with_reducible rfl));refine wpAny_take (i:=3) (v:=?_) rfl (by kernel_rfl) (by kernel_rfl) (by kernel_rfl) (fun _ _ _ h=>h) (Or.inl ⟨by rfl,?hy⟩) ?_;(case hy=>(intro w;go_simp;try with_reducible rfl));refine wpAny_take (i:=4) (v:=?_) rfl (by kernel_rfl) (by kernel_rfl) (by kernel_rfl) (fun _ _ _ h=>h) (Or.inl ⟨by rfl,?hy⟩) ?_;(case hy=>(intro w;go_simp;try with_reducible rfl));refine wpAny_ready (rs:=[1]) (by kernel_rfl) (by simp) ?_;refine AllReady.cons rfl (fun K hK=>?_) AllReady.nil;go_simp;refine(bX _ _).mono ?_;rintro e w2 ⟨rfl,hb2⟩;refine hK _ _ ?_;clear hK K;rw[HV.out,HE.out];refine wpAny_ready (rs:=[5]) (by kernel_rfl) (by simp) ?_;refine AllReady.cons rfl (fun K hK=>?_) AllReady.nil;go_simp;refine hK _ _ ?_;clear hK K;refine wpAny_done (by kernel_rfl) ?_ _;go_wp2;go_ret2;exact⟨by rw[eU,HA.out];go_num,hB.trans (hb2.drewL.mono hB.size)⟩
      ·have hE2:(cr (rv (s.data.toList.take (k+1)))==s.data.toList.take (k+1))=false:=by simpa using hE
       have HL2:Hid (∀j,j<k+1->cr (rv (s.data.toList.take (j+1)))≠s.data.toList.take (j+1)):=zH (fun j hj=>by
        rcases Nat.lt_or_ge j k with hjk|hjk
        ·exact HL.out j hjk
        ·have:j=k:=by omega
         subst this;exact hE)
       clear hE;generalize rv (s.data.toList.take (k+1))=N at *;go_wp2;refine wp_region_any (by kernel_rfl) ?_;try (change wpAny _ _ _ _ _ _ _ (World.drew _))
       refine wpAny_take (i:=0) (v:=?_) rfl (by kernel_rfl) (by kernel_rfl) (by kernel_rfl) (fun _ _ _ h=>h) (Or.inl ⟨by rfl,?hy⟩) ?_;(case hy=>(intro w;go_simp;try with_reducible rfl));refine wpAny_take (i:=2) (v:=?_) rfl (by kernel_rfl) (by kernel_rfl) (by kernel_rfl) (fun _ _ _ h=>h) (Or.inl ⟨by rfl,?hy⟩) ?_;(case hy=>(intro w;go_simp;try with_reducible rfl));refine wpAny_take (i:=3) (v:=?_) rfl (by kernel_rfl) (by kernel_rfl) (by kernel_rfl) (fun _ _ _ h=>h) (Or.inl ⟨by rfl,?hy⟩) ?_;(case hy=>(intro w;go_simp;try with_reducible rfl));refine wpAny_take (i:=4) (v:=?_) rfl (by kernel_rfl) (by kernel_rfl) (by kernel_rfl) (fun _ _ _ h=>h) (Or.inl ⟨by rfl,?hy⟩) ?_;(case hy=>(intro w;go_simp;try with_reducible rfl));refine wpAny_ready (rs:=[1]) (by kernel_rfl) (by simp) ?_;refine AllReady.cons rfl (fun K hK=>?_) AllReady.nil;go_simp;refine(bX _ _).mono ?_;rintro e w2 ⟨rfl,hb2⟩;refine hK _ _ ?_;clear hK K;rw[HV.out];refine wpAny_ready (rs:=[5]) (by kernel_rfl) (by simp) ?_;refine AllReady.cons rfl (fun K hK=>?_) AllReady.nil;go_simp;refine hK _ _ ?_;clear hK K;refine wpAny_done (by kernel_rfl) ?_ _;go_wp2;go_roundg (gg - 1)
       case measure=>omega
       case rel=>exact⟨k+1,by omega,by omega,by omega,by go_num,HL2.out,hB.trans (hb2.drewL.mono hB.size)⟩
   ·have H:Hid (aR s.data.toList=(0,0)):=zH (km _ (fun j h1 _=>hlo j (by omega)));clear hlo;go_wp2;go_ret2;exact⟨by rw[eU,H.out];rfl,hB⟩
  ·have H:Hid (aR s.data.toList=(0,0)):=zH (km _ (fun j _ h2=>hlo j (by simp at h2;omega)));clear hlo;go_wp2;all_goals go_ret2
   all_goals exact⟨by rw[eU,H.out];rfl,hB⟩
end Go.Proofs.YtlkfabkkjfmnmaaGreatDoor
