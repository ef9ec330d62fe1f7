import Derived.Test.YtlkfabkkjfmnmaaGreatDoorZaa
import Derived.Test.YtlkfabkkjfmnmaaGreatDoorZab
import Derived.Test.YtlkfabkkjfmnmaaGreatDoorZai
import Derived.Test.YtlkfabkkjfmnmaaGreatDoorZaj
import Derived.Test.YtlkfabkkjfmnmaaGreatDoorZap
import Derived.Test.YtlkfabkkjfmnmaaGreatDoorZbo
namespace Go.Proofs.YtlkfabkkjfmnmaaGreatDoor
open Go.RowKit
set_option linter.all false
set_option maxRecDepth 1000000
set_option maxHeartbeats 6000000
theorem ug {W w1:World}(hb:Below W.heap.size W w1):(∀b o,b<W.heap.size->w1.cell? ⟨b,o,none⟩=W.cell? ⟨b,o,none⟩)/\(∀b o,b<W.heap.size->w1.frozen? ⟨b,o,none⟩=W.frozen? ⟨b,o,none⟩):=
 ⟨fun b o h=>hb.cell (p:=⟨b,o,none⟩) h,fun b o h=>hb.frozen (p:=⟨b,o,none⟩) h⟩
theorem aV {w w':World}{b j:Nat}{v:Value}(h:w.cell? ⟨b,j,none⟩=some v)(hb:Below w.heap.size w w'):w'.cell? ⟨b,j,none⟩=some v:=
 (hb.cell (p:=⟨b,j,none⟩) (World.block_lt_of_cell? w _ h)).trans h
theorem j9 {w w':World}{b j:Nat}{v:Value}(h:w.cell? ⟨b,j,none⟩=some v)(hb:w'.heap[b]? = w.heap[b]?):w'.cell? ⟨b,j,none⟩=some v:=
 (World.cell?_of_block (a:=⟨b,j,none⟩) hb).trans h
theorem rk (a b:List UInt8):(⟨a.toArray⟩:ByteArray)++⟨b.toArray⟩=⟨(a++b).toArray⟩:=by
 apply ByteArray.ext;simp[ByteArray.data_append]
theorem gE (s:ByteArray):(⟨s.data.toList.toArray⟩:ByteArray)=s:=by
 rcases s with ⟨d⟩
 show (⟨d.toList.toArray⟩:ByteArray)=⟨d⟩;rw[Array.toArray_toList]
theorem gQ (l:List UInt8):(⟨l.toArray⟩:ByteArray).size=l.length:=List.size_toArray
theorem eC (s:ByteArray):s.data.toList.length=s.size:=Array.length_toList
def bp (s:ByteArray):List UInt8:=an s.size++s.data.toList
def bO:Option (List UInt8)->Int × Option (List UInt8)
 | none=>(0,none)
 | some r=>if (aR r).2=0 then (0,none) else (((aR r).1:Int),some (r.drop (aR r).2))
def eZ (n:Int):Option (List UInt8)->List UInt8 × Option (List UInt8)
 | none=>([],none)
 | some r=>if 0<=n/\n<=r.length then (r.take n.toNat,some (r.drop n.toNat)) else ([],none)
def bZ (o:Option (List UInt8)):List UInt8 × Option (List UInt8):=eZ (bO o).1 (bO o).2
def dW (most:Int)(o:Option (List UInt8)):Int × Option (List UInt8):=if most<(bO o).1 then (0,none) else bO o
theorem m8 (n:Nat)(h:n<=562949953421311)(r:List UInt8):bO (some (an n++r))=((n:Int),some r):=by
 rw[eS n h];have e:=ki n h r;have h0:(cr n).length≠0:=fun c=>pL n (List.eq_nil_of_length_eq_zero c)
 unfold bO;simp only[e];rw[if_neg h0];simp
theorem iM (s:ByteArray)(h:s.size<=562949953421311)(r:List UInt8):bZ (some (bp s++r))=(s.data.toList,some r):=by
 unfold bZ bp;rw[List.append_assoc,m8 s.size h];have hl:=eC s;unfold eZ;simp only;rw[if_pos ⟨by omega,by rw[List.length_append];omega⟩];have e:((s.size:Nat):Int).toNat=s.data.toList.length:=by omega
 rw[e];simp
def cg (s:ByteArray):ByteArray:=⟨(bp s).toArray⟩
theorem nc (a:List UInt8)(s:ByteArray):(⟨a.toArray⟩:ByteArray)++s=⟨(a++s.data.toList).toArray⟩:=by
 have:=rk a s.data.toList;rwa [gE] at this
theorem lT (s:ByteArray):(⟨(an (s.size:Int)).toArray⟩:ByteArray)++s=cg s:=nc _ _
theorem ls (s:ByteArray)(hs:s.size<=1073741824)(w:World):Calls Tryz.prog 89 #[.string s] w fun e w'=>e=.returned (.string (cg s))/\Below w.heap.size w w':=by
 have HP:=zH (lT s);have hv:=aP s.size;have hsum:(an (s.size:Int)).length+s.size<=9223372036854775807:=by omega
 go_enter Tryz.func89,Tryz.ntmps89
 go_wp2_with fail
 refine(bV _ _).mono ?_;rintro e w1 ⟨rfl,hb⟩;have HB:=zH hb;clear hb;go_wp2;go_ret;exact⟨iG HP.out,HB.out⟩
theorem jx (s:ByteArray)(hs:s.size<=1073741824)(w:World):Calls Tryz.prog 96 #[.string s] w fun e w'=>e=.returned (.string (cg s))/\Below w.heap.size w w':=by
 have HP:=zH (lT s);have hv:=aP s.size;have hsum:(an (s.size:Int)).length+s.size<=9223372036854775807:=by omega
 go_enter Tryz.func96,Tryz.ntmps96
 go_wp2_with fail
 refine(bX _ _).mono ?_;rintro e w1 ⟨rfl,hb⟩;have HB:=zH hb;clear hb;go_wp2;go_ret;exact⟨iG HP.out,HB.out⟩
theorem mH (s:ByteArray)(k:Nat):(s.extract k s.size).data.toList=s.data.toList.drop k:=by
 simp only[ByteArray.data_extract,Array.toList_extract];rw[List.extract_eq_take_drop,List.take_of_length_le (by simp)]
theorem tr (s:ByteArray)(k:Nat):(s.extract 0 k).data.toList=s.data.toList.take k:=by simp[ByteArray.data_extract]
theorem mw (s:ByteArray)(k m:Nat)(h:s.size<=m):(s.extract k s.size).size<=m:=by simp;omega
def scO (rest:ByteArray)(bad:Bool):Option (List UInt8):=if bad=true then none else some rest.data.toList
structure ScanAt (w:World)(b:Nat)(o:Option (List UInt8))(m:Nat):Prop where
 ex:∃rest bad,w.cell? ⟨b,0,none⟩=some (.string rest)/\w.cell? ⟨b,1,none⟩=some (.bool bad)/\(w.frozen? ⟨b,0,none⟩=false/\w.frozen? ⟨b,1,none⟩=false)/\rest.size<=m/\o=scO rest bad
theorem ScanAt.kept {w w':World}{b m:Nat}{o:Option (List UInt8)}(h:ScanAt w b o m)(hb:w'.heap[b]? = w.heap[b]?):ScanAt w' b o m:=by
 obtain⟨r,bd,h1,h2,⟨f1,f2⟩,h3,h4⟩:=h.ex;exact⟨r,bd,j9 h1 hb,j9 h2 hb,⟨(World.frozen?_of_block (a:=⟨b,0,none⟩) hb).trans f1,(World.frozen?_of_block (a:=⟨b,1,none⟩) hb).trans f2⟩,h3,h4⟩
theorem ScanAt.lt {w:World}{b m:Nat}{o:Option (List UInt8)}(h:ScanAt w b o m):b<w.heap.size:=by
 obtain⟨r,bd,h1,_⟩:=h.ex;exact World.block_lt_of_cell? w _ h1
theorem ScanAt.below {w w':World}{b m:Nat}{o:Option (List UInt8)}(h:ScanAt w b o m)(hb:Below w.heap.size w w'):ScanAt w' b o m:=h.kept (hb.block b h.lt)
theorem pD (rest:ByteArray):scO rest false=some rest.data.toList:=rfl
def iL (b m:Nat)(w:World)(v:Value)(o:Option (List UInt8))(e:Ending)(w':World):Prop:=e=.returned v/\ScanAt w' b o m/\w.grownBy w' (some b)
theorem e7 (w:World)(b j:Nat)(u:Value):w.grownBy (w.setCell ⟨b,j,none⟩ u) (some b):=
 ⟨rfl,rfl,rfl,by simp[World.setCell],fun k _ hk=>heap_setCell_other w ⟨b,j,none⟩ k u (fun e=>hk (by simp[e]))⟩
theorem bN (w:World)(b j i:Nat)(u:Value)(h:w.frozen? ⟨b,i,none⟩=false)(hl:b<w.heap.size):(w.setCell ⟨b,j,none⟩ u).frozen? ⟨b,i,none⟩=false:=by go_simp
theorem dN (b m:Nat)(o:Option (List UInt8))(w:World)(h:ScanAt w b o m)(hm:m<=1073741824) :
  Calls Tryz.prog 26 #[.pointer (some ⟨b,0,none⟩)] w (iL b m w (.int .i64 (bO o).1) (bO o).2):=by
 obtain⟨rest,bad,c0,c1,⟨f0,f1⟩,hs,ho⟩:=h.ex;have hbl:b<w.heap.size:=World.block_lt_of_cell? w _ c0;have HO:=zH ho;have HC:=zH (And.intro (And.intro c0 c1) (And.intro f0 f1));clear h ho;go_enter Tryz.func26,Tryz.ntmps26
 go_wp2_with fail
 refine(jM rest _ (by omega)).mono ?_;rintro e w1 ⟨rfl,hb⟩;unfold eU;obtain⟨⟨c0,c1⟩,f0,f1⟩:=HC.out;replace c0:=aV c0 hb;replace c1:=aV c1 hb;replace f0:=((ug hb).2 b 0 hbl).trans f0;replace f1:=((ug hb).2 b 1 hbl).trans f1;have HG:=zH (aA (some b) hb);have yD:b<w1.heap.size:=Nat.lt_of_lt_of_le hbl hb.size;have vJ:=zH (mw rest (aR rest.data.toList).2 m hs);have Im:=zH (mH rest (aR rest.data.toList).2);have hkl:=(nJ rest.data.toList);have HV:Hid (bO (some rest.data.toList)=if (aR rest.data.toList).2=0 then (0,none) else (((aR rest.data.toList).1:Int),some (rest.data.toList.drop (aR rest.data.toList).2))):=zH rfl;have hkr:(aR rest.data.toList).2<=rest.size:=by
  by_cases h0:(aR rest.data.toList).2=0
  ·omega
  ·have:=(jK rest.data.toList h0).2.2;have e:rest.data.toList.length=rest.size:=Array.length_toList;omega
 clear hb;cases bad with
 | true =>
  have xK:Hid (bO o=(0,none)):=zH (by rw[HO.out];rfl);clear HV Im vJ;generalize (aR rest.data.toList).2=k at *;generalize (aR rest.data.toList).1=n at *;go_wp2;go_ret;rw[xK.out];exact⟨rfl,⟨rest,true,by go_simp,by go_simp,⟨bN _ _ _ _ _ f0 yD,bN _ _ _ _ _ f1 yD⟩,hs,rfl⟩,aq HG.out (e7 w1 b 1 (.bool true)) (fun x hx => .inl hx)⟩
 | false =>
  by_cases hk0:(aR rest.data.toList).2=0
  ·have xK:Hid (bO o=(0,none)):=zH (by rw[HO.out,pD,HV.out,if_pos hk0]);clear HV Im vJ;rw[hk0];generalize (aR rest.data.toList).1=n at *;clear hk0 hkr hkl;go_wp2;go_ret;rw[xK.out];exact⟨rfl,⟨rest,true,by go_simp,by go_simp,⟨bN _ _ _ _ _ f0 yD,bN _ _ _ _ _ f1 yD⟩,hs,rfl⟩,aq HG.out (e7 w1 b 1 (.bool true)) (fun x hx => .inl hx)⟩
  ·have xK:Hid (bO o=(((aR rest.data.toList).1:Int),some (rest.extract (aR rest.data.toList).2 rest.size).data.toList)):=zH (by rw[HO.out,pD,HV.out,if_neg hk0,Im.out]);clear HV Im;generalize (aR rest.data.toList).2=k at *;generalize (aR rest.data.toList).1=n at *;have hkz:((k:Int)==0)=false:=by simp;omega
   have hki:(k:Int)<=(rest.size:Int):=by omega
   have Gs:(0:Int)<=(k:Int):=by omega
   clear hk0;go_wp2;go_ret;rw[xK.out];exact⟨rfl,⟨rest.extract k rest.size,false,by go_simp,by go_simp,⟨bN _ _ _ _ _ f0 yD,bN _ _ _ _ _ f1 yD⟩,vJ.out,rfl⟩,aq HG.out (e7 w1 b 0 _) (fun x hx => .inl hx)⟩
theorem jo (b m:Nat)(n:Int)(o:Option (List UInt8))(w:World)(h:ScanAt w b o m)(hm:m<=1073741824) :
  Calls Tryz.prog 25 #[.pointer (some ⟨b,0,none⟩),.int .i64 n] w (iL b m w (.string ⟨(eZ n o).1.toArray⟩) (eZ n o).2):=by
 obtain⟨rest,bad,c0,c1,⟨f0,f1⟩,hs,ho⟩:=h.ex;have yD:b<w.heap.size:=World.block_lt_of_cell? w _ c0;have HO:=zH ho;have hlen:rest.data.toList.length=rest.size:=Array.length_toList;have HV:Hid (eZ n (some rest.data.toList)=if 0<=n/\n<=rest.size then (rest.data.toList.take n.toNat,some (rest.data.toList.drop n.toNat)) else ([],none)):=zH (by unfold eZ;simp only;rw[hlen]);clear h ho hlen;cases bad with
 | true =>
  have xK:Hid (eZ n o=([],none)):=zH (by rw[HO.out];rfl);go_enter Tryz.func25,Tryz.ntmps25
  go_wp2;go_ret;rw[xK.out];exact⟨rfl,⟨rest,true,by go_simp,by go_simp,⟨bN _ _ _ _ _ f0 yD,bN _ _ _ _ _ f1 yD⟩,hs,rfl⟩,e7 w b 1 (.bool true)⟩
 | false =>
  by_cases hin:0<=n/\n<=rest.size
  ·obtain⟨k,rfl⟩:=Int.eq_ofNat_of_zero_le hin.1;have xK:Hid (eZ (k:Int) o=(rest.data.toList.take k,some (rest.extract k rest.size).data.toList)):=zH (by rw[HO.out,pD,HV.out,if_pos hin,mH,Int.toNat_natCast]);have Hg:Hid ((⟨(rest.data.toList.take k).toArray⟩:ByteArray)=rest.extract 0 k):=zH (by rw[←tr,gE]);have vJ:=zH (mw rest k m hs);have hki:(k:Int)<=(rest.size:Int):=by omega
   have Gs:(0:Int)<=(k:Int):=by omega
   clear hin HV;go_enter Tryz.func25,Tryz.ntmps25
   go_wp2_with (first|(go_at_call 51;(first|refine(am _ _ _ _ (by omega) (by omega)).mono ?_|refine(aB _ _ _ _ (by omega)).mono ?_);rintro e w' ⟨rfl,rfl⟩))
   go_ret;rw[xK.out];exact⟨iG (by rw[Hg.out]),⟨rest.extract k rest.size,false,by go_simp,by go_simp,⟨bN _ _ _ _ _ f0 yD,bN _ _ _ _ _ f1 yD⟩,vJ.out,rfl⟩,e7 w b 0 _⟩
  ·have xK:Hid (eZ n o=([],none)):=zH (by rw[HO.out,pD,HV.out,if_neg hin]);replace hin:n<0∨(rest.size:Int)<n:=by omega
   clear HV;go_enter Tryz.func25,Tryz.ntmps25
   go_wp2_with (first|(go_at_call 51;(first|refine(am _ _ _ _ (by omega) (by omega)).mono ?_|refine(aB _ _ _ _ (by omega)).mono ?_);rintro e w' ⟨rfl,rfl⟩))
   go_ret;rw[xK.out];exact⟨rfl,⟨rest,true,by go_simp,by go_simp,⟨bN _ _ _ _ _ f0 yD,bN _ _ _ _ _ f1 yD⟩,hs,rfl⟩,e7 w b 1 (.bool true)⟩
theorem jB (b m:Nat)(o:Option (List UInt8))(w:World)(h:ScanAt w b o m)(hm:m<=1073741824) :
  Calls Tryz.prog 53 #[.pointer (some ⟨b,0,none⟩)] w (iL b m w (.string ⟨(bZ o).1.toArray⟩) (bZ o).2):=by
 have H:=zH h;clear h;go_enter Tryz.func53,Tryz.ntmps53
 go_wp2_with fail
 refine(dN b m o _ H.out hm).mono ?_;rintro e w1 ⟨rfl,hS,hG⟩;have HS:=zH hS;have HG:=zH hG;clear hS hG;have HP:Hid (bZ o=eZ (bO o).1 (bO o).2):=zH rfl;generalize (bO o).1=n at *;generalize (bO o).2=o2 at *;go_wp2_with fail
 refine(jo b m n o2 _ HS.out hm).mono ?_;rintro e w2 ⟨rfl,hS,hG⟩;have HS2:=zH hS;have HG2:=zH (aq HG.out hG (fun x hx => .inl hx));clear hS hG;go_wp2;go_ret;rw[HP.out];exact⟨rfl,HS2.out,HG2.out⟩
theorem qB (o:Option (List UInt8))(h:(bO o).2=none):bO o=(0,none):=by
 cases o with
 | none=>rfl
 | some r =>
  unfold bO at h ⊢;simp only at h ⊢;by_cases c:(aR r).2=0
  ·rw[if_pos c]
  ·rw[if_neg c] at h;cases h
theorem kK (b m:Nat)(most:Int)(o:Option (List UInt8))(w:World)(h:ScanAt w b o m)(hm:m<=1073741824)(h0:0<=most)(h1:most<=1000) :
  Calls Tryz.prog 27 #[.pointer (some ⟨b,0,none⟩),.int .i64 most] w (iL b m w (.int .i64 (dW most o).1) (dW most o).2):=by
 have H:=zH h;clear h;go_enter Tryz.func27,Tryz.ntmps27
 go_wp2_with fail
 refine(dN b m o _ H.out hm).mono ?_;rintro e w1 ⟨rfl,hS,hG⟩;obtain⟨rest,bad,c0,c1,⟨f0,f1⟩,hs,ho⟩:=hS.ex;have yD:b<w1.heap.size:=World.block_lt_of_cell? w1 _ c0;have HO:=zH ho;have HS:=zH hS;have HG:=zH hG;have HM:Hid (dW most o=if most<(bO o).1 then (0,none) else ((bO o).1,(bO o).2)):=zH rfl;have N9:=zH (qB o);clear hS hG ho;obtain⟨x,hx⟩:∃x,(bO o).1=x:=⟨_,rfl⟩;obtain⟨o2,ho2⟩:∃x,(bO o).2=x:=⟨_,rfl⟩;rw[hx,ho2] at HM;rw[ho2] at HO N9 HS;have HX:Hid (o2=none->x=0):=zH (fun e=>by rw[←hx,N9.out e]);rw[hx];clear N9 hx ho2;by_cases hgt:most<x
 ·have Gt:Hid (dW most o=(0,none)):=zH (by rw[HM.out,if_pos hgt]);go_wp2;go_ret;rw[Gt.out];exact⟨rfl,⟨rest,true,by go_simp,by go_simp,⟨bN _ _ _ _ _ f0 yD,bN _ _ _ _ _ f1 yD⟩,hs,rfl⟩,aq HG.out (e7 w1 b 1 (.bool true)) (fun x hx => .inl hx)⟩
 ·have Gt:Hid (dW most o=(x,o2)):=zH (by rw[HM.out,if_neg hgt]);cases bad with
  | true =>
   have xR:Hid (x=0):=zH (HX.out HO.out);go_wp2;go_ret;rw[Gt.out,xR.out];exact⟨rfl,HS.out,HG.out⟩
  | false =>
   go_wp2;go_ret;rw[Gt.out];exact⟨rfl,HS.out,HG.out⟩
def ax (s:List UInt8):Nat->Int->List Int->List Int × Int
 | 0,p,out=>(out,p)
 | n+1,p,out=>if p<0∨(s.length:Int)<p then (out,-1) else if (aR (s.drop p.toNat)).2=0 then (out,-1) else ax s n (p+(aR (s.drop p.toNat)).2) (out ++ [((aR (s.drop p.toNat)).1:Int)])
def bP (s:List UInt8)(p:Int):List UInt8 × Int:=
 if (ax s 1 p []).2<0∨(s.length:Int) - (ax s 1 p []).2<(ax s 1 p []).1.getD 0 0 then ([],-1)
 else ((s.drop (ax s 1 p []).2.toNat).take ((ax s 1 p []).1.getD 0 0).toNat,(ax s 1 p []).2+(ax s 1 p []).1.getD 0 0)
theorem jf (s:List UInt8):∀(n:Nat) (p:Int) (out:List Int),(0<=(ax s n p out).2->(ax s n p out).1.length=out.length+n)/\out.length<=(ax s n p out).1.length/\(ax s n p out).1.length<=out.length+n:=by
 intro n;induction n with
 | zero=>intro p out;simp[ax]
 | succ n ih =>
  intro p out;rw[ax];split
  ·simp
  ·split
   ·simp
   ·have:=ih (p+(aR (s.drop p.toNat)).2) (out ++ [((aR (s.drop p.toNat)).1:Int)]);simp only[List.length_append,List.length_cons,List.length_nil] at this;omega
theorem kw (l:List UInt8):(aR l).2<=l.length/\(aR l).1<=562949953421311:=by
 by_cases h:(aR l).2=0
 ·rw[ps l h];simp
 ·have:=jK l h;exact⟨this.2.2,this.2.1⟩
theorem rB (s:List UInt8):∀(n:Nat) (p:Int) (out:List Int),p<=(s.length:Int) -> -1<=p -> -1<=(ax s n p out).2/\(ax s n p out).2<=(s.length:Int):=by
 intro n;induction n with
 | zero=>intro p out h h2;simp only[ax];omega
 | succ n ih =>
  intro p out h h2;rw[ax];split
  ·dsimp only;omega
  ·split
   ·dsimp only;omega
   ·refine ih _ _ ?_ (by omega);have:=(kw (s.drop p.toNat)).1;rw[List.length_drop] at this;omega
theorem eL (s:List UInt8)(n:Nat)(p:Int)(out:List Int)(h2 : -1<=p):(ax s (n+1) p out).2<=(s.length:Int) /\ -1<=(ax s (n+1) p out).2:=by
 by_cases h:p<=(s.length:Int)
 ·have:=rB s (n+1) p out h h2;omega
 ·rw[ax,if_pos (by omega)];dsimp only;omega
theorem jm (s:List UInt8):∀(n:Nat) (p:Int) (out:List Int),(∀x∈out,0<=x/\x<=562949953421311)->∀x∈(ax s n p out).1,0<=x/\x<=562949953421311:=by
 intro n;induction n with
 | zero=>intro p out h;simpa[ax] using h
 | succ n ih =>
  intro p out h;rw[ax];split
  ·exact h
  ·split
   ·exact h
   ·refine ih _ _ fun x hx=>?_
    rcases List.mem_append.1 hx with hx|hx
    ·exact h x hx
    ·obtain rfl:x=((aR (s.drop p.toNat)).1:Int):=by simpa using hx
     have:=(kw (s.drop p.toNat)).2;omega
theorem lA (pre r:List UInt8)(q:Nat)(hq:q<=562949953421311)(m:Nat)(out:List Int) :
  ax (pre++(an q++r)) (m+1) (pre.length:Int) out=ax (pre++an q++r) m ((pre++an q).length:Int) (out ++ [(q:Int)]):=by
 have e:(pre++(an q++r)).drop (pre.length:Int).toNat=cr q++r:=by simp[eS q hq]
 have e2:=ki q hq r;have h0:(cr q).length≠0:=fun c=>pL q (List.eq_nil_of_length_eq_zero c)
 rw[ax,if_neg (by simp;omega),e,e2];simp only;rw[if_neg h0,List.append_assoc];congr 1
 rw[eS q hq];simp
theorem qH (pre r:List UInt8)(q:Nat)(hq:q<=562949953421311):ax (pre++(an q++r)) 1 (pre.length:Int) []=([(q:Int)],((pre++an q).length:Int)):=by
 rw[lA pre r q hq 0 []];rfl
theorem ma (pre r:List UInt8)(t:ByteArray)(ht:t.size<=562949953421311):bP (pre++(bp t++r)) (pre.length:Int)=(t.data.toList,((pre++bp t).length:Int)):=by
 have e:pre++(bp t++r)=pre++(an t.size++(t.data.toList++r)):=by simp[bp,List.append_assoc]
 have hl:=eC t;unfold bP;rw[e,qH pre (t.data.toList++r) t.size ht];simp only[List.getD_cons_zero];rw[if_neg (by simp only[List.length_append];omega)];have e2:pre++(an t.size++(t.data.toList++r))=(pre++an t.size)++(t.data.toList++r):=by simp[List.append_assoc]
 rw[e2];simp only[Int.toNat_natCast];rw[List.drop_left,←hl,List.take_left];refine Prod.ext rfl ?_;simp only[bp,List.length_append,hl];omega
def gz (s:List UInt8)(n:Nat)(p:Int)(w:World)(e:Ending)(w':World):Prop := ∃(g:Option Addr) (c:Nat),e=.returned (.tuple #[.slice g (ax s n p []).1.length c,.int .i64 (ax s n p []).2])/\Own 3 1 w.heap.size w (.slice g (ax s n p []).1.length c) (ax s n p []).1.length (aE (ax s n p []).1) w'
theorem fE (s:List UInt8)(n:Nat)(p:Int)(out:List Int)(h:p<0∨(s.length:Int)<p):ax s (n+1) p out=(out,-1):=by rw[ax,if_pos h]
theorem sO (s:List UInt8)(n:Nat)(k:Nat)(out:List Int)(h:k<=s.length)(h0:(aR (s.drop k)).2=0):ax s (n+1) (k:Int) out=(out,-1):=by
 rw[ax,if_neg (by omega),Int.toNat_natCast,if_pos h0]
theorem qW (s:List UInt8)(n:Nat)(k:Nat)(out:List Int)(h:k<=s.length)(h0:(aR (s.drop k)).2≠0):ax s (n+1) (k:Int) out=ax s n ((k:Int)+(aR (s.drop k)).2) (out ++ [((aR (s.drop k)).1:Int)]):=by
 rw[ax,if_neg (by omega),Int.toNat_natCast,if_neg h0]
theorem ew (s:ByteArray)(p:Int)(n:Nat)(w:World)(hs:s.size<=1048576)(hp0 : -1<=p)(hp1:p<=1048581)(hn:n<=3) :
  Calls Tryz.prog 21 #[.string s,.int .i64 p,.int .i64 (n:Int)] w (gz s.data.toList n p w):=by
 have hlen:s.data.toList.length=s.size:=Array.length_toList;have HLEN:=zH hlen;have CY:=zH (Own.lit (e:=3) (size:=1) (n:=0) (Below.refl w.heap.size w) zN #[] rfl (by decide));clear hlen;go_enter Tryz.func21,Tryz.ntmps21
 go_wp2;go_loopg [1,8,9,10,11] n (fun gg pv ov i x10 x11 wr => ∃(k m:Nat) (q:Int) (l:List Int) (g:Option Addr) (c:Nat),k+gg=n/\i=.int .i64 (k:Int)/\pv=.int .i64 q/\ov=.slice g m c/\Hid (l.length=m)/\m<=3/\m<=k/\(-1<=q/\q<=1048600)/\Hid (ax s.data.toList n p []=ax s.data.toList gg q l)/\Hid (Own 3 1 w.heap.size w (.slice g m c) m (aE l) wr))
 case atStart=>exact⟨0,0,p,[],_,_,by omega,rfl,rfl,rfl,zH rfl,by omega,by omega,⟨hp0,by omega⟩,zH rfl,zH (by exact CY.out)⟩
 case round =>
  obtain⟨k,m,q,l,g,c,hk,rfl,rfl,rfl,HL,Rx,hmk,⟨hq0,hq1⟩,HV,HO⟩:=hrel;by_cases hlt:k<n
  ·have hi:(k:Int)<(n:Int):=by omega
   obtain⟨r,hr⟩:∃r,gk=r+1:=⟨gk - 1,by omega⟩;have zn:Hid (ax s.data.toList n p []=ax s.data.toList (r+1) q l):=zH (by rw[HV.out,hr]);have HR:=zH hr;clear HV hr;by_cases hq:q<0
   ·have HE:Hid (ax s.data.toList n p []=(l,-1)):=zH (by rw[zn.out,fE _ _ _ _ (.inl hq)]);go_wp2;go_ret2;unfold gz;rw[HE.out];refine⟨g,c,by rw[HL.out];rfl,?_⟩;rw[HL.out];exact HO.out
   ·obtain⟨j,rfl⟩:=Int.eq_ofNat_of_zero_le (show 0<=q by omega);by_cases hj:s.size<j
    ·have HE:Hid (ax s.data.toList n p []=(l,-1)):=zH (by rw[zn.out,fE _ _ _ _ (.inr (by rw[HLEN.out];omega))]);have hj2:(s.size:Int)<(j:Int):=by omega
     clear hj;go_wp2;go_ret2;unfold gz;rw[HE.out];refine⟨g,c,by rw[HL.out];rfl,?_⟩;rw[HL.out];exact HO.out
    ·have hj2:¬(s.size:Int)<(j:Int):=by omega
     have MX:(j:Int)<=(s.size:Int):=by omega
     have OO:(0:Int)<=(j:Int):=by omega
     have hjn:¬(j:Int)<0:=by omega
     have zD:=zH (mw s j 1073741824 (by omega));have Im:=zH (mH s j);have HN:=zH (sO s.data.toList r j l (by rw[HLEN.out];omega));have HY:=zH (qW s.data.toList r j l (by rw[HLEN.out];omega));have hrl:=kw (s.data.toList.drop j);have hrd:(aR (s.data.toList.drop j)).2<=7:=nJ _;clear hj hq;go_wp2_with fail
     refine(jL _ _ zD.out).mono ?_;rintro e w2 ⟨rfl,hb⟩;rw[Im.out];unfold eU;have xK:=zH (HO.out.kept hb);clear hb HO;generalize (aR (s.data.toList.drop j)).2=d at *;generalize (aR (s.data.toList.drop j)).1=x at *;by_cases hd:d=0
     ·have HE:Hid (ax s.data.toList n p []=(l,-1)):=zH (by rw[zn.out,HN.out hd]);have hd2:((d:Int)==0)=true:=by simp[hd]
      clear HN HY;subst hd;go_wp2;go_ret2;unfold gz;rw[HE.out];refine⟨g,c,by rw[HL.out];rfl,?_⟩;rw[HL.out];exact xK.out
     ·have HE:Hid (ax s.data.toList n p []=ax s.data.toList r ((j:Int)+d) (l ++ [(x:Int)])):=zH (by rw[zn.out,HY.out hd]);have hd2:((d:Int)==0)=false:=by simp[hd]
      clear HN HY hd;go_wp2_with (at_builtin;go_loud (refine cI rfl _ _ 40 rfl 3 (.int .i64 0) 1 8 Tryz.underlying40 cA rfl (by decide) _ _ _ _ _ (by rfl) (by exact xK.out) _ _ (by rfl) (by rfl) (by intro u hu;simp at hu;first|(subst hu;rfl)|(rcases hu with rfl|rfl <;> rfl)|(rcases hu with rfl|rfl|rfl <;> rfl)|(rcases hu with rfl|rfl|rfl|rfl <;> rfl)) (by omega) (by unfold maxLen;omega) ?_);intro a9 c9 w9 vQ vZ wO)
      have xy:=zH vQ;clear vQ vZ wO;go_roundg r
      case measure=>have:=HR.out;omega
      case rel=>exact⟨k+1,m+1,(j:Int)+d,l ++ [(x:Int)],_,_,by have:=HR.out;omega,by go_num,by go_num,rfl,zH (by rw[List.length_append,HL.out];rfl),by omega,by omega,⟨by omega,by omega⟩,HE,zH (by rw[cm];exact xy.out)⟩
  ·have hi:¬(k:Int)<(n:Int):=by omega
   have h0:gk=0:=by omega
   have HE:Hid (ax s.data.toList n p []=(l,q)):=zH (by rw[HV.out,h0];rfl);clear h0;go_wp2;go_ret2;unfold gz;rw[HE.out];refine⟨g,c,by rw[HL.out];rfl,?_⟩;rw[HL.out];exact HO.out
theorem gf (s:List UInt8)(p:Int):0<=(ax s 1 p []).2->∃x,(ax s 1 p []).1 = [x]/\0<=x/\x<=562949953421311:=by
 intro h;have h1:=(jf s 1 p []).1 h;have h2:=jm s 1 p [] (fun x hx=>by simp at hx);match hl:(ax s 1 p []).1,h1,h2 with
 | [x],_,h2=>exact⟨x,rfl,h2 x (by simp)⟩
def iX (s:List UInt8)(p:Int)(w:World)(e:Ending)(w':World):Prop:=e=.returned (.tuple #[.string ⟨(bP s p).1.toArray⟩,.int .i64 (bP s p).2])/\Below w.heap.size w w'
theorem uz (s:ByteArray)(a b:Nat):(⟨((s.data.toList.drop a).take b).toArray⟩:ByteArray)=s.extract a (a+b):=by
 have h:(s.extract a (a+b)).data.toList=(s.data.toList.drop a).take b:=by
  simp only[ByteArray.data_extract,Array.toList_extract];rw[List.extract_eq_take_drop];congr 1
  omega
 rw[←h,gE]
theorem kU (s:ByteArray)(p:Int)(w:World)(hs:s.size<=1048576)(hp0 : -1<=p)(hp1:p<=1048581) :
  Calls Tryz.prog 49 #[.string s,.int .i64 p] w (iX s.data.toList p w):=by
 have hlen:s.data.toList.length=s.size:=Array.length_toList;have HT:Hid (bP s.data.toList p=if (ax s.data.toList 1 p []).2<0∨(s.data.toList.length:Int) - (ax s.data.toList 1 p []).2<(ax s.data.toList 1 p []).1.getD 0 0 then ([],-1)
   else ((s.data.toList.drop (ax s.data.toList 1 p []).2.toNat).take ((ax s.data.toList 1 p []).1.getD 0 0).toNat,(ax s.data.toList 1 p []).2+(ax s.data.toList 1 p []).1.getD 0 0)):=zH rfl
 have LW:=zH (gf s.data.toList p);have hle:=eL s.data.toList 0 p [] hp0;rw[hlen] at HT hle;have HM:=zH (uz s);clear hlen;go_enter Tryz.func49,Tryz.ntmps49
 go_wp2_with fail
 refine(ew s p 1 _ hs hp0 hp1 (by omega)).mono ?_;rintro e w1 ⟨g,c,rfl,hO⟩;have HO:=zH hO;clear hO;generalize (ax s.data.toList 1 p []).2=q at *;generalize (ax s.data.toList 1 p []).1=l at *;by_cases hq:q<0
 ·have HE:Hid (bP s.data.toList p=([],-1)):=zH (by rw[HT.out,if_pos (.inl hq)]);clear HT;go_wp2;go_ret2;unfold iX;rw[HE.out];exact⟨rfl,HO.out.below⟩
 ·obtain⟨x,hx,hx0,hx1⟩:=LW.out (by omega);obtain⟨j,rfl⟩:=Int.eq_ofNat_of_zero_le (show 0<=q by omega);obtain⟨y,rfl⟩:=Int.eq_ofNat_of_zero_le hx0;subst hx;obtain⟨b,off,rfl,hbs,hc⟩:=HO.out.rd.at' (by simp);have hc0:=hc 0 (by simp);have hc0:w1.cell? ⟨b,off,none⟩=some (.int .i64 (y:Int)):=hc0;have HB:=zH HO.out.below;clear hc HO LW hq;by_cases hgt:(s.size:Int) - (j:Int)<(y:Int)
  ·have HE:Hid (bP s.data.toList p=([],-1)):=zH (by rw[HT.out,if_pos (.inr (by simpa using hgt))]);have Iu:IntKind.i64.wrap ((s.size:Int) - (j:Int))=(s.size:Int) - (j:Int):=IntWalk.i64_in _ ⟨by omega,by omega⟩;clear HT;go_wp2;go_ret2;unfold iX;rw[HE.out];exact⟨rfl,HB.out⟩
  ·have HE:Hid (bP s.data.toList p=((s.data.toList.drop j).take y,(j:Int)+y)):=zH (by rw[HT.out,if_neg (by simp;omega)];simp);have Iu:IntKind.i64.wrap ((s.size:Int) - (j:Int))=(s.size:Int) - (j:Int):=IntWalk.i64_in _ ⟨by omega,by omega⟩;have MJ:IntKind.i64.wrap ((j:Int)+(y:Int))=(j:Int)+(y:Int):=IntWalk.i64_in _ ⟨by omega,by omega⟩;have hj1:(j:Int)+(y:Int)<=(s.size:Int):=by omega
   have hj2:(0:Int)<=(j:Int):=by omega
   have MX:(j:Int)<=(j:Int)+(y:Int):=by omega
   clear HT;go_wp2;go_quiet (fail)
   go_wp2;go_ret2;unfold iX;rw[HE.out];simp only;rw[HM.out];exact⟨rfl,below_drewN HB.out _⟩
end Go.Proofs.YtlkfabkkjfmnmaaGreatDoor
