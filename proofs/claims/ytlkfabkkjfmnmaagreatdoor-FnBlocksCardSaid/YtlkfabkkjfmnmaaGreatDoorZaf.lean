import Derived.Test.YtlkfabkkjfmnmaaGreatDoorZaa
import Derived.Test.YtlkfabkkjfmnmaaGreatDoorZae
namespace Go.Proofs.YtlkfabkkjfmnmaaGreatDoor
open Go.RowKit
set_option linter.all false
set_option maxRecDepth 1000000
set_option maxHeartbeats 6000000
def ch (b:Nat):Nat:=if b<128 then 1 else if b<192 then 0 else if b<224 then 2 else if b<240 then 3 else if b<248 then 4 else 0
def cOf (b:Nat):Nat:=if b<128 then b else if b<224 then b % 32 else if b<240 then b % 16 else b % 8
def bh (b:UInt8):Bool:=decide (128<=b.toNat)&&decide (b.toNat<192)
def bf (c:Nat)(l:List UInt8):Nat:=l.foldl (fun c b=>c*64+b.toNat % 64) c
def eH (n:Nat):Nat:=if n=2 then 128 else if n=3 then 2048 else 65536
def sg1 (l:List UInt8):Int × Nat:=
 match l with
 | []=>(0,0)
 | b::r =>
  if ch b.toNat=1 then ((b.toNat:Int),1)
  else if ch b.toNat=0∨l.length<ch b.toNat then (0,0)
  else if ∀x∈r.take (ch b.toNat - 1),bh x=true then
   if eH (ch b.toNat)<=bf (cOf b.toNat) (r.take (ch b.toNat - 1))/\bH (bf (cOf b.toNat) (r.take (ch b.toNat - 1)))=true then ((bf (cOf b.toNat) (r.take (ch b.toNat - 1)):Int),ch b.toNat) else (0,0)
  else (0,0)
def sgV (l:List UInt8):Value:=.tuple #[.int .i64 (sg1 l).1,.int .i64 ((sg1 l).2:Int)]
theorem ey (c:Nat)(l:List UInt8)(b:UInt8):bf c (l ++ [b])=bf c l*64+b.toNat % 64:=by simp[bf]
theorem dA (c:Nat)(l:List UInt8):bf c l<(c+1)*64 ^ l.length:=by
 suffices H:∀r:List UInt8,bf c r.reverse<(c+1)*64 ^ r.length by have:=H l.reverse;simpa using this
 intro r;induction r with
 | nil=>simp[bf]
 | cons b r ih =>
  rw[List.reverse_cons,ey,List.length_cons,Nat.pow_succ,←Nat.mul_assoc];omega
theorem sz1 (b:Nat)(h:b<128):ch b=1:=by unfold ch;rw[if_pos h]
theorem sz2 (b:Nat)(h0:192<=b)(h1:b<224):ch b=2:=by unfold ch;rw[if_neg (by omega),if_neg (by omega),if_pos (by omega)]
theorem sz3 (b:Nat)(h0:224<=b)(h1:b<240):ch b=3:=by unfold ch;rw[if_neg (by omega),if_neg (by omega),if_neg (by omega),if_pos (by omega)]
theorem sz4 (b:Nat)(h0:240<=b)(h1:b<248):ch b=4:=by unfold ch;rw[if_neg (by omega),if_neg (by omega),if_neg (by omega),if_neg (by omega),if_pos (by omega)]
theorem sz0 (b:Nat)(h:(128<=b/\b<192)∨248<=b):ch b=0:=by
 unfold ch;rcases h with h|h
 ·rw[if_neg (by omega),if_pos (by omega)]
 ·rw[if_neg (by omega),if_neg (by omega),if_neg (by omega),if_neg (by omega),if_neg (by omega)]
theorem c2 (b:Nat)(h0:192<=b)(h1:b<224):cOf b=b % 32:=by unfold cOf;rw[if_neg (by omega),if_pos (by omega)]
theorem c3 (b:Nat)(h0:224<=b)(h1:b<240):cOf b=b % 16:=by unfold cOf;rw[if_neg (by omega),if_neg (by omega),if_pos (by omega)]
theorem c4 (b:Nat)(h0:240<=b)(h1:b<248):cOf b=b % 8:=by unfold cOf;rw[if_neg (by omega),if_neg (by omega),if_neg (by omega)]
theorem mC (l:List UInt8)(h0:0<l.length)(h:ch l[0].toNat=1):sg1 l=((l[0].toNat:Int),1):=by
 cases l with
 | nil=>simp at h0
 | cons b r=>simp only[List.getElem_cons_zero] at h ⊢;unfold sg1;simp only;rw[if_pos h]
theorem kj (l:List UInt8)(h0:0<l.length)(h:ch l[0].toNat=0):sg1 l=(0,0):=by
 cases l with
 | nil=>simp at h0
 | cons b r=>simp only[List.getElem_cons_zero] at h;unfold sg1;simp only;rw[if_neg (by omega),if_pos (.inl h)]
theorem ej (l:List UInt8)(n:Nat)(h0:0<l.length)(h:ch l[0].toNat=n)(hn:n≠1)(hl:l.length<n):sg1 l=(0,0):=by
 cases l with
 | nil=>simp at h0
 | cons b r=>simp only[List.getElem_cons_zero] at h;unfold sg1;simp only;rw[if_neg (by omega),if_pos (.inr (by omega))]
theorem fT (l:List UInt8)(n:Nat)(h0:0<l.length)(h:ch l[0].toNat=n)(hn:n≠1)(hb:¬ ∀x∈(l.drop 1).take (n - 1),bh x=true):sg1 l=(0,0):=by
 cases l with
 | nil=>simp at h0
 | cons b r =>
  simp only[List.getElem_cons_zero] at h;simp only[List.drop_succ_cons,List.drop_zero] at hb;unfold sg1;simp only;rw[if_neg (by omega),h];by_cases c:n=0∨(b::r).length<n
  ·rw[if_pos c]
  ·rw[if_neg c,if_neg hb]
theorem eY (l:List UInt8)(n:Nat)(h0:0<l.length)(h:ch l[0].toNat=n)(hn:n≠1)(hz:n≠0)(hl:n<=l.length)(hb:∀x∈(l.drop 1).take (n - 1),bh x=true) :
  sg1 l=if eH n<=bf (cOf l[0].toNat) ((l.drop 1).take (n - 1))/\bH (bf (cOf l[0].toNat) ((l.drop 1).take (n - 1)))=true then ((bf (cOf l[0].toNat) ((l.drop 1).take (n - 1)):Int),n) else (0,0):=by
 cases l with
 | nil=>simp at h0
 | cons b r =>
  simp only[List.getElem_cons_zero] at h ⊢;simp only[List.drop_succ_cons,List.drop_zero] at hb ⊢;unfold sg1;simp only;rw[if_neg (by omega),h,if_neg (by omega),if_pos hb]
theorem ja (x:Int)(h0:0<=x)(h1:x<256):bits .and .u8 x 192=x / 64*64:=by
 obtain⟨n,rfl⟩:=Int.eq_ofNat_of_zero_le h0;have H:∀m:Fin 256,bits .and .u8 (m.val:Int) 192=(m.val:Int) / 64*64:=by decide +kernel
 exact H ⟨n,by omega⟩
theorem iv (w:World):Calls Tryz.prog 145 #[.int .i64 2] w fun e w'=>e=.returned (.int .i64 128)/\Below w.heap.size w w':=by
 have hc:=(Own.lit (e:=3) (size:=1) (n:=5) (Below.refl w.heap.size w) zN #[.int .i64 0,.int .i64 0,.int .i64 128,.int .i64 2048,.int .i64 65536] rfl (by decide)).cell 2 (by decide);go_enter Tryz.func145,Tryz.ntmps145
 go_wp2;go_ret;exact⟨rfl,zB.alloc zN _⟩
theorem iy (w:World):Calls Tryz.prog 145 #[.int .i64 3] w fun e w'=>e=.returned (.int .i64 2048)/\Below w.heap.size w w':=by
 have hc:=(Own.lit (e:=3) (size:=1) (n:=5) (Below.refl w.heap.size w) zN #[.int .i64 0,.int .i64 0,.int .i64 128,.int .i64 2048,.int .i64 65536] rfl (by decide)).cell 3 (by decide);go_enter Tryz.func145,Tryz.ntmps145
 go_wp2;go_ret;exact⟨rfl,zB.alloc zN _⟩
theorem im (w:World):Calls Tryz.prog 145 #[.int .i64 4] w fun e w'=>e=.returned (.int .i64 65536)/\Below w.heap.size w w':=by
 have hc:=(Own.lit (e:=3) (size:=1) (n:=5) (Below.refl w.heap.size w) zN #[.int .i64 0,.int .i64 0,.int .i64 128,.int .i64 2048,.int .i64 65536] rfl (by decide)).cell 4 (by decide);go_enter Tryz.func145,Tryz.ntmps145
 go_wp2;go_ret;exact⟨rfl,zB.alloc zN _⟩
theorem kE (s:ByteArray)(w:World)(h0:0<s.size)(hs:s.size<=1073741824) :
  Calls Tryz.prog 134 #[.string s] w fun e w'=>e=.returned (sgV s.data.toList)/\Below w.heap.size w w':=by
 have hs0:s.data.toList[0]'(by simpa using h0)=s[0]:=rfl;have hb0:=s[0].toNat_lt;have hp0:(0:Int)<(s.size:Int):=by omega
 rcases (show s[0].toNat<128∨((128<=s[0].toNat/\s[0].toNat<192)∨248<=s[0].toNat)∨(192<=s[0].toNat/\s[0].toNat<224)∨(224<=s[0].toNat/\s[0].toNat<240)∨(240<=s[0].toNat/\s[0].toNat<248) from by omega) with hr|hr|hr|hr|hr
 ·have H:Hid (sg1 s.data.toList=((s[0].toNat:Int),1)):=zH (mC _ (by simpa using h0) (by rw[hs0];exact sz1 _ hr));clear hs0;go_enter Tryz.func134,Tryz.ntmps134
  go_wp2;go_ret2;exact⟨by rw[sgV,H.out];rfl,zB⟩
 ·have H:Hid (sg1 s.data.toList=(0,0)):=zH (kj _ (by simpa using h0) (by rw[hs0];exact sz0 _ hr));clear hs0;rcases hr with hr|hr
  all_goals
   go_enter Tryz.func134,Tryz.ntmps134
   go_wp2_with (go_at_call 51;(first|refine(am _ _ _ _ (by omega) (by omega)).mono ?_|refine(aB _ _ _ _ (by omega)).mono ?_);rintro e w' ⟨rfl,rfl⟩)
   go_ret2;exact⟨by rw[sgV,H.out];rfl,zB⟩
 ·obtain⟨hr1,hr2⟩:=hr;have hq:=lU (s[0].toNat:Int) (by omega) (by omega);by_cases hlen:s.size<2
  ·have H:Hid (sg1 s.data.toList=(0,0)):=zH (ej s.data.toList 2 (by simpa using h0) (by rw[hs0];exact sz2 _ (by omega) (by omega)) (by decide) (by simpa using hlen));have hl2:(s.size:Int)<2:=by omega
   clear hs0;go_enter Tryz.func134,Tryz.ntmps134
   go_wp2_with (go_at_call 51;(first|refine(am _ _ _ _ (by omega) (by omega)).mono ?_|refine(aB _ _ _ _ (by omega)).mono ?_);rintro e w' ⟨rfl,rfl⟩)
   go_ret2;exact⟨by rw[sgV,H.out];rfl,zB⟩
  ·have hl2:¬(s.size:Int)<2:=by omega
   have vJ:Hid (ch (s.data.toList[0]'(by simpa using h0)).toNat=2):=zH (by rw[hs0];exact sz2 _ (by omega) (by omega));have Ag:=zH hs0;clear hs0;go_enter Tryz.func134,Tryz.ntmps134
   go_wp2_with (go_at_call 51;(first|refine(am _ _ _ _ (by omega) (by omega)).mono ?_|refine(aB _ _ _ _ (by omega)).mono ?_);rintro e w' ⟨rfl,rfl⟩)
   go_loopg [6,7] 1 (fun g c i wr => ∃j:Nat,j+g=1/\i=.int .i64 (1+(j:Int))/\c=.int .i64 (bf (s[0].toNat % 32) ((s.data.toList.drop 1).take j):Nat)/\(∀b∈(s.data.toList.drop 1).take j,bh b=true)/\wr=w)
   case atStart=>exact⟨0,by omega,by go_num,by simp[bf],by simp,rfl⟩
   case round =>
    obtain⟨j,hj,rfl,rfl,hall,rfl⟩:=hrel;by_cases hlt:j<1
    ·have hjs:1+j<s.size:=by omega
     have hD:∃h:j<(s.data.toList.drop 1).length,(s.data.toList.drop 1)[j]'h=s[1+j]:=⟨by simp;omega,by simp only[List.getElem_drop];rfl⟩;obtain⟨hD1,hD2⟩:=hD;have hts:(s.data.toList.drop 1).take (j+1)=(s.data.toList.drop 1).take j ++ [s[1+j]]:=by rw[List.take_succ_eq_append_getElem hD1,hD2]
     have hmem:s[1+j]∈(s.data.toList.drop 1).take 1:=by
      rw[←hD2];exact List.mem_take_iff_getElem.2 ⟨j,by simp;omega,rfl⟩
     have hb0:=(s[1+j]).toNat_lt;have hcb:=dA (s[0].toNat % 32) ((s.data.toList.drop 1).take j);have yP:bf (s[0].toNat % 32) ((s.data.toList.drop 1).take j)<134217728:=by
      refine Nat.lt_of_lt_of_le hcb ?_;have h2:((s.data.toList.drop 1).take j).length<=3:=by rw[List.length_take];omega
      have h3:=dP 64 _ 3 h2 (by decide);have h4:s[0].toNat % 32+1<=32:=by omega
      exact Nat.le_trans (Nat.mul_le_mul h4 h3) (by decide)
     have ha:=ja ((s[1+j]).toNat:Int) (by omega) (by omega);have ha2:=u8_and63 ((s[1+j]).toNat:Int) (by omega) (by omega);have hi0:(0:Int)<=1+(j:Int):=by omega
     have hi1:1+(j:Int)<(s.size:Int):=by omega
     clear hcb hD2 hD1;by_cases hco:bh s[1+j]=true
     ·have H1:Hid (bf (s[0].toNat % 32) ((s.data.toList.drop 1).take (j+1))=bf (s[0].toNat % 32) ((s.data.toList.drop 1).take j)*64+s[1+j].toNat % 64):=zH (by rw[hts,ey]);have H2:Hid (∀b∈(s.data.toList.drop 1).take (j+1),bh b=true):=zH (by
       rw[hts];intro b hb;rcases List.mem_append.1 hb with hb|hb
       ·exact hall b hb
       ·rw[List.mem_singleton.1 hb];exact hco)
      simp only[bh,Bool.and_eq_true,decide_eq_true_eq] at hco;have hne:(((s[1+j]).toNat:Int) / 64*64 != 128)=false:=by simp;omega
      have hor:=cP 6 ((bf (s[0].toNat % 32) ((s.data.toList.drop 1).take j):Int)*64) (((s[1+j]).toNat:Int) % 64) (by omega) (by omega) (by omega) (by omega) (by omega) (by omega);clear hts hmem hall hco;generalize bf (s[0].toNat % 32) ((s.data.toList.drop 1).take j)=q at *;go_wp2;go_roundg (gk - 1)
      case measure=>omega
      case rel=>exact⟨j+1,by omega,by go_num,by rw[H1.out];go_num,H2.out,rfl⟩
     ·have H:Hid (sg1 s.data.toList=(0,0)):=zH (fT s.data.toList 2 (by simpa using h0) vJ.out (by decide) (by intro hh;exact hco (hh _ hmem)));have hne:(((s[1+j]).toNat:Int) / 64*64 != 128)=true:=by
       simp only[bh,Bool.and_eq_true,decide_eq_true_eq] at hco;simp;omega
      clear hts hmem hall hco;generalize bf (s[0].toNat % 32) ((s.data.toList.drop 1).take j)=q at *;go_wp2;go_ret2;exact⟨by rw[sgV,H.out];rfl,zB⟩
    ·have hjn:j=1:=by omega
     subst hjn;have hcb:=dA (s[0].toNat % 32) ((s.data.toList.drop 1).take 1);have hlen3:((s.data.toList.drop 1).take 1).length=1:=by rw[List.length_take,List.length_drop];simp;omega
     rw[hlen3] at hcb;have yP:bf (s[0].toNat % 32) ((s.data.toList.drop 1).take 1)<2048:=by
      have h4:s[0].toNat % 32+1<=32:=by omega
      exact Nat.lt_of_lt_of_le hcb (Nat.le_trans (Nat.mul_le_mul_right _ h4) (by decide))
     have hV:=eY s.data.toList 2 (by simpa using h0) vJ.out (by decide) (by decide) (by simp;omega) hall;rw[Ag.out,show cOf s[0].toNat=s[0].toNat % 32 from c2 _ (by omega) (by omega)] at hV;have HV:=zH hV;clear hV hall hcb hlen3;generalize bf (s[0].toNat % 32) ((s.data.toList.drop 1).take 1)=q at *;have vY:eH 2=128:=rfl;by_cases hq1:q<128
     ·have H:Hid (sg1 s.data.toList=(0,0)):=zH (by rw[HV.out,if_neg (by rw[vY];omega)]);clear vY;go_wp2_with (go_at_call 145;refine(iv _).mono ?_;rintro e w1 ⟨rfl,hb1⟩)
      go_ret2;exact⟨by rw[sgV,H.out];rfl,hb1⟩
     ·by_cases hq2:bH q=true
      ·have H:Hid (sg1 s.data.toList=((q:Int),2)):=zH (by rw[HV.out,if_pos ⟨by rw[vY];omega,hq2⟩]);simp only[bH,decide_eq_true_eq] at hq2;have k1:=hq2.1;have k2:=hq2.2.1;have HK:Hid ((q:Int)<55296∨57343<(q:Int)):=zH (by omega);clear vY hq2;go_wp2_with (first|(go_at_call 145;refine(iv _).mono ?_;rintro e w1 ⟨rfl,hb1⟩)|(go_at_call 135;refine(dF _ _ (by omega) (by omega) HK.out).mono ?_;rintro e w' ⟨rfl,rfl⟩))
       go_ret2;exact⟨by rw[sgV,H.out];rfl,hb1⟩
      ·have H:Hid (sg1 s.data.toList=(0,0)):=zH (by rw[HV.out,if_neg (fun h=>hq2 h.2)]);simp only[bH,decide_eq_true_eq] at hq2;have HK:Hid ((q:Int)<0∨1114111<(q:Int)∨(55296<=(q:Int)/\(q:Int)<=57343)):=zH (by omega);clear vY hq2;go_wp2_with (first|(go_at_call 145;refine(iv _).mono ?_;rintro e w1 ⟨rfl,hb1⟩)|(go_at_call 135;refine(gM _ _ HK.out).mono ?_;rintro e w' ⟨rfl,rfl⟩))
       go_ret2;exact⟨by rw[sgV,H.out];rfl,hb1⟩
 ·obtain⟨hr1,hr2⟩:=hr;have hq:=lE (s[0].toNat:Int) (by omega) (by omega);by_cases hlen:s.size<3
  ·have H:Hid (sg1 s.data.toList=(0,0)):=zH (ej s.data.toList 3 (by simpa using h0) (by rw[hs0];exact sz3 _ (by omega) (by omega)) (by decide) (by simpa using hlen));have hl2:(s.size:Int)<3:=by omega
   clear hs0;go_enter Tryz.func134,Tryz.ntmps134
   go_wp2_with (go_at_call 51;(first|refine(am _ _ _ _ (by omega) (by omega)).mono ?_|refine(aB _ _ _ _ (by omega)).mono ?_);rintro e w' ⟨rfl,rfl⟩)
   go_ret2;exact⟨by rw[sgV,H.out];rfl,zB⟩
  ·have hl2:¬(s.size:Int)<3:=by omega
   have vJ:Hid (ch (s.data.toList[0]'(by simpa using h0)).toNat=3):=zH (by rw[hs0];exact sz3 _ (by omega) (by omega));have Ag:=zH hs0;clear hs0;go_enter Tryz.func134,Tryz.ntmps134
   go_wp2_with (go_at_call 51;(first|refine(am _ _ _ _ (by omega) (by omega)).mono ?_|refine(aB _ _ _ _ (by omega)).mono ?_);rintro e w' ⟨rfl,rfl⟩)
   go_loopg [6,7] 2 (fun g c i wr => ∃j:Nat,j+g=2/\i=.int .i64 (1+(j:Int))/\c=.int .i64 (bf (s[0].toNat % 16) ((s.data.toList.drop 1).take j):Nat)/\(∀b∈(s.data.toList.drop 1).take j,bh b=true)/\wr=w)
   case atStart=>exact⟨0,by omega,by go_num,by simp[bf],by simp,rfl⟩
   case round =>
    obtain⟨j,hj,rfl,rfl,hall,rfl⟩:=hrel;by_cases hlt:j<2
    ·have hjs:1+j<s.size:=by omega
     have hD:∃h:j<(s.data.toList.drop 1).length,(s.data.toList.drop 1)[j]'h=s[1+j]:=⟨by simp;omega,by simp only[List.getElem_drop];rfl⟩;obtain⟨hD1,hD2⟩:=hD;have hts:(s.data.toList.drop 1).take (j+1)=(s.data.toList.drop 1).take j ++ [s[1+j]]:=by rw[List.take_succ_eq_append_getElem hD1,hD2]
     have hmem:s[1+j]∈(s.data.toList.drop 1).take 2:=by
      rw[←hD2];exact List.mem_take_iff_getElem.2 ⟨j,by simp;omega,rfl⟩
     have hb0:=(s[1+j]).toNat_lt;have hcb:=dA (s[0].toNat % 16) ((s.data.toList.drop 1).take j);have yP:bf (s[0].toNat % 16) ((s.data.toList.drop 1).take j)<134217728:=by
      refine Nat.lt_of_lt_of_le hcb ?_;have h2:((s.data.toList.drop 1).take j).length<=3:=by rw[List.length_take];omega
      have h3:=dP 64 _ 3 h2 (by decide);have h4:s[0].toNat % 16+1<=32:=by omega
      exact Nat.le_trans (Nat.mul_le_mul h4 h3) (by decide)
     have ha:=ja ((s[1+j]).toNat:Int) (by omega) (by omega);have ha2:=u8_and63 ((s[1+j]).toNat:Int) (by omega) (by omega);have hi0:(0:Int)<=1+(j:Int):=by omega
     have hi1:1+(j:Int)<(s.size:Int):=by omega
     clear hcb hD2 hD1;by_cases hco:bh s[1+j]=true
     ·have H1:Hid (bf (s[0].toNat % 16) ((s.data.toList.drop 1).take (j+1))=bf (s[0].toNat % 16) ((s.data.toList.drop 1).take j)*64+s[1+j].toNat % 64):=zH (by rw[hts,ey]);have H2:Hid (∀b∈(s.data.toList.drop 1).take (j+1),bh b=true):=zH (by
       rw[hts];intro b hb;rcases List.mem_append.1 hb with hb|hb
       ·exact hall b hb
       ·rw[List.mem_singleton.1 hb];exact hco)
      simp only[bh,Bool.and_eq_true,decide_eq_true_eq] at hco;have hne:(((s[1+j]).toNat:Int) / 64*64 != 128)=false:=by simp;omega
      have hor:=cP 6 ((bf (s[0].toNat % 16) ((s.data.toList.drop 1).take j):Int)*64) (((s[1+j]).toNat:Int) % 64) (by omega) (by omega) (by omega) (by omega) (by omega) (by omega);clear hts hmem hall hco;generalize bf (s[0].toNat % 16) ((s.data.toList.drop 1).take j)=q at *;go_wp2;go_roundg (gk - 1)
      case measure=>omega
      case rel=>exact⟨j+1,by omega,by go_num,by rw[H1.out];go_num,H2.out,rfl⟩
     ·have H:Hid (sg1 s.data.toList=(0,0)):=zH (fT s.data.toList 3 (by simpa using h0) vJ.out (by decide) (by intro hh;exact hco (hh _ hmem)));have hne:(((s[1+j]).toNat:Int) / 64*64 != 128)=true:=by
       simp only[bh,Bool.and_eq_true,decide_eq_true_eq] at hco;simp;omega
      clear hts hmem hall hco;generalize bf (s[0].toNat % 16) ((s.data.toList.drop 1).take j)=q at *;go_wp2;go_ret2;exact⟨by rw[sgV,H.out];rfl,zB⟩
    ·have hjn:j=2:=by omega
     subst hjn;have hcb:=dA (s[0].toNat % 16) ((s.data.toList.drop 1).take 2);have hlen3:((s.data.toList.drop 1).take 2).length=2:=by rw[List.length_take,List.length_drop];simp;omega
     rw[hlen3] at hcb;have yP:bf (s[0].toNat % 16) ((s.data.toList.drop 1).take 2)<65536:=by
      have h4:s[0].toNat % 16+1<=16:=by omega
      exact Nat.lt_of_lt_of_le hcb (Nat.le_trans (Nat.mul_le_mul_right _ h4) (by decide))
     have hV:=eY s.data.toList 3 (by simpa using h0) vJ.out (by decide) (by decide) (by simp;omega) hall;rw[Ag.out,show cOf s[0].toNat=s[0].toNat % 16 from c3 _ (by omega) (by omega)] at hV;have HV:=zH hV;clear hV hall hcb hlen3;generalize bf (s[0].toNat % 16) ((s.data.toList.drop 1).take 2)=q at *;have vY:eH 3=2048:=rfl;by_cases hq1:q<2048
     ·have H:Hid (sg1 s.data.toList=(0,0)):=zH (by rw[HV.out,if_neg (by rw[vY];omega)]);clear vY;go_wp2_with (go_at_call 145;refine(iy _).mono ?_;rintro e w1 ⟨rfl,hb1⟩)
      go_ret2;exact⟨by rw[sgV,H.out];rfl,hb1⟩
     ·by_cases hq2:bH q=true
      ·have H:Hid (sg1 s.data.toList=((q:Int),3)):=zH (by rw[HV.out,if_pos ⟨by rw[vY];omega,hq2⟩]);simp only[bH,decide_eq_true_eq] at hq2;have k1:=hq2.1;have k2:=hq2.2.1;have HK:Hid ((q:Int)<55296∨57343<(q:Int)):=zH (by omega);clear vY hq2;go_wp2_with (first|(go_at_call 145;refine(iy _).mono ?_;rintro e w1 ⟨rfl,hb1⟩)|(go_at_call 135;refine(dF _ _ (by omega) (by omega) HK.out).mono ?_;rintro e w' ⟨rfl,rfl⟩))
       go_ret2;exact⟨by rw[sgV,H.out];rfl,hb1⟩
      ·have H:Hid (sg1 s.data.toList=(0,0)):=zH (by rw[HV.out,if_neg (fun h=>hq2 h.2)]);simp only[bH,decide_eq_true_eq] at hq2;have HK:Hid ((q:Int)<0∨1114111<(q:Int)∨(55296<=(q:Int)/\(q:Int)<=57343)):=zH (by omega);clear vY hq2;go_wp2_with (first|(go_at_call 145;refine(iy _).mono ?_;rintro e w1 ⟨rfl,hb1⟩)|(go_at_call 135;refine(gM _ _ HK.out).mono ?_;rintro e w' ⟨rfl,rfl⟩))
       go_ret2;exact⟨by rw[sgV,H.out];rfl,hb1⟩
 ·obtain⟨hr1,hr2⟩:=hr;have hq:=nj (s[0].toNat:Int) (by omega) (by omega);by_cases hlen:s.size<4
  ·have H:Hid (sg1 s.data.toList=(0,0)):=zH (ej s.data.toList 4 (by simpa using h0) (by rw[hs0];exact sz4 _ (by omega) (by omega)) (by decide) (by simpa using hlen));have hl2:(s.size:Int)<4:=by omega
   clear hs0;go_enter Tryz.func134,Tryz.ntmps134
   go_wp2_with (go_at_call 51;(first|refine(am _ _ _ _ (by omega) (by omega)).mono ?_|refine(aB _ _ _ _ (by omega)).mono ?_);rintro e w' ⟨rfl,rfl⟩)
   go_ret2;exact⟨by rw[sgV,H.out];rfl,zB⟩
  ·have hl2:¬(s.size:Int)<4:=by omega
   have vJ:Hid (ch (s.data.toList[0]'(by simpa using h0)).toNat=4):=zH (by rw[hs0];exact sz4 _ (by omega) (by omega));have Ag:=zH hs0;clear hs0;go_enter Tryz.func134,Tryz.ntmps134
   go_wp2_with (go_at_call 51;(first|refine(am _ _ _ _ (by omega) (by omega)).mono ?_|refine(aB _ _ _ _ (by omega)).mono ?_);rintro e w' ⟨rfl,rfl⟩)
   go_loopg [6,7] 3 (fun g c i wr => ∃j:Nat,j+g=3/\i=.int .i64 (1+(j:Int))/\c=.int .i64 (bf (s[0].toNat % 8) ((s.data.toList.drop 1).take j):Nat)/\(∀b∈(s.data.toList.drop 1).take j,bh b=true)/\wr=w)
   case atStart=>exact⟨0,by omega,by go_num,by simp[bf],by simp,rfl⟩
   case round =>
    obtain⟨j,hj,rfl,rfl,hall,rfl⟩:=hrel;by_cases hlt:j<3
    ·have hjs:1+j<s.size:=by omega
     have hD:∃h:j<(s.data.toList.drop 1).length,(s.data.toList.drop 1)[j]'h=s[1+j]:=⟨by simp;omega,by simp only[List.getElem_drop];rfl⟩;obtain⟨hD1,hD2⟩:=hD;have hts:(s.data.toList.drop 1).take (j+1)=(s.data.toList.drop 1).take j ++ [s[1+j]]:=by rw[List.take_succ_eq_append_getElem hD1,hD2]
     have hmem:s[1+j]∈(s.data.toList.drop 1).take 3:=by
      rw[←hD2];exact List.mem_take_iff_getElem.2 ⟨j,by simp;omega,rfl⟩
     have hb0:=(s[1+j]).toNat_lt;have hcb:=dA (s[0].toNat % 8) ((s.data.toList.drop 1).take j);have yP:bf (s[0].toNat % 8) ((s.data.toList.drop 1).take j)<134217728:=by
      refine Nat.lt_of_lt_of_le hcb ?_;have h2:((s.data.toList.drop 1).take j).length<=3:=by rw[List.length_take];omega
      have h3:=dP 64 _ 3 h2 (by decide);have h4:s[0].toNat % 8+1<=32:=by omega
      exact Nat.le_trans (Nat.mul_le_mul h4 h3) (by decide)
     have ha:=ja ((s[1+j]).toNat:Int) (by omega) (by omega);have ha2:=u8_and63 ((s[1+j]).toNat:Int) (by omega) (by omega);have hi0:(0:Int)<=1+(j:Int):=by omega
     have hi1:1+(j:Int)<(s.size:Int):=by omega
     clear hcb hD2 hD1;by_cases hco:bh s[1+j]=true
     ·have H1:Hid (bf (s[0].toNat % 8) ((s.data.toList.drop 1).take (j+1))=bf (s[0].toNat % 8) ((s.data.toList.drop 1).take j)*64+s[1+j].toNat % 64):=zH (by rw[hts,ey]);have H2:Hid (∀b∈(s.data.toList.drop 1).take (j+1),bh b=true):=zH (by
       rw[hts];intro b hb;rcases List.mem_append.1 hb with hb|hb
       ·exact hall b hb
       ·rw[List.mem_singleton.1 hb];exact hco)
      simp only[bh,Bool.and_eq_true,decide_eq_true_eq] at hco;have hne:(((s[1+j]).toNat:Int) / 64*64 != 128)=false:=by simp;omega
      have hor:=cP 6 ((bf (s[0].toNat % 8) ((s.data.toList.drop 1).take j):Int)*64) (((s[1+j]).toNat:Int) % 64) (by omega) (by omega) (by omega) (by omega) (by omega) (by omega);clear hts hmem hall hco;generalize bf (s[0].toNat % 8) ((s.data.toList.drop 1).take j)=q at *;go_wp2;go_roundg (gk - 1)
      case measure=>omega
      case rel=>exact⟨j+1,by omega,by go_num,by rw[H1.out];go_num,H2.out,rfl⟩
     ·have H:Hid (sg1 s.data.toList=(0,0)):=zH (fT s.data.toList 4 (by simpa using h0) vJ.out (by decide) (by intro hh;exact hco (hh _ hmem)));have hne:(((s[1+j]).toNat:Int) / 64*64 != 128)=true:=by
       simp only[bh,Bool.and_eq_true,decide_eq_true_eq] at hco;simp;omega
      clear hts hmem hall hco;generalize bf (s[0].toNat % 8) ((s.data.toList.drop 1).take j)=q at *;go_wp2;go_ret2;exact⟨by rw[sgV,H.out];rfl,zB⟩
    ·have hjn:j=3:=by omega
     subst hjn;have hcb:=dA (s[0].toNat % 8) ((s.data.toList.drop 1).take 3);have hlen3:((s.data.toList.drop 1).take 3).length=3:=by rw[List.length_take,List.length_drop];simp;omega
     rw[hlen3] at hcb;have yP:bf (s[0].toNat % 8) ((s.data.toList.drop 1).take 3)<2097152:=by
      have h4:s[0].toNat % 8+1<=8:=by omega
      exact Nat.lt_of_lt_of_le hcb (Nat.le_trans (Nat.mul_le_mul_right _ h4) (by decide))
     have hV:=eY s.data.toList 4 (by simpa using h0) vJ.out (by decide) (by decide) (by simp;omega) hall;rw[Ag.out,show cOf s[0].toNat=s[0].toNat % 8 from c4 _ (by omega) (by omega)] at hV;have HV:=zH hV;clear hV hall hcb hlen3;generalize bf (s[0].toNat % 8) ((s.data.toList.drop 1).take 3)=q at *;have vY:eH 4=65536:=rfl;by_cases hq1:q<65536
     ·have H:Hid (sg1 s.data.toList=(0,0)):=zH (by rw[HV.out,if_neg (by rw[vY];omega)]);clear vY;go_wp2_with (go_at_call 145;refine(im _).mono ?_;rintro e w1 ⟨rfl,hb1⟩)
      go_ret2;exact⟨by rw[sgV,H.out];rfl,hb1⟩
     ·by_cases hq2:bH q=true
      ·have H:Hid (sg1 s.data.toList=((q:Int),4)):=zH (by rw[HV.out,if_pos ⟨by rw[vY];omega,hq2⟩]);simp only[bH,decide_eq_true_eq] at hq2;have k1:=hq2.1;have k2:=hq2.2.1;have HK:Hid ((q:Int)<55296∨57343<(q:Int)):=zH (by omega);clear vY hq2;go_wp2_with (first|(go_at_call 145;refine(im _).mono ?_;rintro e w1 ⟨rfl,hb1⟩)|(go_at_call 135;refine(dF _ _ (by omega) (by omega) HK.out).mono ?_;rintro e w' ⟨rfl,rfl⟩))
       go_ret2;exact⟨by rw[sgV,H.out];rfl,hb1⟩
      ·have H:Hid (sg1 s.data.toList=(0,0)):=zH (by rw[HV.out,if_neg (fun h=>hq2 h.2)]);simp only[bH,decide_eq_true_eq] at hq2;have HK:Hid ((q:Int)<0∨1114111<(q:Int)∨(55296<=(q:Int)/\(q:Int)<=57343)):=zH (by omega);clear vY hq2;go_wp2_with (first|(go_at_call 145;refine(im _).mono ?_;rintro e w1 ⟨rfl,hb1⟩)|(go_at_call 135;refine(gM _ _ HK.out).mono ?_;rintro e w' ⟨rfl,rfl⟩))
       go_ret2;exact⟨by rw[sgV,H.out];rfl,hb1⟩
end Go.Proofs.YtlkfabkkjfmnmaaGreatDoor
