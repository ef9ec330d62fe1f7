import Derived.Test.YtlkfabkkjfmnmaaGreatDoorZaa
import Derived.Test.YtlkfabkkjfmnmaaGreatDoorZab
import Derived.Test.YtlkfabkkjfmnmaaGreatDoorZae
import Derived.Test.YtlkfabkkjfmnmaaGreatDoorZaf
namespace Go.Proofs.YtlkfabkkjfmnmaaGreatDoor
open Go.RowKit
set_option linter.all false
set_option maxRecDepth 1000000
set_option maxHeartbeats 6000000
def gj:Nat->List UInt8->Option (List Int)
 | 0,l=>if l = [] then some [] else none
 | f+1,l=>if l = [] then some [] else if (sg1 l).2=0 then none else (gj f (l.drop (sg1 l).2)).map ((sg1 l).1 :: ·)
theorem oo (l:List UInt8):(sg1 l).2<=l.length/\(sg1 l).2<=4:=by
 cases l with
 | nil=>exact⟨zN,by decide⟩
 | cons b r =>
  unfold sg1;simp only;by_cases h1:ch b.toNat=1
  ·rw[if_pos h1];exact⟨by simp,by show 1<=4;decide⟩
  ·rw[if_neg h1];by_cases h2:ch b.toNat=0∨(b::r).length<ch b.toNat
   ·rw[if_pos h2];exact⟨Nat.zero_le _,by decide⟩
   ·rw[if_neg h2];have h4:ch b.toNat<=4:=by unfold ch;(repeat' split) <;> omega
    split
    ·split
     ·exact⟨by omega,h4⟩
     ·exact⟨Nat.zero_le _,by decide⟩
    ·exact⟨Nat.zero_le _,by decide⟩
theorem eO (f:Nat)(b:UInt8)(r:List UInt8):gj (f+1) (b::r)=if (sg1 (b::r)).2=0 then none else (gj f ((b::r).drop (sg1 (b::r)).2)).map ((sg1 (b::r)).1 :: ·):=by
 rw[gj,if_neg (by simp)]
theorem rQ:∀(f g:Nat) (l:List UInt8),l.length<=f->l.length<=g->gj f l=gj g l:=by
 intro f;induction f with
 | zero =>
  intro g l h _;have:l = []:=List.eq_nil_of_length_eq_zero (by omega);subst this;cases g <;> rfl
 | succ f ih =>
  intro g l h hg;cases l with
  | nil=>cases g <;> rfl
  | cons b r =>
   cases g with
   | zero=>simp at hg
   | succ g =>
    rw[eO,eO];by_cases h0:(sg1 (b::r)).2=0
    ·rw[if_pos h0,if_pos h0]
    ·rw[if_neg h0,if_neg h0];have hd:((b::r).drop (sg1 (b::r)).2).length<=r.length:=by rw[List.length_drop,List.length_cons];omega
     simp only[List.length_cons] at h hg;rw[ih g _ (by omega) (by omega)]
def ff (l:List UInt8):Option (List Int):=gj l.length l
theorem nh:ff []=some []:=rfl
theorem lN (l:List UInt8)(h:l ≠ [])(h0:(sg1 l).2≠0):ff l=(ff (l.drop (sg1 l).2)).map ((sg1 l).1 :: ·):=by
 cases l with
 | nil=>exact absurd rfl h
 | cons b r =>
  show gj (r.length+1) (b::r)=_;rw[eO,if_neg h0];congr 1
  exact rQ _ _ _ (by rw[List.length_drop,List.length_cons];omega) zN
theorem nT (l:List UInt8)(h:l ≠ [])(h0:(sg1 l).2=0):ff l=none:=by
 cases l with
 | nil=>exact absurd rfl h
 | cons b r =>
  show gj (r.length+1) (b::r)=_;rw[eO,if_pos h0]
def cK (l:List UInt8):List Int:=(ff l).getD []
def fF (l:List UInt8):Bool:=(ff l).isSome
theorem i9 (c:Int):bH c=true ↔ (0<=c/\c<=1114111/\¬(55296<=c/\c<=57343)):=by unfold bH;exact decide_eq_true_iff
theorem g6 (b:UInt8)(x:Int)(h:x=b.toNat):ub x=b:=by
 subst h;unfold ub;rw[Int.toNat_natCast];exact UInt8.ofNat_toNat
theorem ef (b:UInt8):bh b=true ↔ 128<=b.toNat/\b.toNat<192:=by unfold bh;simp
theorem qF (l:List UInt8)(h:(sg1 l).2≠0):bH (sg1 l).1=true/\cx (sg1 l).1=l.take (sg1 l).2:=by
 cases l with
 | nil=>exact absurd rfl h
 | cons b r =>
  have hb:=b.toNat_lt;by_cases s1:ch b.toNat=1
  ·have e:=mC (b::r) (by simp) (by simpa using s1);rw[e];simp only[List.getElem_cons_zero];have hl:b.toNat<128:=by unfold ch at s1;split at s1 <;> (repeat' split at s1) <;> omega
   refine⟨(i9 _).2 (by omega),?_⟩;unfold cx;rw[if_pos (by omega),g6 b _ rfl];rfl
  ·by_cases s0:ch b.toNat=0
   ·rw[kj (b::r) (by simp) (by simpa using s0)] at h;exact absurd rfl h
   ·have s4:ch b.toNat=2∨ch b.toNat=3∨ch b.toNat=4:=by unfold ch at s1 s0 ⊢;(repeat' split) <;> simp_all
    by_cases hl:(b::r).length<ch b.toNat
    ·rw[ej (b::r) _ (by simp) (by simp) s1 hl] at h;exact absurd rfl h
    ·by_cases hk:∀x∈((b::r).drop 1).take (ch b.toNat - 1),bh x=true
     ·have hg:=eY (b::r) (ch b.toNat) (by simp) (by simp) s1 s0 (by omega) hk;by_cases hi:eH (ch b.toNat)<=bf (cOf ((b::r)[0]'(by simp)).toNat) (((b::r).drop 1).take (ch b.toNat - 1))/\bH (bf (cOf ((b::r)[0]'(by simp)).toNat) (((b::r).drop 1).take (ch b.toNat - 1)))=true
      ·rw[if_pos hi] at hg;rw[hg];obtain⟨hi1,hi2⟩:=hi;simp only[List.getElem_cons_zero,List.drop_succ_cons,List.drop_zero] at hi1 hi2 hk ⊢;refine⟨hi2,?_⟩;have hs:=(i9 _).1 hi2;rcases s4 with s|s|s
       ·have hr:192<=b.toNat/\b.toNat<224:=by unfold ch at s;(repeat' split at s) <;> omega
        rw[s] at hi1 hs hk hl ⊢;obtain⟨x,r',rfl⟩:∃x r',r=x::r':=by
         cases r with
         | nil=>simp at hl
         | cons x r'=>exact⟨x,r',rfl⟩
        ·have kx:=(ef x).1 (hk x (by simp));simp only[Nat.reduceSub,List.take_succ_cons,List.take_zero,bf,List.foldl_cons,List.foldl_nil,eH,if_true,c2 _ hr.1 hr.2] at hi1 hs ⊢;unfold cx;rw[if_neg (by omega),if_pos (by omega),g6 b _ (by omega),g6 x _ (by omega)]
       ·have hr:224<=b.toNat/\b.toNat<240:=by unfold ch at s;(repeat' split at s) <;> omega
        rw[s] at hi1 hs hk hl ⊢;obtain⟨x,y,r',rfl⟩:∃x y r',r=x::y::r':=by
         match r,hl with
         | [],h=>simp at h
         | [x],h=>simp at h
         | x::y::r',_=>exact⟨x,y,r',rfl⟩
        ·have kx:=(ef x).1 (hk x (by simp));have ky:=(ef y).1 (hk y (by simp));simp only[Nat.reduceSub,List.take_succ_cons,List.take_zero,bf,List.foldl_cons,List.foldl_nil,eH,c3 _ hr.1 hr.2] at hi1 hs ⊢;simp only[Nat.reduceEqDiff,if_false,if_true] at hi1;unfold cx;rw[if_neg (by omega),if_neg (by omega),if_pos (by omega),g6 b _ (by omega),g6 x _ (by omega),g6 y _ (by omega)]
       ·have hr:240<=b.toNat/\b.toNat<248:=by unfold ch at s;(repeat' split at s) <;> omega
        rw[s] at hi1 hs hk hl ⊢;obtain⟨x,y,z,r',rfl⟩:∃x y z r',r=x::y::z::r':=by
         match r,hl with
         | [],h=>simp at h
         | [x],h=>simp at h
         | [x,y],h=>simp at h
         | x::y::z::r',_=>exact⟨x,y,z,r',rfl⟩
        ·have kx:=(ef x).1 (hk x (by simp));have ky:=(ef y).1 (hk y (by simp));have kz:=(ef z).1 (hk z (by simp));simp only[Nat.reduceSub,List.take_succ_cons,List.take_zero,bf,List.foldl_cons,List.foldl_nil,eH,c4 _ hr.1 hr.2] at hi1 hs ⊢;simp only[Nat.reduceEqDiff,if_false] at hi1;unfold cx;rw[if_neg (by omega),if_neg (by omega),if_neg (by omega),g6 b _ (by omega),g6 x _ (by omega),g6 y _ (by omega),g6 z _ (by omega)]
      ·rw[if_neg hi] at hg;rw[hg] at h;exact absurd rfl h
     ·rw[fT (b::r) _ (by simp) (by simp) s1 hk] at h;exact absurd rfl h
theorem oZ:∀(f:Nat) (t:List UInt8) (l:List Int),gj f t=some l->(∀x∈l,bH x=true)/\dH l=t:=by
 intro f;induction f with
 | zero =>
  intro t l h;unfold gj at h;split at h
  ·rename_i e;subst e;cases h;exact⟨by simp,rfl⟩
  ·cases h
 | succ f ih =>
  intro t l h;cases t with
  | nil=>unfold gj at h;rw[if_pos rfl] at h;cases h;exact⟨by simp,rfl⟩
  | cons b r =>
   rw[eO] at h;by_cases h0:(sg1 (b::r)).2=0
   ·rw[if_pos h0] at h;cases h
   ·rw[if_neg h0] at h;cases hd:gj f ((b::r).drop (sg1 (b::r)).2) with
    | none=>rw[hd] at h;cases h
    | some m =>
     rw[hd] at h;simp only[Option.map_some,Option.some.injEq] at h;subst h;obtain⟨h1,h2⟩:=ih _ _ hd;obtain⟨h3,h4⟩:=qF (b::r) h0;refine⟨fun x hx=>?_,?_⟩
     ·rcases List.mem_cons.1 hx with rfl|hx
      ·exact h3
      ·exact h1 x hx
     ·have e:dH ((sg1 (b::r)).1::m)=cx (sg1 (b::r)).1++dH m:=by simp[dH]
      rw[e,h4,h2,List.take_append_drop]
theorem rJ (t:List UInt8)(l:List Int)(h:ff t=some l):∀x∈l,bH x=true:=(oZ _ t l h).1
def aO (c:Int):List Int:=
 if (65<=c/\c<=90)∨(913<=c/\c<=929)∨(931<=c/\c<=937)∨(1040<=c/\c<=1071)∨c=198∨c=208∨c=216∨c=222 then [c+32]
 else if c=223 then [115,115] else if c=962 then [963] else [c]
theorem jr (c:Int):(aO c).length<=2:=by unfold aO;(repeat' split) <;> simp
theorem kV (c:Int)(w:World)(hc : -9223372036854775808<=c/\c<=9223372036854775807) :
  Calls Tryz.prog 138 #[.int .i64 c] w fun e w' => ∃g cp,e=.returned (.slice (some ⟨g,0,none⟩) (aO c).length cp)/\Own 3 1 w.heap.size w (.slice (some ⟨g,0,none⟩) (aO c).length cp) (aO c).length (aE (aO c)) w':=by
 have lit1:∀(W:World) (x:Int),Below w.heap.size w W->Own 3 1 w.heap.size w (.slice (some ⟨W.heap.size,0,none⟩) 1 1) 1 (aE [x]) (W.alloc (.cells #[.int .i64 x] 3)):=fun W x hb=>Own.lit hb hb.size #[.int .i64 x] rfl (by decide)
 have lit2:∀(W:World) (x y:Int),Below w.heap.size w W->Own 3 1 w.heap.size w (.slice (some ⟨W.heap.size,0,none⟩) 2 2) 2 (aE [x,y]) (W.alloc (.cells #[.int .i64 x,.int .i64 y] 3)):=fun W x y hb=>Own.lit hb hb.size #[.int .i64 x,.int .i64 y] rfl (by decide)
 have L1:=zH lit1;have L2:=zH lit2;clear lit1 lit2;have bl:∀(W:World) o,Below w.heap.size w W->Below w.heap.size w (W.alloc o):=fun W o hb=>hb.alloc hb.size o
 have BL:=zH bl;clear bl;by_cases EF:65<=c/\c<=90
 ·have H:Hid (aO c = [c+32]):=zH (by unfold aO;rw[if_pos (by omega)]);obtain⟨ha,hb⟩:=EF;go_enter Tryz.func138,Tryz.ntmps138
  go_wp2_with (first|(go_at_call 51;(first|refine(am _ _ _ _ (by omega) (by omega)).mono ?_|refine(aB _ _ _ _ (by omega)).mono ?_);rintro e w' ⟨rfl,rfl⟩))
  go_ret;rw[show aO c = [c+32] from H.out];exact⟨_,_,rfl,L1.out _ _ (by first|exact zB|exact(zB.alloc zN _).trans (hb1.mono (by simp)))⟩
 ·skip
  by_cases BU:913<=c/\c<=929
  ·have H:Hid (aO c = [c+32]):=zH (by unfold aO;rw[if_pos (by omega)]);obtain⟨ha,hb⟩:=BU;clear EF;go_enter Tryz.func138,Tryz.ntmps138
   go_wp2_with (first|(go_at_call 51;(first|refine(am _ _ _ _ (by omega) (by omega)).mono ?_|refine(aB _ _ _ _ (by omega)).mono ?_);rintro e w' ⟨rfl,rfl⟩))
   go_ret;rw[show aO c = [c+32] from H.out];exact⟨_,_,rfl,L1.out _ _ (by first|exact zB|exact(zB.alloc zN _).trans (hb1.mono (by simp)))⟩
  ·skip
   by_cases Dn:931<=c/\c<=937
   ·have H:Hid (aO c = [c+32]):=zH (by unfold aO;rw[if_pos (by omega)]);obtain⟨ha,hb⟩:=Dn;clear EF BU;go_enter Tryz.func138,Tryz.ntmps138
    go_wp2_with (first|(go_at_call 51;(first|refine(am _ _ _ _ (by omega) (by omega)).mono ?_|refine(aB _ _ _ _ (by omega)).mono ?_);rintro e w' ⟨rfl,rfl⟩))
    go_ret;rw[show aO c = [c+32] from H.out];exact⟨_,_,rfl,L1.out _ _ (by first|exact zB|exact(zB.alloc zN _).trans (hb1.mono (by simp)))⟩
   ·skip
    by_cases Dp:1040<=c/\c<=1071
    ·have H:Hid (aO c = [c+32]):=zH (by unfold aO;rw[if_pos (by omega)]);obtain⟨ha,hb⟩:=Dp;clear EF BU Dn;go_enter Tryz.func138,Tryz.ntmps138
     go_wp2_with (first|(go_at_call 51;(first|refine(am _ _ _ _ (by omega) (by omega)).mono ?_|refine(aB _ _ _ _ (by omega)).mono ?_);rintro e w' ⟨rfl,rfl⟩))
     go_ret;rw[show aO c = [c+32] from H.out];exact⟨_,_,rfl,L1.out _ _ (by first|exact zB|exact(zB.alloc zN _).trans (hb1.mono (by simp)))⟩
    ·skip
     by_cases e198:c=198
     ·subst e198;have H:Hid (aO 198 = [230]):=zH (by decide);clear hc;go_enter Tryz.func138,Tryz.ntmps138
      go_wp2_with (first|(go_at_call 51;(first|refine(am _ _ _ _ (by omega) (by omega)).mono ?_|refine(aB _ _ _ _ (by omega)).mono ?_);rintro e w' ⟨rfl,rfl⟩))
      go_ret;rw[show aO 198 = [230] from H.out];exact⟨_,_,rfl,L1.out _ _ (by first|exact zB|exact(zB.alloc zN _).trans (hb1.mono (by simp)))⟩
     ·have n198:(c==198)=false:=by simpa using e198
      by_cases e208:c=208
      ·subst e208;have H:Hid (aO 208 = [240]):=zH (by decide);clear hc;go_enter Tryz.func138,Tryz.ntmps138
       go_wp2_with (first|(go_at_call 51;(first|refine(am _ _ _ _ (by omega) (by omega)).mono ?_|refine(aB _ _ _ _ (by omega)).mono ?_);rintro e w' ⟨rfl,rfl⟩))
       go_ret;rw[show aO 208 = [240] from H.out];exact⟨_,_,rfl,L1.out _ _ (by first|exact zB|exact(zB.alloc zN _).trans (hb1.mono (by simp)))⟩
      ·have n208:(c==208)=false:=by simpa using e208
       by_cases e216:c=216
       ·subst e216;have H:Hid (aO 216 = [248]):=zH (by decide);clear hc;go_enter Tryz.func138,Tryz.ntmps138
        go_wp2_with (first|(go_at_call 51;(first|refine(am _ _ _ _ (by omega) (by omega)).mono ?_|refine(aB _ _ _ _ (by omega)).mono ?_);rintro e w' ⟨rfl,rfl⟩))
        go_ret;rw[show aO 216 = [248] from H.out];exact⟨_,_,rfl,L1.out _ _ (by first|exact zB|exact(zB.alloc zN _).trans (hb1.mono (by simp)))⟩
       ·have n216:(c==216)=false:=by simpa using e216
        by_cases e222:c=222
        ·subst e222;have H:Hid (aO 222 = [254]):=zH (by decide);clear hc;go_enter Tryz.func138,Tryz.ntmps138
         go_wp2_with (first|(go_at_call 51;(first|refine(am _ _ _ _ (by omega) (by omega)).mono ?_|refine(aB _ _ _ _ (by omega)).mono ?_);rintro e w' ⟨rfl,rfl⟩))
         go_ret;rw[show aO 222 = [254] from H.out];exact⟨_,_,rfl,L1.out _ _ (by first|exact zB|exact(zB.alloc zN _).trans (hb1.mono (by simp)))⟩
        ·have n222:(c==222)=false:=by simpa using e222
         by_cases e223:c=223
         ·subst e223;have H:Hid (aO 223 = [115,115]):=zH (by decide);clear hc;go_enter Tryz.func138,Tryz.ntmps138
          go_wp2_with (first|(go_at_call 51;(first|refine(am _ _ _ _ (by omega) (by omega)).mono ?_|refine(aB _ _ _ _ (by omega)).mono ?_);rintro e w' ⟨rfl,rfl⟩))
          go_ret;rw[show aO 223 = [115,115] from H.out];exact⟨_,_,rfl,L2.out _ _ _ (by first|exact zB|exact(zB.alloc zN _).trans (hb1.mono (by simp)))⟩
         ·have n223:(c==223)=false:=by simpa using e223
          by_cases e962:c=962
          ·subst e962;have H:Hid (aO 962 = [963]):=zH (by decide);clear hc;go_enter Tryz.func138,Tryz.ntmps138
           go_wp2_with (first|(go_at_call 51;(first|refine(am _ _ _ _ (by omega) (by omega)).mono ?_|refine(aB _ _ _ _ (by omega)).mono ?_);rintro e w' ⟨rfl,rfl⟩))
           go_ret;rw[show aO 962 = [963] from H.out];exact⟨_,_,rfl,L1.out _ _ (by first|exact zB|exact(zB.alloc zN _).trans (hb1.mono (by simp)))⟩
          ·have n962:(c==962)=false:=by simpa using e962
           have H:Hid (aO c = [c]):=zH (by unfold aO;rw[if_neg (by omega),if_neg (by omega),if_neg (by omega)]);go_enter Tryz.func138,Tryz.ntmps138
           go_wp2_with (first|(go_at_call 51;(first|refine(am _ _ _ _ (by omega) (by omega)).mono ?_|refine(aB _ _ _ _ (by omega)).mono ?_);rintro e w' ⟨rfl,rfl⟩))
           go_ret;rw[show aO c = [c] from H.out];exact⟨_,_,rfl,L1.out _ _ (by first|exact zB|exact(zB.alloc zN _).trans (hb1.mono (by simp)))⟩
theorem kp (c:Int)(w:World)(hc : -9223372036854775808<=c/\c<=9223372036854775807) :
  Calls Tryz.prog 132 #[.int .i64 c] w fun e w' => ∃g cp,e=.returned (.slice (some ⟨g,0,none⟩) (aO c).length cp)/\Own 3 1 w.heap.size w (.slice (some ⟨g,0,none⟩) (aO c).length cp) (aO c).length (aE (aO c)) w':=by
 have lit1:∀(W:World) (x:Int),Below w.heap.size w W->Own 3 1 w.heap.size w (.slice (some ⟨W.heap.size,0,none⟩) 1 1) 1 (aE [x]) (W.alloc (.cells #[.int .i64 x] 3)):=fun W x hb=>Own.lit hb hb.size #[.int .i64 x] rfl (by decide)
 have lit2:∀(W:World) (x y:Int),Below w.heap.size w W->Own 3 1 w.heap.size w (.slice (some ⟨W.heap.size,0,none⟩) 2 2) 2 (aE [x,y]) (W.alloc (.cells #[.int .i64 x,.int .i64 y] 3)):=fun W x y hb=>Own.lit hb hb.size #[.int .i64 x,.int .i64 y] rfl (by decide)
 have L1:=zH lit1;have L2:=zH lit2;clear lit1 lit2;have bl:∀(W:World) o,Below w.heap.size w W->Below w.heap.size w (W.alloc o):=fun W o hb=>hb.alloc hb.size o
 have BL:=zH bl;clear bl;by_cases EF:65<=c/\c<=90
 ·have H:Hid (aO c = [c+32]):=zH (by unfold aO;rw[if_pos (by omega)]);obtain⟨ha,hb⟩:=EF;go_enter Tryz.func132,Tryz.ntmps132
  go_wp2_with (first|(go_at_call 39;(first|refine(ao _ _ _ _ (by omega) (by omega)).mono ?_|refine(aG _ _ _ _ (by omega)).mono ?_);rintro e w' ⟨rfl,rfl⟩)|(go_at_call 144;refine(cC c _ 4 4 [198,208,216,222] _ (aM rfl (by decide))).mono ?_;rintro e w1 ⟨rfl,hb1⟩;rw[AM]))
  go_ret;rw[show aO c = [c+32] from H.out];exact⟨_,_,rfl,L1.out _ _ (by first|exact zB|exact(zB.alloc zN _).trans (hb1.mono (by simp)))⟩
 ·skip
  by_cases BU:913<=c/\c<=929
  ·have H:Hid (aO c = [c+32]):=zH (by unfold aO;rw[if_pos (by omega)]);obtain⟨ha,hb⟩:=BU;clear EF;go_enter Tryz.func132,Tryz.ntmps132
   go_wp2_with (first|(go_at_call 39;(first|refine(ao _ _ _ _ (by omega) (by omega)).mono ?_|refine(aG _ _ _ _ (by omega)).mono ?_);rintro e w' ⟨rfl,rfl⟩)|(go_at_call 144;refine(cC c _ 4 4 [198,208,216,222] _ (aM rfl (by decide))).mono ?_;rintro e w1 ⟨rfl,hb1⟩;rw[AM]))
   go_ret;rw[show aO c = [c+32] from H.out];exact⟨_,_,rfl,L1.out _ _ (by first|exact zB|exact(zB.alloc zN _).trans (hb1.mono (by simp)))⟩
  ·skip
   by_cases Dn:931<=c/\c<=937
   ·have H:Hid (aO c = [c+32]):=zH (by unfold aO;rw[if_pos (by omega)]);obtain⟨ha,hb⟩:=Dn;clear EF BU;go_enter Tryz.func132,Tryz.ntmps132
    go_wp2_with (first|(go_at_call 39;(first|refine(ao _ _ _ _ (by omega) (by omega)).mono ?_|refine(aG _ _ _ _ (by omega)).mono ?_);rintro e w' ⟨rfl,rfl⟩)|(go_at_call 144;refine(cC c _ 4 4 [198,208,216,222] _ (aM rfl (by decide))).mono ?_;rintro e w1 ⟨rfl,hb1⟩;rw[AM]))
    go_ret;rw[show aO c = [c+32] from H.out];exact⟨_,_,rfl,L1.out _ _ (by first|exact zB|exact(zB.alloc zN _).trans (hb1.mono (by simp)))⟩
   ·skip
    by_cases Dp:1040<=c/\c<=1071
    ·have H:Hid (aO c = [c+32]):=zH (by unfold aO;rw[if_pos (by omega)]);obtain⟨ha,hb⟩:=Dp;clear EF BU Dn;go_enter Tryz.func132,Tryz.ntmps132
     go_wp2_with (first|(go_at_call 39;(first|refine(ao _ _ _ _ (by omega) (by omega)).mono ?_|refine(aG _ _ _ _ (by omega)).mono ?_);rintro e w' ⟨rfl,rfl⟩)|(go_at_call 144;refine(cC c _ 4 4 [198,208,216,222] _ (aM rfl (by decide))).mono ?_;rintro e w1 ⟨rfl,hb1⟩;rw[AM]))
     go_ret;rw[show aO c = [c+32] from H.out];exact⟨_,_,rfl,L1.out _ _ (by first|exact zB|exact(zB.alloc zN _).trans (hb1.mono (by simp)))⟩
    ·skip
     have AM:dM c [198,208,216,222]=decide (c=198∨c=208∨c=216∨c=222):=by
      rw[Bool.eq_iff_iff];simp[dM];omega
     by_cases e198:c=198
     ·subst e198;have H:Hid (aO 198 = [230]):=zH (by decide);have AM:dM 198 [198,208,216,222]=true:=by decide
      clear hc;go_enter Tryz.func132,Tryz.ntmps132
      go_wp2_with (first|(go_at_call 39;(first|refine(ao _ _ _ _ (by omega) (by omega)).mono ?_|refine(aG _ _ _ _ (by omega)).mono ?_);rintro e w' ⟨rfl,rfl⟩)|(go_at_call 144;refine(cC 198 _ 4 4 [198,208,216,222] _ (aM rfl (by decide))).mono ?_;rintro e w1 ⟨rfl,hb1⟩;rw[AM]))
      go_ret;rw[show aO 198 = [230] from H.out];exact⟨_,_,rfl,L1.out _ _ (by first|exact zB|exact(zB.alloc zN _).trans (hb1.mono (by simp)))⟩
     ·have n198:(c==198)=false:=by simpa using e198
      by_cases e208:c=208
      ·subst e208;have H:Hid (aO 208 = [240]):=zH (by decide);have AM:dM 208 [198,208,216,222]=true:=by decide
       clear hc;go_enter Tryz.func132,Tryz.ntmps132
       go_wp2_with (first|(go_at_call 39;(first|refine(ao _ _ _ _ (by omega) (by omega)).mono ?_|refine(aG _ _ _ _ (by omega)).mono ?_);rintro e w' ⟨rfl,rfl⟩)|(go_at_call 144;refine(cC 208 _ 4 4 [198,208,216,222] _ (aM rfl (by decide))).mono ?_;rintro e w1 ⟨rfl,hb1⟩;rw[AM]))
       go_ret;rw[show aO 208 = [240] from H.out];exact⟨_,_,rfl,L1.out _ _ (by first|exact zB|exact(zB.alloc zN _).trans (hb1.mono (by simp)))⟩
      ·have n208:(c==208)=false:=by simpa using e208
       by_cases e216:c=216
       ·subst e216;have H:Hid (aO 216 = [248]):=zH (by decide);have AM:dM 216 [198,208,216,222]=true:=by decide
        clear hc;go_enter Tryz.func132,Tryz.ntmps132
        go_wp2_with (first|(go_at_call 39;(first|refine(ao _ _ _ _ (by omega) (by omega)).mono ?_|refine(aG _ _ _ _ (by omega)).mono ?_);rintro e w' ⟨rfl,rfl⟩)|(go_at_call 144;refine(cC 216 _ 4 4 [198,208,216,222] _ (aM rfl (by decide))).mono ?_;rintro e w1 ⟨rfl,hb1⟩;rw[AM]))
        go_ret;rw[show aO 216 = [248] from H.out];exact⟨_,_,rfl,L1.out _ _ (by first|exact zB|exact(zB.alloc zN _).trans (hb1.mono (by simp)))⟩
       ·have n216:(c==216)=false:=by simpa using e216
        by_cases e222:c=222
        ·subst e222;have H:Hid (aO 222 = [254]):=zH (by decide);have AM:dM 222 [198,208,216,222]=true:=by decide
         clear hc;go_enter Tryz.func132,Tryz.ntmps132
         go_wp2_with (first|(go_at_call 39;(first|refine(ao _ _ _ _ (by omega) (by omega)).mono ?_|refine(aG _ _ _ _ (by omega)).mono ?_);rintro e w' ⟨rfl,rfl⟩)|(go_at_call 144;refine(cC 222 _ 4 4 [198,208,216,222] _ (aM rfl (by decide))).mono ?_;rintro e w1 ⟨rfl,hb1⟩;rw[AM]))
         go_ret;rw[show aO 222 = [254] from H.out];exact⟨_,_,rfl,L1.out _ _ (by first|exact zB|exact(zB.alloc zN _).trans (hb1.mono (by simp)))⟩
        ·have n222:(c==222)=false:=by simpa using e222
         by_cases e223:c=223
         ·subst e223;have H:Hid (aO 223 = [115,115]):=zH (by decide);have AM:dM 223 [198,208,216,222]=false:=by decide
          clear hc;go_enter Tryz.func132,Tryz.ntmps132
          go_wp2_with (first|(go_at_call 39;(first|refine(ao _ _ _ _ (by omega) (by omega)).mono ?_|refine(aG _ _ _ _ (by omega)).mono ?_);rintro e w' ⟨rfl,rfl⟩)|(go_at_call 144;refine(cC 223 _ 4 4 [198,208,216,222] _ (aM rfl (by decide))).mono ?_;rintro e w1 ⟨rfl,hb1⟩;rw[AM]))
          go_ret;rw[show aO 223 = [115,115] from H.out];exact⟨_,_,rfl,L2.out _ _ _ (by first|exact zB|exact(zB.alloc zN _).trans (hb1.mono (by simp)))⟩
         ·have n223:(c==223)=false:=by simpa using e223
          by_cases e962:c=962
          ·subst e962;have H:Hid (aO 962 = [963]):=zH (by decide);have AM:dM 962 [198,208,216,222]=false:=by decide
           clear hc;go_enter Tryz.func132,Tryz.ntmps132
           go_wp2_with (first|(go_at_call 39;(first|refine(ao _ _ _ _ (by omega) (by omega)).mono ?_|refine(aG _ _ _ _ (by omega)).mono ?_);rintro e w' ⟨rfl,rfl⟩)|(go_at_call 144;refine(cC 962 _ 4 4 [198,208,216,222] _ (aM rfl (by decide))).mono ?_;rintro e w1 ⟨rfl,hb1⟩;rw[AM]))
           go_ret;rw[show aO 962 = [963] from H.out];exact⟨_,_,rfl,L1.out _ _ (by first|exact zB|exact(zB.alloc zN _).trans (hb1.mono (by simp)))⟩
          ·have n962:(c==962)=false:=by simpa using e962
           have H:Hid (aO c = [c]):=zH (by unfold aO;rw[if_neg (by omega),if_neg (by omega),if_neg (by omega)]);have AM2:dM c [198,208,216,222]=false:=by rw[AM];simp;omega
           clear AM;have AM:=AM2;go_enter Tryz.func132,Tryz.ntmps132
           go_wp2_with (first|(go_at_call 39;(first|refine(ao _ _ _ _ (by omega) (by omega)).mono ?_|refine(aG _ _ _ _ (by omega)).mono ?_);rintro e w' ⟨rfl,rfl⟩)|(go_at_call 144;refine(cC c _ 4 4 [198,208,216,222] _ (aM rfl (by decide))).mono ?_;rintro e w1 ⟨rfl,hb1⟩;rw[AM]))
           go_ret;rw[show aO c = [c] from H.out];exact⟨_,_,rfl,L1.out _ _ (by first|exact zB|exact(zB.alloc zN _).trans (hb1.mono (by simp)))⟩

def bY (l:List Int):List Int:=l.flatMap aO
theorem fz (l:List Int):(bY l).length<=2*l.length:=by
 induction l with
 | nil=>simp[bY]
 | cons x l ih =>
  have:=jr x;simp only[bY,List.flatMap_cons,List.length_append,List.length_cons] at *;omega
theorem mf (a:Option Addr)(n cap:Nat)(l:List Int)(w:World)(h:Rd w a n cap 1 (aE l))(hn:n<=1048576)(hw:∀x∈l,-9223372036854775808<=x/\x<=9223372036854775807) :
  Calls Tryz.prog 111 #[.slice a n cap] w fun e w' => ∃a' c',e=.returned (.slice a' (bY l).length c')/\Own 3 1 w.heap.size w (.slice a' (bY l).length c') (bY l).length (aE (bY l)) w':=by
 have hl:l.length=n:=by have:=h.len;simpa using this
 subst hl;go_enter Tryz.func111,Tryz.ntmps111
 go_wp2;go_loopg [3,9] l.length (fun gg o i wr => ∃k:Nat,k+gg=l.length/\i=.int .i64 k/\Own 3 1 w.heap.size w o (bY (l.take k)).length (aE (bY (l.take k))) wr)
 case atStart=>exact⟨0,by omega,rfl,by simpa[bY,aE] using Own.lit (e:=3) (size:=1) (n:=0) (Below.refl w.heap.size w) zN #[] rfl (by decide)⟩
 case round =>
  obtain⟨k,hk,rfl,vN⟩:=hrel;obtain⟨av,cv,rfl,_,_⟩:=vN.shape;by_cases hlt:k<l.length
  ·obtain⟨b,off,rfl,hbs,hc⟩:=h.at' (by omega);have hc1:=hc k (by simpa using hlt);rw[←vN.below.cell (p:=⟨b,off+k,none⟩) (by exact hbs),br l k hlt] at hc1;have hx:=hw l[k] (List.getElem_mem _);have hS:Hid (bY (l.take (k+1))=bY (l.take k)++aO l[k]):=zH (by rw[List.take_succ_eq_append_getElem hlt,bY,List.flatMap_append];simp[bY]);have hb1:(bY (l.take k)).length<=2097152:=by have:=fz (l.take k);rw[List.length_take] at this;omega
   have hb2:=jr l[k];clear hc h hw;generalize bY (l.take k)=pre at *;generalize l[k]=x at *;go_wp2_with fail
   refine(kV x _ hx).mono ?_;rintro e w1 ⟨g1,c1,rfl,hF⟩;have CQ:=vN.kept hF.below;have CR:=hF.rd;go_wp2_with (at_builtin;go_loud (refine eu rfl _ _ 40 rfl 3 (.int .i64 0) 1 8 Tryz.underlying40 cA rfl (by decide) w.heap.size w _ _ _ (by rfl) (by exact CQ) _ _ _ _ (by rfl) (by exact CR) (e8 _) (by omega) (by unfold maxLen;omega) ?_);intro a2 c2 w2 hO2)
   go_wp2;go_roundg (gk - 1)
   case measure=>omega
   case rel=>exact⟨k+1,by omega,by go_num,by rw[hS.out,List.length_append,cm];exact hO2⟩
  ·have hkl:k=l.length:=by omega
   subst hkl;rw[List.take_length] at vN ⊢;go_wp2;go_ret;exact⟨_,_,rfl,vN⟩
theorem my (a:Option Addr)(n cap:Nat)(l:List Int)(w:World)(h:Rd w a n cap 1 (aE l))(hn:n<=1048576)(hw:∀x∈l,-9223372036854775808<=x/\x<=9223372036854775807) :
  Calls Tryz.prog 106 #[.slice a n cap] w fun e w' => ∃a' c',e=.returned (.slice a' (bY l).length c')/\Own 3 1 w.heap.size w (.slice a' (bY l).length c') (bY l).length (aE (bY l)) w':=by
 have hl:l.length=n:=by have:=h.len;simpa using this
 subst hl;go_enter Tryz.func106,Tryz.ntmps106
 go_wp2;go_loopg [3,4] l.length (fun gg o i wr => ∃k:Nat,k+gg=l.length/\i=.int .i64 k/\Own 3 1 w.heap.size w o (bY (l.take k)).length (aE (bY (l.take k))) wr)
 case atStart=>exact⟨0,by omega,rfl,by simpa[bY,aE] using Own.lit (e:=3) (size:=1) (n:=0) (Below.refl w.heap.size w) zN #[] rfl (by decide)⟩
 case round =>
  obtain⟨k,hk,rfl,vN⟩:=hrel;obtain⟨av,cv,rfl,_,_⟩:=vN.shape;by_cases hlt:k<l.length
  ·obtain⟨b,off,rfl,hbs,hc⟩:=h.at' (by omega);have hc1:=hc k (by simpa using hlt);rw[←vN.below.cell (p:=⟨b,off+k,none⟩) (by exact hbs),br l k hlt] at hc1;have hx:=hw l[k] (List.getElem_mem _);have hS:Hid (bY (l.take (k+1))=bY (l.take k)++aO l[k]):=zH (by rw[List.take_succ_eq_append_getElem hlt,bY,List.flatMap_append];simp[bY]);have hb1:(bY (l.take k)).length<=2097152:=by have:=fz (l.take k);rw[List.length_take] at this;omega
   have hb2:=jr l[k];clear hc h hw;generalize bY (l.take k)=pre at *;generalize l[k]=x at *;go_wp2_with fail
   refine(kp x _ hx).mono ?_;rintro e w1 ⟨g1,c1,rfl,hF⟩;have CQ:=vN.kept hF.below;have CR:=hF.rd;go_wp2_with (at_builtin;go_loud (refine eu rfl _ _ 40 rfl 3 (.int .i64 0) 1 8 Tryz.underlying40 cA rfl (by decide) w.heap.size w _ _ _ (by rfl) (by exact CQ) _ _ _ _ (by rfl) (by exact CR) (e8 _) (by omega) (by unfold maxLen;omega) ?_);intro a2 c2 w2 hO2)
   go_wp2;go_roundg (gk - 1)
   case measure=>omega
   case rel=>exact⟨k+1,by omega,by go_num,by rw[hS.out,List.length_append,cm];exact hO2⟩
  ·have hkl:k=l.length:=by omega
   subst hkl;rw[List.take_length] at vN ⊢;go_wp2;go_ret;exact⟨_,_,rfl,vN⟩
def tP (l:List Int):List Int:=bq (bY (bq l))
end Go.Proofs.YtlkfabkkjfmnmaaGreatDoor
