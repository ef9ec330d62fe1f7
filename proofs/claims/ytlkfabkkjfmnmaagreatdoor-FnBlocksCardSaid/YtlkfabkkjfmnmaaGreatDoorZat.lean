import Derived.Test.YtlkfabkkjfmnmaaGreatDoorZal
import Derived.Test.YtlkfabkkjfmnmaaGreatDoorZap
namespace Go.Proofs.YtlkfabkkjfmnmaaGreatDoor
open Go.RowKit
set_option linter.all false
set_option maxRecDepth 1000000
set_option maxHeartbeats 6000000
def uN (l:List EntL)(s:ByteArray)(id:Int)(w:World)(e:Ending)(w':World):Prop:=
 ∃(out:List EntL) (h k:Int) (g:Option Addr) (c:Nat),e=.returned (.tuple #[.slice g out.length c,.bool true])/\out.Perm (⟨h,k,s,id⟩::l)/\Own 74 4 w.heap.size w (.slice g out.length c) out.length (ens out) w'
theorem q9 {lo X l:List EntL}{j:Nat}(hj:j<l.length)(h:lo.Perm (X++l.take j)):(lo ++ [l[j]]).Perm (X++l.take (j+1)):=by
 rw[List.take_succ_eq_append_getElem hj,←List.append_assoc];exact h.append_right _
theorem sz {lo l:List EntL}{j:Nat}(x:EntL)(hj:j<l.length)(h:lo.Perm ([]++l.take j)):((lo ++ [x]) ++ [l[j]]).Perm ([x]++l.take (j+1)):=by
 rw[List.take_succ_eq_append_getElem hj,←List.append_assoc];refine List.Perm.append_right _ ?_;rw[List.nil_append] at h;exact(List.perm_append_comm (l₁ := lo) (l₂ := [x])).trans (h.append_left [x])
theorem qe {lo l:List EntL}(x:EntL)(h:lo.Perm ([]++l)):(lo ++ [x]).Perm (x::l):=by
 rw[List.nil_append] at h;exact(List.perm_append_comm (l₁ := lo) (l₂ := [x])).trans (h.append_left [x])
theorem mK {e:TypeId}{size:Nat}{w wo wr:World}{v:Value}{n:Nat}{xs:List Value}(h:Own e size wo.heap.size wo v n xs wr)(hb:Below w.heap.size w wo):Own e size w.heap.size w v n xs wr:=
 bk h hb.size hb hb.size
theorem fD {l:List EntL}{p:EntL->Bool}{m:Nat}(hm:m<l.length)(h1:(l.take m).any p=false)(h2:p l[m]=true){r:Int}(h:AtP l p r):r=(m:Int):=by
 rcases h with ⟨_,h⟩|⟨q,hq,rfl,h3,h4⟩
 ·rw[List.any_eq_false] at h;exact absurd h2 (h _ (List.getElem_mem hm))
 ·rcases Nat.lt_trichotomy q m with hlt|rfl|hlt
  ·rw[List.any_eq_false] at h1;refine absurd h4 (h1 _ ?_);rw[List.mem_iff_getElem];exact⟨q,by rw[List.length_take];omega,by rw[List.getElem_take]⟩
  ·rfl
  ·rw[List.any_eq_false] at h3;refine absurd h2 (h3 _ ?_);rw[List.mem_iff_getElem];exact⟨m,by rw[List.length_take];omega,by rw[List.getElem_take]⟩
theorem jZ {l:List EntL}{p:EntL->Bool}(hno:l.any p=false){r:Int}(h:AtP l p r):r = -1:=by
 rcases h with ⟨h,_⟩|⟨q,hq,rfl,_,h4⟩
 ·exact h
 ·rw[List.any_eq_false] at hno;exact absurd h4 (hno _ (List.getElem_mem hq))
theorem dD (a:Option Addr)(c:Nat)(l:List EntL)(s:ByteArray)(id:Int)(w:World)(h:Rd w a l.length c 4 (ens l))(hs:∀x∈l,dq x)(hss:s.size<=1073741824)(IB:1<=id)(IC:id<=100000)(hnb:aI s=true)(hno:l.any (fun x=>RQ x.name s)=false)(hl12:l.length<12) :
  Calls Tryz.prog 119 #[.slice a l.length c,.string s,.int .i64 id] w (uN l s id w):=by
 have H:=zH h;have vJ:=zH hs;have xP:=zH hno;have BM:Hid (∀W,Calls Tryz.prog 93 #[.string s] W fun e w'=>e=.returned (.bool true)/\Below W.heap.size W w'):=zH (fun W=>by rw[←hnb];exact cB s W hss);clear h hs hnb hno;go_enter Tryz.func119,Tryz.ntmps119
 go_wp2_with fail
 refine(BM.out _).mono ?_;rintro e w1 ⟨rfl,hb⟩;have HB1:=zH hb;clear hb;go_wp2_with fail
 refine(bM a _ c l s _ (H.out.below HB1.out zN) vJ.out hss).mono ?_;rintro e w2 ⟨r,rfl,hE,hb⟩;have HB2:=zH (ac HB1.out hb);clear hb HB1;have hr1:=jZ xP.out hE;subst hr1;clear hE;have h12:¬(12:Int)<=(l.length:Int):=by omega
 go_wp2_with (first|(go_at_call 39;(first|refine(ao _ _ _ _ (by omega) (by omega)).mono ?_|refine(aG _ _ _ _ (by omega)).mono ?_);rintro e w' ⟨rfl,rfl⟩)|fail)
 refine(dg s _ hss).mono ?_;rintro e w3 ⟨rfl,hb⟩;have HB3:=zH (ac HB2.out hb);clear hb BM xP;generalize a7 s=hv at *;go_wp2;go_loopg [9,10] l.length (fun gg q i wr => ∃(j:Nat) (z:Int),j+gg=l.length/\i=.int .i64 (j:Int)/\q=.int .i64 z/\0<=z/\z<=(j:Int)/\wr=w3)
 case atStart=>exact⟨0,0,by omega,rfl,rfl,by omega,by omega,rfl⟩
 case round =>
  obtain⟨j,z,hj,rfl,rfl,hz0,hz1,rfl⟩:=hrel;obtain⟨gg,hgg⟩:∃g,g=gk:=⟨_,rfl⟩;by_cases hlt:j<l.length
  ·obtain⟨b,off,rfl,hbs,d0,d1,d2,d3⟩:=ay (H.out.below HB3.out zN) j hlt;have hi:(j:Int)<(l.length:Int):=by omega
   have hi0:(0:Int)<=(j:Int):=by omega
   generalize l[j]=x at *;obtain⟨xh,xi,xn,xd⟩:=x;try simp only at d0 d1 d2 d3
   clear hlt;by_cases he:xh=hv
   ·subst he;by_cases he2:xi=z
    ·subst he2;go_wp2;go_roundg (gk - 1)
     case measure=>omega
     case rel=>exact⟨j+1,xi+1,by omega,by go_num,by go_num,by omega,by omega,rfl⟩
    ·have hne:(xi==z)=false:=by simp[he2]
     clear he2;go_wp2;go_roundg (gk - 1)
     case measure=>omega
     case rel=>exact⟨j+1,z,by omega,by go_num,rfl,by omega,by omega,rfl⟩
   ·have hne:(xh==hv)=false:=by simp[he]
    clear he;go_wp2;go_roundg (gk - 1)
    case measure=>omega
    case rel=>exact⟨j+1,z,by omega,by go_num,rfl,by omega,by omega,rfl⟩
  ·have hjl:j=l.length:=by omega
   subst hjl;rename World=>wo
   have Al:Hid (Below w.heap.size w wo):=zH HB3.out;have yF:=zH (Own.lit (e:=74) (size:=4) (n:=0) (Below.refl wo.heap.size wo) zN #[] rfl (by decide));clear HB3;go_wp2;go_loopg [11,12,13] l.length (fun gg o pt i wr => ∃(j:Nat) (lo:List EntL) (a':Option Addr) (c':Nat) (put:Bool),j+gg=l.length/\i=.int .i64 (j:Int)/\o=.slice a' lo.length c'/\pt=.bool put/\lo.length<=j+(if put=true then 1 else 0)/\Hid (lo.Perm ((if put=true then [(⟨hv,z,s,id⟩:EntL)] else [])++l.take j))/\Hid (Own 74 4 wo.heap.size wo (.slice a' lo.length c') lo.length (ens lo) wr))
   case atStart=>exact⟨0,[],_,_,false,by omega,rfl,rfl,rfl,by simp,zH (by simp),zH (by exact yF.out)⟩
   case round =>
    obtain⟨j,lo,a',c',put,hj2,rfl,rfl,rfl,hlo,BN,DC⟩:=hrel;have wy:=zH (ac Al.out DC.out.below);by_cases hlt:j<l.length
    ·obtain⟨b,off,rfl,hbs,d0,d1,d2,d3⟩:=ay (H.out.below wy.out zN) j hlt;have hi:(j:Int)<(l.length:Int):=by omega
     have hi0:(0:Int)<=(j:Int):=by omega
     have IV:Hid (∀(lo X:List EntL),lo.Perm (X++l.take j)->(lo ++ [l[j]]).Perm (X++l.take (j+1))):=zH (fun lo X h=>q9 hlt h);have OZ:Hid (∀(lo:List EntL) (x:EntL),lo.Perm ([]++l.take j)->((lo ++ [x]) ++ [l[j]]).Perm ([x]++l.take (j+1))):=zH (fun lo x h=>sz x hlt h);have IE:Hid (∀W,Below w.heap.size w W->W.cell? ⟨b,off+j*4,none⟩=some (.int .i64 l[j].hash)/\W.cell? ⟨b,off+j*4+1,none⟩=some (.int .i64 l[j].index)/\W.cell? ⟨b,off+j*4+2,none⟩=some (.string l[j].name)/\W.cell? ⟨b,off+j*4+3,none⟩=some (.int .i64 l[j].id)/\b<W.heap.size):=zH (fun W hW=>by
      obtain⟨b',off',e',hb',p0,p1,p2,p3⟩:=ay (H.out.below hW zN) j hlt;cases e';exact⟨p0,p1,p2,p3,hb'⟩)
     generalize l[j]=x at *;obtain⟨xh,xi,xn,xd⟩:=x;try simp only at d0 d1 d2 d3 IE IV OZ
     have IW:l.length<12:=by omega
     cases put with
     | true =>
      rw[if_pos rfl] at hlo;have y8:=zH DC.out;go_wp2_with (at_builtin;go_loud (refine dj rfl _ _ 43 rfl 74 (.agg #[.int .i64 0,.int .i64 0,.string ByteArray.empty,.int .i64 0]) 4 40 Tryz.underlying43 bG rfl (by decide) _ _ _ _ _ (by rfl) (by exact y8.out) _ _ _ (by rfl) (by first|rfl|simp) (by rfl) (by intro u hu;simp at hu;rcases hu with rfl|rfl|rfl|rfl <;> rfl) (by omega) (by unfold maxLen;omega) ?_);intro a9 c9 w9 vQ vZ wO;have xy:=zH vQ;clear vZ wO vQ)
      go_roundg (gk - 1)
      case measure=>omega
      case rel=>exact⟨j+1,lo ++ [⟨xh,xi,xn,xd⟩],_,_,true,by omega,by go_num,by rw[List.length_append];rfl,rfl,by rw[List.length_append,if_pos rfl];simp;omega,zH (IV.out _ _ BN.out),zH (by rw[List.length_append,a5];exact xy.out)⟩
     | false =>
      rw[if_neg (by decide)] at hlo;have Ey:Hid (∀W,Calls Tryz.prog 94 #[.agg #[.int .i64 xh,.int .i64 xi,.string xn,.int .i64 xd],.int .i64 hv,.int .i64 z] W fun e w'=>e=.returned (.bool (dm xh xi hv z))/\Below W.heap.size W w'):=zH (fun W=>iw ⟨xh,xi,xn,xd⟩ hv z W);generalize dm xh xi hv z=bl at *;go_wp2_with fail
      refine(Ey.out _).mono ?_;rintro e w5 ⟨rfl,hb⟩;have y8:=zH (DC.out.kept hb);replace d0:=af d0 hb;replace d1:=af d1 hb;replace d2:=af d2 hb;replace d3:=af d3 hb;have Gn:b<w5.heap.size:=World.block_lt_of_cell? w5 _ d0;clear hb;cases bl with
      | true =>
       go_wp2_with (at_builtin;go_loud (refine dj rfl _ _ 43 rfl 74 (.agg #[.int .i64 0,.int .i64 0,.string ByteArray.empty,.int .i64 0]) 4 40 Tryz.underlying43 bG rfl (by decide) _ _ _ _ _ (by rfl) (by exact y8.out) _ _ _ (by rfl) (by first|rfl|simp) (by rfl) (by intro u hu;simp at hu;rcases hu with rfl|rfl|rfl|rfl <;> rfl) (by omega) (by unfold maxLen;omega) ?_);intro a9 c9 w9 vQ vZ wO;have xy:=zH vQ;clear vZ wO vQ)
       go_roundg (gk - 1)
       case measure=>omega
       case rel=>exact⟨j+1,lo ++ [⟨xh,xi,xn,xd⟩],_,_,false,by omega,by go_num,by rw[List.length_append];rfl,rfl,by rw[List.length_append,if_neg (by decide)];simp;omega,zH (IV.out _ _ BN.out),zH (by rw[List.length_append,a5];exact xy.out)⟩
      | false =>
       have hlo3:lo.length+1<=12:=by omega
       go_wp2_with (first|(at_builtin;go_loud (refine dj rfl _ _ 43 rfl 74 (.agg #[.int .i64 0,.int .i64 0,.string ByteArray.empty,.int .i64 0]) 4 40 Tryz.underlying43 bG rfl (by decide) _ _ _ _ _ (by rfl) (by exact y8.out) _ _ _ (by rfl) (by first|rfl|simp) (by rfl) (by intro u hu;simp at hu;rcases hu with rfl|rfl|rfl|rfl <;> rfl) (by omega) (by unfold maxLen;omega) ?_);intro a9 c9 w9 vQ vZ wO;have xy:=zH vQ;clear vZ wO vQ;obtain⟨e0,e1,e2,e3,e4⟩:=IE.out w9 (ac Al.out xy.out.below))|(at_builtin;go_loud (refine dj rfl _ _ 43 rfl 74 (.agg #[.int .i64 0,.int .i64 0,.string ByteArray.empty,.int .i64 0]) 4 40 Tryz.underlying43 bG rfl (by decide) _ _ _ _ _ (by rfl) (by exact xy.out) _ _ _ (by rfl) (by first|rfl|simp) (by rfl) (by intro u hu;simp at hu;rcases hu with rfl|rfl|rfl|rfl <;> rfl) (by omega) (by unfold maxLen;omega) ?_);intro a8 c8 w8 IG Ii Ij;have Dg:=zH IG;clear Ii Ij IG))
       go_roundg (gk - 1)
       case measure=>omega
       case rel=>exact⟨j+1,(lo ++ [⟨hv,z,s,id⟩]) ++ [⟨xh,xi,xn,xd⟩],_,_,true,by omega,by go_num,by rw[List.length_append,List.length_append];rfl,rfl,by rw[List.length_append,List.length_append,if_pos rfl];simp;omega,zH (OZ.out _ _ BN.out),zH (by rw[List.length_append,List.length_append,a5,a5];exact Dg.out)⟩
    ·have BZ:j=l.length:=by omega
     subst BZ;have IW:l.length<12:=by omega
     cases put with
     | true =>
      rw[if_pos rfl] at hlo;go_wp2;go_ret2;exact⟨lo,hv,z,a',c',rfl,by have:=BN.out;rw[List.take_length] at this;exact this,mK DC.out Al.out⟩
     | false =>
      rw[if_neg (by decide)] at hlo;have y8:=zH DC.out;go_wp2_with (at_builtin;go_loud (refine dj rfl _ _ 43 rfl 74 (.agg #[.int .i64 0,.int .i64 0,.string ByteArray.empty,.int .i64 0]) 4 40 Tryz.underlying43 bG rfl (by decide) _ _ _ _ _ (by rfl) (by exact y8.out) _ _ _ (by rfl) (by first|rfl|simp) (by rfl) (by intro u hu;simp at hu;rcases hu with rfl|rfl|rfl|rfl <;> rfl) (by omega) (by unfold maxLen;omega) ?_);intro a9 c9 w9 vQ vZ wO;have xy:=zH vQ;clear vZ wO vQ)
      go_ret2;exact⟨lo ++ [⟨hv,z,s,id⟩],hv,z,a9,c9,by rw[List.length_append];rfl,qe _ (by have:=BN.out;rw[List.take_length] at this;exact this),by rw[List.length_append,a5];exact mK xy.out Al.out⟩
def fZ (l:List EntL)(m:Nat)(w:World)(e:Ending)(w':World):Prop:=
 ∃(g:Option Addr) (c:Nat),e=.returned (.tuple #[.slice g (l.eraseIdx m).length c,.bool true])/\Own 74 4 w.heap.size w (.slice g (l.eraseIdx m).length c) (l.eraseIdx m).length (ens (l.eraseIdx m)) w'
theorem cn (a:Option Addr)(c:Nat)(l:List EntL)(s:ByteArray)(m:Nat)(hlt:m<l.length)(w:World)(h:Rd w a l.length c 4 (ens l))(hs:∀x∈l,x.name.size<=1073741824)(hss:s.size<=1073741824)(hn:l.length<=100000)(h1:(l.take m).any (fun x=>RQ x.name s)=false)(h2:RQ l[m].name s=true) :
  Calls Tryz.prog 118 #[.slice a l.length c,.string s] w (fZ l m w):=by
 have H:=zH h;have vJ:=zH hs;have HU:Hid (∀r,AtP l (fun x=>RQ x.name s) r->r=(m:Int)):=zH (fun r hr=>fD hlt h1 h2 hr);clear h hs h1 h2;go_enter Tryz.func118,Tryz.ntmps118
 go_wp2_with fail
 refine(bM a _ c l s _ H.out vJ.out hss).mono ?_;rintro e w1 ⟨r,rfl,hE,hb⟩;have HB1:=zH hb;have hr:=HU.out r hE;subst hr;clear hb hE HU;obtain⟨b,off,rfl,hbs,-,-,-,-⟩:=ay H.out m hlt;have hi:(m:Int)<(l.length:Int):=by omega
 have hi0:(0:Int)<=(m:Int):=by omega
 have hi1:¬((m:Int)<0):=by omega
 have yF:=zH (Own.lit (e:=74) (size:=4) (n:=0) (Below.refl w1.heap.size w1) zN #[] rfl (by decide));have HR:Hid (Rd (w1.alloc (.cells #[] 74)) (some ⟨b,off,none⟩) m c 4 (ens (l.take m))):=zH (by have:=((H.out.below HB1.out zN).alloc (.cells #[] 74)).part 0 m (by omega) (by omega);simpa using this);have hmc:m<=c:=by have:=H.out.le;omega
 have hlc:l.length<=c:=H.out.le;have hmx:c<=maxLen:=H.out.max;have hm1:m+1<=l.length:=by omega
 have hmw:IntKind.i64.wrap ((m:Int)+1)=(m:Int)+1:=IntWalk.i64_in _ ⟨by omega,by unfold maxLen at hmx;omega⟩;have hi2:(m:Int)+1<=(l.length:Int):=by omega
 have hi3:(0:Int)<=(m:Int)+1:=by omega
 have Dy:Hid (∀W,Below w1.heap.size w1 W->Rd W (if c=m+1 then some ⟨b,off,none⟩ else some ⟨b,off+(m+1)*4,none⟩) (l.length - (m+1)) (c - (m+1)) 4 (ens ((l.take l.length).drop (m+1)))):=zH (fun W hW=>by
  have h:=((H.out.below HB1.out zN).below hW zN).part (m+1) l.length (by omega) (by omega);split
  ·next hc =>
   have h0:l.length - (m+1)=0:=by omega
   exact⟨h.len,h.le,h.max,fun e=>(by cases e),fun h1=>(by omega)⟩
  ·exact h)
 unfold maxLen at hmx;go_wp2_with (first|((at_builtin;go_loud (refine eu rfl _ _ 43 rfl 74 (.agg #[.int .i64 0,.int .i64 0,.string ByteArray.empty,.int .i64 0]) 4 40 Tryz.underlying43 bG rfl (by decide) _ _ _ _ _ (by rfl) (by exact yF.out) _ _ _ _ (by rfl) (by exact HR.out) (iK _) (by omega) (by unfold maxLen;omega) ?_);intro a2 c2 w2 hO2);rw[Nat.zero_add,List.nil_append] at hO2;have xK:=zH hO2;have HR3:=zH (Dy.out w2 hO2.below);clear hO2)|(at_builtin;go_loud (refine eu rfl _ _ 43 rfl 74 (.agg #[.int .i64 0,.int .i64 0,.string ByteArray.empty,.int .i64 0]) 4 40 Tryz.underlying43 bG rfl (by decide) _ _ _ _ _ (by rfl) (by exact xK.out) _ _ _ _ (by rfl) (by exact HR3.out) (iK _) (by omega) (by unfold maxLen;omega) ?_);intro a3 c3 w3 hO3))
 all_goals
  have heq:l.take m++(l.take l.length).drop (m+1)=l.eraseIdx m:=by rw[List.take_length,List.eraseIdx_eq_take_drop_succ]
  have hlen:(l.eraseIdx m).length=m+(l.length - (m+1)):=by rw[←heq];simp;omega
  have HL:=zH hlen;have HE:=zH heq;clear hlen heq;go_ret2;refine⟨a3,c3,by rw[HL.out];rfl,?_⟩;rw[HL.out,←HE.out,a5];exact mK hO3 HB1.out
def nI (l:List EntL)(m:Nat)(s:ByteArray)(id:Int)(B:Nat)(W0:World)(a:Option Addr)(c:Nat)(w:World)(e:Ending)(w':World):Prop:=
 e=.returned (.tuple #[.slice a l.length c,.bool true])/\Own 74 4 B W0 (.slice a l.length c) l.length (ens (l.set m ⟨(l.getD m ak).hash,(l.getD m ak).index,s,id⟩)) w'/\w.grownBy w' (Value.ownBlock (.slice a l.length c))
theorem rC (l:List EntL)(m:Nat)(hm:m<l.length)(s:ByteArray)(id:Int):((ens l).set (m*4+2) (.string s)).set (m*4+3) (.int .i64 id)=ens (l.set m ⟨l[m].hash,l[m].index,s,id⟩):=by
 have hk:(ens (l.take m)).length=m*4:=by simp;omega
 have e1:∀y,l.set m y=l.take m++y::l.drop (m+1):=fun y=>by rw[List.set_eq_take_append_cons_drop,if_pos hm]
 have e2:ens l=ens (l.take m)++(en1 l[m]++ens (l.drop (m+1))):=by
  conv=>lhs;rw[←List.take_append_drop m l,List.drop_eq_getElem_cons hm]
  rw[a5];rfl
 rw[e1,e2,a5,List.set_append_right _ _ (by omega),List.set_append_right _ _ (by omega),hk,show m*4+2 - m*4=2 from by omega,show m*4+3 - m*4=3 from by omega];simp[ens,en1]
theorem fk (B:Nat)(W0:World)(a:Option Addr)(c:Nat)(l:List EntL)(s:ByteArray)(id:Int)(m:Nat)(hlt:m<l.length)(w:World)(h:Own 74 4 B W0 (.slice a l.length c) l.length (ens l) w)(hs:∀x∈l,x.name.size<=1073741824)(hss:s.size<=1073741824)(IB:1<=id)(IC:id<=100000)(h1:(l.take m).any (fun x=>RQ x.name s)=false)(h2:RQ l[m].name s=true) :
  Calls Tryz.prog 142 #[.slice a l.length c,.string s,.int .i64 id] w (nI l m s id B W0 a c w):=by
 have HZ:Hid (l.getD m ak=l[m]):=zH (by rw[List.getD_eq_getElem?_getD,List.getElem?_eq_getElem hlt];rfl);have HE:=zH (rC l m hlt s id);obtain⟨g,c',he,hg⟩:=h.shape1 (by omega);simp only[Value.slice.injEq] at he;obtain⟨rfl,_,rfl⟩:=he;have H:=zH h.rd;have HO:=zH h;have vJ:=zH hs;have HU:Hid (∀r,AtP l (fun x=>RQ x.name s) r->r=(m:Int)):=zH (fun r hr=>fD hlt h1 h2 hr);clear h hs h1 h2;go_enter Tryz.func142,Tryz.ntmps142
 go_wp2_with fail
 refine(bM _ _ c l s _ H.out vJ.out hss).mono ?_;rintro e w1 ⟨r,rfl,hE,hb⟩;have HB1:=zH hb;have BX:=zH (HO.out.kept hb);have hr:=HU.out r hE;subst hr;clear hb hE HU;have hi:(m:Int)<(l.length:Int):=by omega
 have hi0:(0:Int)<=(m:Int):=by omega
 have hi1:¬((m:Int)<0):=by omega
 have hf2:=BX.out.free (m*4+2);have hf3:=(BX.out.set (m*4+2) (.string s)).free (m*4+3);have Qi:=BX.out.free (m*4+3);have hlen:(ens l).length=l.length*4:=oU l;obtain⟨u2,hv2⟩:∃u,w1.cell? ⟨g,m*4+2,none⟩=some u:=⟨_,BX.out.cell (m*4+2) (by omega)⟩;obtain⟨u3,hv3⟩:∃u,w1.cell? ⟨g,m*4+3,none⟩=some u:=⟨_,BX.out.cell (m*4+3) (by omega)⟩;have HG:Hid (w.grownBy ((w1.setCell ⟨g,m*4+2,none⟩ (.string s)).setCell ⟨g,m*4+3,none⟩ (.int .i64 id)) (Value.ownBlock (.slice (some ⟨g,0,none⟩) l.length c))):=zH (((aA _ HB1.out).trans (BX.out.row.stored _ _).2).trans ((BX.out.set (m*4+2) _).row.stored _ _).2);have HF:Hid (Own 74 4 B W0 (.slice (some ⟨g,0,none⟩) l.length c) l.length (ens (l.set m ⟨(l.getD m ak).hash,(l.getD m ak).index,s,id⟩)) ((w1.setCell ⟨g,m*4+2,none⟩ (.string s)).setCell ⟨g,m*4+3,none⟩ (.int .i64 id))):=zH (by
  have:=(BX.out.set (m*4+2) (.string s)).set (m*4+3) (.int .i64 id);rw[HE.out] at this;rw[HZ.out];exact this)
 clear hlen HO BX H;go_wp2_with (first|(go_at_call 39;(first|refine(ao _ _ _ _ (by omega) (by omega)).mono ?_|refine(aG _ _ _ _ (by omega)).mono ?_);rintro e w' ⟨rfl,rfl⟩))
 go_ret2;exact⟨rfl,HF.out,HG.out⟩
end Go.Proofs.YtlkfabkkjfmnmaaGreatDoor
