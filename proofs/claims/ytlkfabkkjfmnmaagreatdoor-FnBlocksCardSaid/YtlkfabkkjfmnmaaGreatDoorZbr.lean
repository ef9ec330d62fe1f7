import Derived.Test.YtlkfabkkjfmnmaaGreatDoorZaq
import Derived.Test.YtlkfabkkjfmnmaaGreatDoorZar
namespace Go.Proofs.YtlkfabkkjfmnmaaGreatDoor
open Go.RowKit
set_option linter.all false
set_option maxRecDepth 1000000
set_option maxHeartbeats 6000000
def uF (l:List InoL)(out:List Int)(r:Int):Prop:=(r = -1/\∀x∈l,x.id∈out)∨(0<=r/\∃x∈l,x.id ∉ out)
theorem ij:∀(l:List InoL) (id:Int),aD l id<=gW l:=by
 intro l id;induction l with
 | nil=>exact zN
 | cons x l ih =>
  have h:=p7 x.ents id;unfold aD gW at *;rw[List.map_cons,List.map_cons,List.sum_cons,List.sum_cons];omega
theorem dR {next:Int}{l:List InoL}(h:fe next l=false):bQ next l=false:=by unfold bQ;rw[h];rfl
theorem n8 {next:Int}{l:List InoL}{k:Nat}(hk:k<l.length)(h:dV next l k=false):bQ next l=false:=by unfold bQ;rw[rT next l k _ hk h];simp
theorem pA {next:Int}{l:List InoL}(h:¬(2<=next/\next<=100000)):fe next l=false:=by unfold fe;rw[decide_eq_false h];rfl
theorem pW {next:Int}{l:List InoL}(h:¬(1<=l.length/\l.length<=16)):fe next l=false:=by unfold fe;rw[decide_eq_false h];simp
theorem pC {next:Int}{l:List InoL}(h0:0<l.length)(h:¬l[0].id=1):fe next l=false:=by unfold fe;rw[eT l 0 h0,decide_eq_false h];simp
theorem pX {next:Int}{l:List InoL}(h0:0<l.length)(h:¬l[0].kind=2):fe next l=false:=by unfold fe;rw[eT l 0 h0,decide_eq_false h];simp
theorem ly {next:Int}{l:List InoL}(h0:0<l.length)(h1:2<=next/\next<=100000)(h2:1<=l.length/\l.length<=16)(h3:l[0].id=1)(h4:l[0].kind=2):fe next l=true:=by
 unfold fe;rw[eT l 0 h0,decide_eq_true h1,decide_eq_true h2,decide_eq_true h3,decide_eq_true h4];rfl
theorem sP {next:Int}{l:List InoL}{k:Nat}(hk:k<l.length)(h:¬(1<=l[k].id/\l[k].id<=next - 1)):dV next l k=false:=by rw[fK next l k hk,decide_eq_false h];rfl
theorem rF {next:Int}{l:List InoL}{j:Nat}(hk:j+1<l.length)(h:¬l[j].id<l[j+1].id):dV next l (j+1)=false:=by
 rw[fK next l (j+1) hk,Nat.add_sub_cancel,eT l j (by omega),decide_eq_false h];simp
theorem rx {next:Int}{l:List InoL}(hk:0<l.length)(h:(1:Int)<=l[0].id/\l[0].id<=next - 1):dV next l 0=bJ l l[0]:=by rw[fK next l 0 hk,decide_eq_true h];simp
theorem sA {next:Int}{l:List InoL}{j:Nat}(hk:j+1<l.length)(h:1<=l[j+1].id/\l[j+1].id<=next - 1)(h2:l[j].id<l[j+1].id):dV next l (j+1)=bJ l l[j+1]:=by
 rw[fK next l (j+1) hk,Nat.add_sub_cancel,eT l j (by omega),decide_eq_true h,decide_eq_true h2];simp
theorem pO {l:List InoL}(h0:0<l.length)(h:l[0].id=1):atF l 1=0:=iO l 1 0 h0 h (fun j hj=>by omega)
theorem rX {w:World}{b off n cap:Nat}{l:List InoL}(h:VolRd w (some ⟨b,off,none⟩) n cap l)(hn:1<=n):VolRd w (if cap=1 then some ⟨b,off,none⟩ else some ⟨b,off+5,none⟩) (n - 1) (cap - 1) l.tail:=by
 obtain⟨m,rfl,h1,h2⟩:=h;have yg:m.length=n:=by have:=h1.len;simp at this;omega
 refine⟨m.tail,by rw[List.map_tail],?_,fun y hy=>h2 y (List.mem_of_mem_tail hy)⟩;have hle:=h1.le;have hmx:=h1.max;refine⟨by rw[oI,List.length_tail,yg],by omega,by omega,?_,?_⟩
 ·intro hc;split at hc <;> cases hc
 ·intro hn1;obtain⟨b',off',e,hlt,hc⟩:=h1.at' (by omega);cases e;rw[if_neg (by omega)];refine⟨b,off+5,rfl,hlt,fun j hj=>?_⟩;have hins:ins m=in1 (m[0]'(by omega))++ins m.tail:=by
   cases m with
   | nil=>simp at yg;omega
   | cons x m=>rfl
  have:=hc (5+j) (by rw[hins,List.length_append,ez];omega);rw[←Nat.add_assoc] at this;rw[this];congr 1
  simp only[hins];rw[List.getElem_append_right (by rw[ez];omega)];simp only[ez,Nat.add_sub_cancel_left]
theorem oC (x:InoL)(ad:Option Addr)(c:Nat)(g:Nat)(ga:Option Addr)(ca:Nat)(out:List Int)(w:World)(hg:w.cell? ⟨g,0,none⟩=some (.slice ga out.length ca))(hou:Rd w ga out.length ca 1 (aE out)) :
  Calls Tryz.prog 58 #[.agg #[.int .i64 x.id,.int .i64 x.kind,.int .i64 x.links,.string x.data,.slice ad x.ents.length c],.pointer (some ⟨g,0,none⟩)] w fun e w'=>e=.returned (.bool (!decide (x.id∈out)))/\Below w.heap.size w w':=by
 have HB:=zH (az w (.cells #[.int .i64 x.id,.int .i64 x.kind,.int .i64 x.links,.string x.data,.slice ad x.ents.length c] 45));have g1:=af hg HB.out;have hgl:g<w.heap.size:=World.block_lt_of_cell? w _ hg;have HR:=zH (hou.below HB.out zN);clear hou;go_enter Tryz.func58,Tryz.ntmps58
 go_wp2_with fail
 refine(jH ga _ ca out x.id _ HR.out).mono ?_;rintro e w' ⟨rfl,rfl⟩;obtain⟨q,hq⟩:∃q,q=decide (x.id∈out):=⟨_,rfl⟩;rw[←hq];have HQ:=zH hq;clear hq;go_wp2;go_ret;exact⟨ah (by rw[HQ.out]),HB.out⟩
theorem ss (a:Option Addr)(n cap:Nat)(l:List InoL)(g:Nat)(ga:Option Addr)(ca:Nat)(out:List Int)(w:World)(hr:VolRd w a n cap l)(hg:w.cell? ⟨g,0,none⟩=some (.slice ga out.length ca))(hou:Rd w ga out.length ca 1 (aE out)) :
  Calls Tryz.prog 87 #[.slice a n cap,.func (.func 58) #[] #[.pointer (some ⟨g,0,none⟩)]] w fun e w' => ∃r,e=.returned (.int .i64 r)/\uF l out r/\Below w.heap.size w w':=by
 have hl:l.length=n:=hr.len;subst hl;have hm:=hr.room;have H:=zH hr;clear hr;have HG:=zH hg;have Od:=zH hou;clear hg hou;go_enter Tryz.func87,Tryz.ntmps87
 go_wp2;go_loopg [8] l.length (fun gg i wr => ∃m:Nat,m+gg=l.length/\i=.int .i64 (m:Int)/\Hid (∀j (hj:j<m) (hl:j<l.length),(!decide (l[j].id∈out))=false)/\Hid (Below w.heap.size w wr))
 case atStart=>exact⟨0,by omega,rfl,zH (fun j hj=>by omega),zH zB⟩
 case round =>
  obtain⟨m,hm2,rfl,HM,HB2⟩:=hrel;by_cases hlt:m<l.length
  ·obtain⟨b,off,ad,c,rfl,hbs,d0,d1,d2,d3,d4,hrd⟩:=bF (H.out.step HB2.out) m hlt;have HH:Hid ((!decide (l[m].id∈out))=true->uF l out (m:Int)):=zH (fun e => .inr ⟨by omega,l[m],List.getElem_mem hlt,by simpa using e⟩);have HN:Hid ((!decide (l[m].id∈out))=false->∀j (hj:j<m+1) (hl:j<l.length),(!decide (l[j].id∈out))=false):=zH (fun e j hj hl=>by
    by_cases h:j=m
    ·subst h;exact e
    ·exact HM.out j (by omega) hl)
   have hi:(m:Int)<(l.length:Int):=by omega
   have hi0:(0:Int)<=(m:Int):=by omega
   have Fe:Hid (∀W,Below w.heap.size w W->Calls Tryz.prog 58 #[.agg #[.int .i64 l[m].id,.int .i64 l[m].kind,.int .i64 l[m].links,.string l[m].data,.slice ad l[m].ents.length c],.pointer (some ⟨g,0,none⟩)] W fun e w'=>e=.returned (.bool ((!decide (l[m].id∈out))))/\Below W.heap.size W w'):=zH (fun W hW=>oC l[m] ad c g ga ca out W (af HG.out hW) (Od.out.below hW zN));clear hrd;generalize ((!decide (l[m].id∈out)))=q at *;generalize l[m].id=x0 at *;generalize l[m].kind=x1 at *;generalize l[m].links=x2 at *;generalize l[m].data=x3 at *;generalize l[m].ents.length=x4 at *;cases q with
   | true =>
    have HE:=zH (HH.out rfl);clear HH HN;go_wp2_with (go_at_call 58;refine(Fe.out _ HB2.out).mono ?_;rintro e w3 ⟨rfl,hb⟩;have HB3:=zH (ac HB2.out hb);clear hb)
    go_ret;exact⟨_,rfl,HE.out,HB3.out⟩
   | false =>
    have HE:=zH (HN.out rfl);clear HH HN;go_wp2_with (go_at_call 58;refine(Fe.out _ HB2.out).mono ?_;rintro e w3 ⟨rfl,hb⟩;have HB3:=zH (ac HB2.out hb);clear hb)
    go_roundg (gk - 1)
    case measure=>omega
    case rel=>exact⟨m+1,by omega,by go_num,HE,HB3⟩
  ·have hlm:m=l.length:=by omega
   subst hlm;have HE:Hid (uF l out (-1)):=zH (.inl ⟨rfl,fun x hx=>by obtain⟨j,hj,rfl⟩:=List.mem_iff_getElem.1 hx;have:=HM.out j hj hj;simpa using this⟩);go_wp2;go_ret;exact⟨-1,rfl,HE.out,HB2.out⟩
theorem lO (a:Option Addr)(n cap:Nat)(l:List InoL)(g:Nat)(ga:Option Addr)(ca:Nat)(out:List Int)(w:World)(hr:VolRd w a n cap l)(hg:w.cell? ⟨g,0,none⟩=some (.slice ga out.length ca))(hou:Rd w ga out.length ca 1 (aE out)) :
  Calls Tryz.prog 57 #[.slice a n cap,.func (.func 58) #[] #[.pointer (some ⟨g,0,none⟩)]] w fun e w'=>e=.returned (.bool (l.any (fun x => !decide (x.id∈out))))/\Below w.heap.size w w':=by
 have H:=zH hr;have HG:=zH hg;have Od:=zH hou;clear hr hg hou;go_enter Tryz.func57,Tryz.ntmps57
 go_wp2_with fail
 refine(ss a n cap l g ga ca out _ H.out HG.out Od.out).mono ?_;rintro e w1 ⟨r,rfl,hr,hb⟩;have HB:=zH hb;clear hb;rcases hr with ⟨rfl,h⟩|⟨h0,h⟩
 ·have HR:Hid (l.any (fun x => !decide (x.id∈out))=false):=zH (by rw[List.any_eq_false];intro x hx;simpa using h x hx);clear h;go_wp2;go_ret;exact⟨ah HR.out.symm,HB.out⟩
 ·have HR:Hid (l.any (fun x => !decide (x.id∈out))=true):=zH (by rw[List.any_eq_true];obtain⟨x,hx,h2⟩:=h;exact⟨x,hx,by simpa using h2⟩);have Ry:(0<=r)=True:=eq_true h0;clear h h0;go_wp2;go_ret;exact⟨ah HR.out.symm,HB.out⟩
theorem g7 (next:Int)(a:Option Addr)(n cap:Nat)(l:List InoL)(w:World)(hr:VolRd w a n cap l)(hs:∀x∈l,∀s∈x.ents,s.name.size<=1073741824)(ht:(gW l:Int)<=4611686018427387904)(hT:KTab w) :
  Calls Tryz.prog 29 #[.agg #[.int .i64 next,.slice a n cap]] w fun e w'=>e=.returned (.bool (bQ next l))/\Below w.heap.size w w':=by
 have hl:l.length=n:=hr.len;subst hl;have hm:=hr.room;have HS:=zH hs;have Dh:Hid (∀id,(aD l id:Int)<=4611686018427387904):=zH (fun id=>by have:=ij l id;omega);have HT:=zH hT;clear hT;have HB:=zH (az w (.cells #[.int .i64 next,.slice a l.length cap] 26));have H:=zH (hr.step HB.out);obtain⟨c0,c1⟩:=gZ w 26 (.int .i64 next) (.slice a l.length cap);clear hr hs ht;go_enter Tryz.func29,Tryz.ntmps29
 go_upto_region 1 with fail
 have hw0:w.heap.size<(w.alloc (.cells #[.int .i64 next,.slice a l.length cap] 26)).heap.size:=by simp
 generalize w.alloc (.cells #[.int .i64 next,.slice a l.length cap] 26)=w1 at *;have uR:Hid (∀W,Below w1.heap.size w1 W->(W.cell? ⟨w.heap.size,0,none⟩=some (.int .i64 next)/\W.cell? ⟨w.heap.size,1,none⟩=some (.slice a l.length cap))):=zH (fun W hW=>⟨af c0 hW,af c1 hW⟩);by_cases h1:2<=next/\next<=100000
 rotate_left
 ·have HR:Hid (bQ next l=false):=zH (dR (pA h1));replace h1:next<2∨100000<next:=by omega
  go_wp2_with (first|(go_at_call 51;(first|refine(am _ _ _ _ (by omega) (by omega)).mono ?_|refine(aB _ _ _ _ (by omega)).mono ?_);rintro e w' ⟨rfl,rfl⟩))
  go_ret;exact⟨ah HR.out.symm,HB.out⟩
 have Dj:=zH h1;obtain⟨h1a,h1b⟩:=h1;by_cases h2:1<=l.length/\l.length<=16
 rotate_left
 ·have HR:Hid (bQ next l=false):=zH (dR (pW h2));replace h2:(l.length:Int)<1∨16<(l.length:Int):=by omega
  go_wp2_with (first|(go_at_call 51;(first|refine(am _ _ _ _ (by omega) (by omega)).mono ?_|refine(aB _ _ _ _ (by omega)).mono ?_);rintro e w' ⟨rfl,rfl⟩))
  go_ret;exact⟨ah HR.out.symm,HB.out⟩
 have yf:=zH h2;obtain⟨Pi,QH⟩:=h2;have h20:0<l.length:=by omega
 have QI:(1:Int)<=(l.length:Int):=by omega
 have QJ:(l.length:Int)<=16:=by omega
 have QK:(0:Int)<(l.length:Int):=by omega
 obtain⟨b,off,ad0,ca0,rfl,hbs,d0,d1,d2,d3,d4,hrd⟩:=bF H.out 0 h20;rw[Nat.zero_mul,Nat.add_zero] at d0 d1;clear hrd d2 d3 d4;by_cases h3:l[0].id=1
 rotate_left
 ·have HR:Hid (bQ next l=false):=zH (dR (pC h20 h3));have Oe:(l[0].id != 1)=true:=by simp[h3]
  clear h3;generalize l[0].id=q0 at *;go_wp2_with (first|(go_at_call 51;(first|refine(am _ _ _ _ (by omega) (by omega)).mono ?_|refine(aB _ _ _ _ (by omega)).mono ?_);rintro e w' ⟨rfl,rfl⟩))
  go_ret;exact⟨ah HR.out.symm,HB.out⟩
 have Oe:(l[0].id != 1)=false:=by simp[h3]
 by_cases h4:l[0].kind=2
 rotate_left
 ·have HR:Hid (bQ next l=false):=zH (dR (pX h20 h4));have Og:(l[0].kind != 2)=true:=by simp[h4]
  clear h3 h4;generalize l[0].id=q0 at *;generalize l[0].kind=q1 at *;go_wp2_with (first|(go_at_call 51;(first|refine(am _ _ _ _ (by omega) (by omega)).mono ?_|refine(aB _ _ _ _ (by omega)).mono ?_);rintro e w' ⟨rfl,rfl⟩))
  go_ret;exact⟨ah HR.out.symm,HB.out⟩
 have Og:(l[0].kind != 2)=false:=by simp[h4]
 have Oh:Hid (fe next l=true):=zH (ly h20 Dj.out yf.out h3 h4);have Oi:Hid (atF l 1=0):=zH (pO h20 h3);clear h3 h4;generalize l[0].id=q0 at *;generalize l[0].kind=q1 at *;go_upto_region 4 with (first|(go_at_call 51;(first|refine(am _ _ _ _ (by omega) (by omega)).mono ?_|refine(aB _ _ _ _ (by omega)).mono ?_);rintro e w' ⟨rfl,rfl⟩))
 go_wp2;clear c0 c1 d0 d1;go_loopg [38] l.length (fun gg i wr => ∃k:Nat,k+gg=l.length/\i=.int .i64 (k:Int)/\Hid (eE next l k=true)/\Hid (Below w1.heap.size w1 wr))
 case atStart=>exact⟨0,by omega,rfl,zH (kR next l),zH zB⟩
 case round=>as_aux_lemma =>
  obtain⟨k,hk,rfl,HM,vB⟩:=hrel;by_cases hlt:k<l.length
  ·skip
   obtain⟨b',off',ad,c,e,Hm,d0,d1,d2,d3,d4,hrd⟩:=bF H.out k hlt;cases e;replace d0:=af d0 vB.out;replace d1:=af d1 vB.out;replace d2:=af d2 vB.out;replace d3:=af d3 vB.out;replace d4:=af d4 vB.out;obtain⟨c0,c1⟩:=uR.out _ vB.out;have BK:w.heap.size<wr.heap.size:=World.block_lt_of_cell? wr _ c0;have hbr:b<wr.heap.size:=World.block_lt_of_cell? wr _ d0;have hi:(k:Int)<(l.length:Int):=by omega
   have hi0:(0:Int)<=(k:Int):=by omega
   have hnw:IntKind.i64.wrap (next - 1)=next - 1:=IntWalk.i64_in _ ⟨by omega,by omega⟩
   have Bh:Hid (∀W,Below w1.heap.size w1 W->Calls Tryz.prog 55 #[.agg #[.int .i64 next,.slice (some ⟨b,off,none⟩) l.length cap],.agg #[.int .i64 l[k].id,.int .i64 l[k].kind,.int .i64 l[k].links,.string l[k].data,.slice ad l[k].ents.length c]] W fun e w'=>e=.returned (.bool (bJ l l[k]))/\Below W.heap.size W w'):=zH (fun W hW=>jO next _ _ cap l l[k] ad c W (H.out.step hW) (hrd.below hW zN) (HS.out _ (List.getElem_mem hlt)) (Dh.out _) (HT.out.below (ac HB.out hW) zN));have xP:Hid (dV next l k=false->bQ next l=false):=zH (fun h=>n8 hlt h);have Eo:Hid (dV next l k=true->eE next l (k+1)=true):=zH (fun h=>by rw[kI,HM.out,h];rfl);have HR1:Hid (¬(1<=l[k].id/\l[k].id<=next - 1)->dV next l k=false):=zH (fun h=>sP hlt h);have HR3:Hid (k=0->(1<=l[k].id/\l[k].id<=next - 1)->dV next l k=bJ l l[k]):=zH (fun h h2=>by subst h;exact rx hlt h2);have zi:Hid (∀j (hj:j<l.length),k=j+1->∃p0,w1.cell? ⟨b,off+j*5,none⟩=some (.int .i64 p0)/\(¬p0<l[k].id->dV next l k=false)/\((1<=l[k].id/\l[k].id<=next - 1)->p0<l[k].id->dV next l k=bJ l l[k])):=zH (fun j hj e=>by
    obtain⟨b2,off2,ad2,cp2,e2,-,p0,-⟩:=bF H.out j hj;cases e2;subst e;exact⟨_,p0,fun h=>rF hlt h,fun h1 h2=>sA hlt h1 h2⟩)
   clear hrd;generalize bJ l l[k]=ib at *;generalize l[k].id=x0 at *;generalize l[k].kind=x1 at *;generalize l[k].links=x2 at *;generalize l[k].data=x3 at *;generalize l[k].ents.length=x4 at *;have Ho:=zH hlt;clear hlt;go_upto_region 7 with fail
   obtain⟨e0,e1,e2,e3,e4⟩:=sm wr 45 (.int .i64 x0) (.int .i64 x1) (.int .i64 x2) (.string x3) (.slice ad x4 c);have F7:=zH (az wr (.cells #[.int .i64 x0,.int .i64 x1,.int .i64 x2,.string x3,.slice ad x4 c] 45));have uY:=zH (ac vB.out F7.out);replace c0:=af c0 F7.out;replace c1:=af c1 F7.out;have hzx:wr.heap.size<(wr.alloc (.cells #[.int .i64 x0,.int .i64 x1,.int .i64 x2,.string x3,.slice ad x4 c] 45)).heap.size:=by simp
   have NF:w.heap.size<(wr.alloc (.cells #[.int .i64 x0,.int .i64 x1,.int .i64 x2,.string x3,.slice ad x4 c] 45)).heap.size:=by simp;omega
   have hzb:b<(wr.alloc (.cells #[.int .i64 x0,.int .i64 x1,.int .i64 x2,.string x3,.slice ad x4 c] 45)).heap.size:=by simp;omega
   clear d0 d1 d2 d3 d4;generalize wr.alloc (.cells #[.int .i64 x0,.int .i64 x1,.int .i64 x2,.string x3,.slice ad x4 c] 45)=wx at *;have d0:=e0;have d1:=e1;have d2:=e2;have d3:=e3;have d4:=e4;clear e0 e1 e2 e3 e4;have Cx:=zH (fun W (hW:Below wx.heap.size wx W)=>And.intro (af c0 hW) (And.intro (af c1 hW) (And.intro (af d0 hW) (And.intro (af d1 hW) (And.intro (af d2 hW) (And.intro (af d3 hW) (And.intro (af d4 hW) hW)))))));have hB0:=Below.refl wx.heap.size wx;by_cases hin:1<=x0/\x0<=next - 1
   rotate_left
   ·have HR:Hid (bQ next l=false):=zH (xP.out (HR1.out hin));have xz:Hid (x0<1∨next - 1<x0):=zH (by omega);have u7:Hid (∀W,Below wx.heap.size wx W->(W.cell? ⟨w.heap.size,0,none⟩=some (.int .i64 next)/\W.cell? ⟨w.heap.size,1,none⟩=some (.slice (some ⟨b,off,none⟩) l.length cap)/\W.cell? ⟨wr.heap.size,0,none⟩=some (.int .i64 x0)/\W.cell? ⟨wr.heap.size,1,none⟩=some (.int .i64 x1)/\W.cell? ⟨wr.heap.size,2,none⟩=some (.int .i64 x2)/\W.cell? ⟨wr.heap.size,3,none⟩=some (.string x3)/\W.cell? ⟨wr.heap.size,4,none⟩=some (.slice ad x4 c)/\Below wx.heap.size wx W)):=zH (fun W hW=>by
     obtain⟨k0,k1,k2,k3,k4,k5,k6,k7⟩:=Cx.out W hW;skip
     exact⟨k0,k1,k2,k3,k4,k5,k6,hW⟩)
    clear hin;go_wp2;refine tkB u7 29 rfl (by kernel_rfl) (by first|exact zB|assumption) (fun uQ=>?_);simp only[List.replicate];clear hB0;refine tkI [0,1,2,3,4] ?_;(iterate 5 (refine tkS rfl (by kernel_rfl) (fun _ _ _=>id) (by rfl) (by intro w h;(try dsimp only at h);go_simp;try rfl) uQ ?_;try simp only[Act.put,tkA,tk0,tk1]));refine tkE ?_;refine wR 5 rfl (by kernel_rfl) (fun K hK=>?_);(try dsimp only at uQ);go_simp;(go_at_call 51;refine(aB _ _ _ _ xz.out).mono ?_;rintro e w' ⟨rfl,rfl⟩)
    refine hK.out _ _ ?_ ?_
    ·(try dsimp only);(go_split_ands;first|exact u7.out _ (by assumption)|exact u7.out _ (Below.drew (by assumption))|exact u7.out _ (ac (by assumption) (by assumption)))
    clear hK K uQ;intro uQ;refine tkI [6,7] ?_;(iterate 2 (refine tkS rfl (by kernel_rfl) (fun _ _ _=>id) (by rfl) (by intro w h;(try dsimp only at h);go_simp;try rfl) uQ ?_;try simp only[Act.put,tkA,tk0,tk1]));refine tkE ?_;refine tkI [8,9,10,11,12,13,14,15,16,17,18,19,20,21] ?_;(iterate 14 (refine tkO rfl (by kernel_rfl) (fun _ _ _=>id) (by rfl) uQ ?_;try simp only[Act.put,tkA,tk0,tk1]));refine tkE ?_;refine tkI [22,23] ?_;(iterate 2 (refine tkS rfl (by kernel_rfl) (fun _ _ _=>id) (by rfl) (by intro w h;(try dsimp only at h);go_simp;try rfl) uQ ?_;try simp only[Act.put,tkA,tk0,tk1]));refine tkE ?_;refine tkI [24,25,26,27] ?_;(iterate 4 (refine tkO rfl (by kernel_rfl) (fun _ _ _=>id) (by rfl) uQ ?_;try simp only[Act.put,tkA,tk0,tk1]));refine tkE ?_;refine tkI [28] ?_;(iterate 1 (refine tkS rfl (by kernel_rfl) (fun _ _ _=>id) (by rfl) (by intro w h;(try dsimp only at h);go_simp;try rfl) uQ ?_;try simp only[Act.put,tkA,tk0,tk1]));refine tkE ?_;refine wpAnyH_done (by kernel_rfl) ?_ _;(try dsimp only at uQ);have vL:=zH (ac uY.out uQ.2.2.2.2.2.2.2);clear uQ;have vI:=zH (ac HB.out vL.out);go_wp2;go_ret;exact⟨ah HR.out.symm,vI.out⟩
   have xz:=zH hin;clear hin;rcases Nat.eq_zero_or_pos k with hk0|hk0
   ·have y7:Hid (dV next l k=ib):=zH (HR3.out hk0 xz.out);subst hk0;clear zi HR1 HR3;have u7:Hid (∀W,Below wx.heap.size wx W->(W.cell? ⟨w.heap.size,0,none⟩=some (.int .i64 next)/\W.cell? ⟨w.heap.size,1,none⟩=some (.slice (some ⟨b,off,none⟩) l.length cap)/\W.cell? ⟨wr.heap.size,0,none⟩=some (.int .i64 x0)/\W.cell? ⟨wr.heap.size,1,none⟩=some (.int .i64 x1)/\W.cell? ⟨wr.heap.size,2,none⟩=some (.int .i64 x2)/\W.cell? ⟨wr.heap.size,3,none⟩=some (.string x3)/\W.cell? ⟨wr.heap.size,4,none⟩=some (.slice ad x4 c)/\Below wx.heap.size wx W)):=zH (fun W hW=>by
     obtain⟨k0,k1,k2,k3,k4,k5,k6,k7⟩:=Cx.out W hW;skip
     exact⟨k0,k1,k2,k3,k4,k5,k6,hW⟩)
    have O7:((0:Int)<((0:Nat):Int))=False:=eq_false (by omega);have x9:=y7;skip
    cases ib with
    | false =>
     have HR:Hid (bQ next l=false):=zH (xP.out y7.out);go_wp2;refine tkB u7 29 rfl (by kernel_rfl) (by first|exact zB|assumption) (fun uQ=>?_);simp only[List.replicate];clear hB0;refine tkI [0,1,2,3,4] ?_;(iterate 5 (refine tkS rfl (by kernel_rfl) (fun _ _ _=>id) (by rfl) (by intro w h;(try dsimp only at h);go_simp;try rfl) uQ ?_;try simp only[Act.put,tkA,tk0,tk1]));refine tkE ?_;refine wR 5 rfl (by kernel_rfl) (fun K hK=>?_);(try dsimp only at uQ);go_simp;(go_at_call 51;refine(am _ _ _ _ xz.out.1 xz.out.2).mono ?_;rintro e w' ⟨rfl,rfl⟩)
     refine hK.out _ _ ?_ ?_
     ·(try dsimp only);(go_split_ands;first|exact u7.out _ (by assumption)|exact u7.out _ (Below.drew (by assumption))|exact u7.out _ (ac (by assumption) (by assumption)))
     clear hK K uQ;intro uQ;refine tkI [6,7,8,9,10] ?_;(iterate 5 (refine tkS rfl (by kernel_rfl) (fun _ _ _=>id) (by rfl) (by intro w h;(try dsimp only at h);go_simp;try rfl) uQ ?_;try simp only[Act.put,tkA,tk0,tk1]));refine tkE ?_;refine tkI [11,12,13,14,15,16,17,18,19,20] ?_;(iterate 10 (refine tkO rfl (by kernel_rfl) (fun _ _ _=>id) (by rfl) uQ ?_;try simp only[Act.put,tkA,tk0,tk1]));refine tkE ?_;refine tkI [21,22,23,24,25] ?_;(iterate 5 (refine tkS rfl (by kernel_rfl) (fun _ _ _=>id) (by rfl) (by intro w h;(try dsimp only at h);go_simp;try rfl) uQ ?_;try simp only[Act.put,tkA,tk0,tk1]));refine tkE ?_;refine wR 26 rfl (by kernel_rfl) (fun K hK=>?_);(try dsimp only at uQ);go_simp;(go_at_call 55;refine(Bh.out _ (ac uY.out uQ.2.2.2.2.2.2.2)).mono ?_;rintro e w5 ⟨rfl,hbk⟩)
     refine hK.out _ _ ?_ ?_
     ·(try dsimp only);(go_split_ands;first|exact u7.out _ (by assumption)|exact u7.out _ (Below.drew (by assumption))|exact u7.out _ (ac (by assumption) (by assumption)))
     clear hK K uQ;intro uQ;clear hbk;refine tkI [27,28] ?_;(iterate 2 (refine tkS rfl (by kernel_rfl) (fun _ _ _=>id) (by rfl) (by intro w h;(try dsimp only at h);go_simp;try rfl) uQ ?_;try simp only[Act.put,tkA,tk0,tk1]));refine tkE ?_;refine wpAnyH_done (by kernel_rfl) ?_ _;(try dsimp only at uQ);have vL:=zH (ac uY.out uQ.2.2.2.2.2.2.2);clear uQ;have vI:=zH (ac HB.out vL.out);go_wp2;go_ret;exact⟨ah HR.out.symm,vI.out⟩
    | true =>
     have HY:=zH (Eo.out y7.out);go_wp2;refine tkB u7 29 rfl (by kernel_rfl) (by first|exact zB|assumption) (fun uQ=>?_);simp only[List.replicate];clear hB0;refine tkI [0,1,2,3,4] ?_;(iterate 5 (refine tkS rfl (by kernel_rfl) (fun _ _ _=>id) (by rfl) (by intro w h;(try dsimp only at h);go_simp;try rfl) uQ ?_;try simp only[Act.put,tkA,tk0,tk1]));refine tkE ?_;refine wR 5 rfl (by kernel_rfl) (fun K hK=>?_);(try dsimp only at uQ);go_simp;(go_at_call 51;refine(am _ _ _ _ xz.out.1 xz.out.2).mono ?_;rintro e w' ⟨rfl,rfl⟩)
     refine hK.out _ _ ?_ ?_
     ·(try dsimp only);(go_split_ands;first|exact u7.out _ (by assumption)|exact u7.out _ (Below.drew (by assumption))|exact u7.out _ (ac (by assumption) (by assumption)))
     clear hK K uQ;intro uQ;refine tkI [6,7,8,9,10] ?_;(iterate 5 (refine tkS rfl (by kernel_rfl) (fun _ _ _=>id) (by rfl) (by intro w h;(try dsimp only at h);go_simp;try rfl) uQ ?_;try simp only[Act.put,tkA,tk0,tk1]));refine tkE ?_;refine tkI [11,12,13,14,15,16,17,18,19,20] ?_;(iterate 10 (refine tkO rfl (by kernel_rfl) (fun _ _ _=>id) (by rfl) uQ ?_;try simp only[Act.put,tkA,tk0,tk1]));refine tkE ?_;refine tkI [21,22,23,24,25] ?_;(iterate 5 (refine tkS rfl (by kernel_rfl) (fun _ _ _=>id) (by rfl) (by intro w h;(try dsimp only at h);go_simp;try rfl) uQ ?_;try simp only[Act.put,tkA,tk0,tk1]));refine tkE ?_;refine wR 26 rfl (by kernel_rfl) (fun K hK=>?_);(try dsimp only at uQ);go_simp;(go_at_call 55;refine(Bh.out _ (ac uY.out uQ.2.2.2.2.2.2.2)).mono ?_;rintro e w5 ⟨rfl,hbk⟩)
     refine hK.out _ _ ?_ ?_
     ·(try dsimp only);(go_split_ands;first|exact u7.out _ (by assumption)|exact u7.out _ (Below.drew (by assumption))|exact u7.out _ (ac (by assumption) (by assumption)))
     clear hK K uQ;intro uQ;clear hbk;refine tkI [27,28] ?_;(iterate 2 (refine tkS rfl (by kernel_rfl) (fun _ _ _=>id) (by rfl) (by intro w h;(try dsimp only at h);go_simp;try rfl) uQ ?_;try simp only[Act.put,tkA,tk0,tk1]));refine tkE ?_;refine wpAnyH_done (by kernel_rfl) ?_ _;(try dsimp only at uQ);have vL:=zH (ac uY.out uQ.2.2.2.2.2.2.2);clear uQ;go_wp2;go_roundg (gk - 1)
     case measure=>omega
     case rel=>exact⟨1,by omega,by go_num,HY,vL⟩
   ·obtain⟨j,rfl⟩:∃j,k=j+1:=⟨k - 1,by omega⟩;obtain⟨p0,PV0,PV1,PV2⟩:=zi.out j (by have:=Ho.out;omega) rfl;have hjl:(j:Int)<(l.length:Int):=by omega
    have hj0:(0:Int)<=(j:Int):=by omega
    have Iu:IntKind.i64.wrap ((j:Int)+1 - 1)=(j:Int):=by rw[Int.add_sub_cancel];exact IntWalk.i64_in _ ⟨by omega,by omega⟩
    have Gi:IntKind.i64.wrap (j:Int)=(j:Int):=IntWalk.i64_in _ ⟨by omega,by omega⟩;have hkp:((0:Int)<(j:Int)+1)=True:=eq_true (by omega);rw[show ((j+1:Nat):Int)=(j:Int)+1 from by omega] at *;have u7:Hid (∀W,Below wx.heap.size wx W->(W.cell? ⟨w.heap.size,0,none⟩=some (.int .i64 next)/\W.cell? ⟨w.heap.size,1,none⟩=some (.slice (some ⟨b,off,none⟩) l.length cap)/\W.cell? ⟨wr.heap.size,0,none⟩=some (.int .i64 x0)/\W.cell? ⟨wr.heap.size,1,none⟩=some (.int .i64 x1)/\W.cell? ⟨wr.heap.size,2,none⟩=some (.int .i64 x2)/\W.cell? ⟨wr.heap.size,3,none⟩=some (.string x3)/\W.cell? ⟨wr.heap.size,4,none⟩=some (.slice ad x4 c)/\W.cell? ⟨b,off+j*5,none⟩=some (.int .i64 p0)/\Below wx.heap.size wx W)):=zH (fun W hW=>by
     obtain⟨k0,k1,k2,k3,k4,k5,k6,k7⟩:=Cx.out W hW;skip
     exact⟨k0,k1,k2,k3,k4,k5,k6,af (af PV0 uY.out) hW,hW⟩)
    by_cases hlt2:p0<x0
    rotate_left
    ·have HR:Hid (bQ next l=false):=zH (xP.out (PV1 hlt2));have hge:(x0<=p0)=True:=eq_true (by omega);clear PV0 PV1 PV2 zi HR1 HR3 hlt2;go_wp2;refine tkB u7 29 rfl (by kernel_rfl) (by first|exact zB|assumption) (fun uQ=>?_);simp only[List.replicate];clear hB0;refine tkI [0,1,2,3,4] ?_;(iterate 5 (refine tkS rfl (by kernel_rfl) (fun _ _ _=>id) (by rfl) (by intro w h;(try dsimp only at h);go_simp;try rfl) uQ ?_;try simp only[Act.put,tkA,tk0,tk1]));refine tkE ?_;refine wR 5 rfl (by kernel_rfl) (fun K hK=>?_);(try dsimp only at uQ);go_simp;(go_at_call 51;refine(am _ _ _ _ xz.out.1 xz.out.2).mono ?_;rintro e w' ⟨rfl,rfl⟩)
     refine hK.out _ _ ?_ ?_
     ·(try dsimp only);(go_split_ands;first|exact u7.out _ (by assumption)|exact u7.out _ (Below.drew (by assumption))|exact u7.out _ (ac (by assumption) (by assumption)))
     clear hK K uQ;intro uQ;refine tkI [6,7,8,9,10,11,12,13,14,15,16,17,18,19,20,21,22,23] ?_;(iterate 18 (refine tkS rfl (by kernel_rfl) (fun _ _ _=>id) (by rfl) (by intro w h;(try dsimp only at h);go_simp;try rfl) uQ ?_;try simp only[Act.put,tkA,tk0,tk1]));refine tkE ?_;refine tkI [24,25,26,27] ?_;(iterate 4 (refine tkO rfl (by kernel_rfl) (fun _ _ _=>id) (by rfl) uQ ?_;try simp only[Act.put,tkA,tk0,tk1]));refine tkE ?_;refine tkI [28] ?_;(iterate 1 (refine tkS rfl (by kernel_rfl) (fun _ _ _=>id) (by rfl) (by intro w h;(try dsimp only at h);go_simp;try rfl) uQ ?_;try simp only[Act.put,tkA,tk0,tk1]));refine tkE ?_;refine wpAnyH_done (by kernel_rfl) ?_ _;(try dsimp only at uQ);have vL:=zH (ac uY.out uQ.2.2.2.2.2.2.2.2);clear uQ;have vI:=zH (ac HB.out vL.out);go_wp2;go_ret;exact⟨ah HR.out.symm,vI.out⟩
    have y7:Hid (dV next l (j+1)=ib):=zH (PV2 xz.out hlt2);have hge:(x0<=p0)=False:=eq_false (by omega);clear PV0 PV1 PV2 zi HR1 HR3 hlt2;have x9:=y7;skip
    cases ib with
    | false =>
     have HR:Hid (bQ next l=false):=zH (xP.out y7.out);go_wp2;refine tkB u7 29 rfl (by kernel_rfl) (by first|exact zB|assumption) (fun uQ=>?_);simp only[List.replicate];clear hB0;refine tkI [0,1,2,3,4] ?_;(iterate 5 (refine tkS rfl (by kernel_rfl) (fun _ _ _=>id) (by rfl) (by intro w h;(try dsimp only at h);go_simp;try rfl) uQ ?_;try simp only[Act.put,tkA,tk0,tk1]));refine tkE ?_;refine wR 5 rfl (by kernel_rfl) (fun K hK=>?_);(try dsimp only at uQ);go_simp;(go_at_call 51;refine(am _ _ _ _ xz.out.1 xz.out.2).mono ?_;rintro e w' ⟨rfl,rfl⟩)
     refine hK.out _ _ ?_ ?_
     ·(try dsimp only);(go_split_ands;first|exact u7.out _ (by assumption)|exact u7.out _ (Below.drew (by assumption))|exact u7.out _ (ac (by assumption) (by assumption)))
     clear hK K uQ;intro uQ;refine tkI [6,7,8,9,10,11,12,13,14,15,16,17,18,19,20,21,22,23,24,25] ?_;(iterate 20 (refine tkS rfl (by kernel_rfl) (fun _ _ _=>id) (by rfl) (by intro w h;(try dsimp only at h);go_simp;try rfl) uQ ?_;try simp only[Act.put,tkA,tk0,tk1]));refine tkE ?_;refine wR 26 rfl (by kernel_rfl) (fun K hK=>?_);(try dsimp only at uQ);go_simp;(go_at_call 55;refine(Bh.out _ (ac uY.out uQ.2.2.2.2.2.2.2.2)).mono ?_;rintro e w5 ⟨rfl,hbk⟩)
     refine hK.out _ _ ?_ ?_
     ·(try dsimp only);(go_split_ands;first|exact u7.out _ (by assumption)|exact u7.out _ (Below.drew (by assumption))|exact u7.out _ (ac (by assumption) (by assumption)))
     clear hK K uQ;intro uQ;clear hbk;refine tkI [27,28] ?_;(iterate 2 (refine tkS rfl (by kernel_rfl) (fun _ _ _=>id) (by rfl) (by intro w h;(try dsimp only at h);go_simp;try rfl) uQ ?_;try simp only[Act.put,tkA,tk0,tk1]));refine tkE ?_;refine wpAnyH_done (by kernel_rfl) ?_ _;(try dsimp only at uQ);have vL:=zH (ac uY.out uQ.2.2.2.2.2.2.2.2);clear uQ;have vI:=zH (ac HB.out vL.out);go_wp2;go_ret;exact⟨ah HR.out.symm,vI.out⟩
    | true =>
     have HY:=zH (Eo.out y7.out);go_wp2;refine tkB u7 29 rfl (by kernel_rfl) (by first|exact zB|assumption) (fun uQ=>?_);simp only[List.replicate];clear hB0;refine tkI [0,1,2,3,4] ?_;(iterate 5 (refine tkS rfl (by kernel_rfl) (fun _ _ _=>id) (by rfl) (by intro w h;(try dsimp only at h);go_simp;try rfl) uQ ?_;try simp only[Act.put,tkA,tk0,tk1]));refine tkE ?_;refine wR 5 rfl (by kernel_rfl) (fun K hK=>?_);(try dsimp only at uQ);go_simp;(go_at_call 51;refine(am _ _ _ _ xz.out.1 xz.out.2).mono ?_;rintro e w' ⟨rfl,rfl⟩)
     refine hK.out _ _ ?_ ?_
     ·(try dsimp only);(go_split_ands;first|exact u7.out _ (by assumption)|exact u7.out _ (Below.drew (by assumption))|exact u7.out _ (ac (by assumption) (by assumption)))
     clear hK K uQ;intro uQ;refine tkI [6,7,8,9,10,11,12,13,14,15,16,17,18,19,20,21,22,23,24,25] ?_;(iterate 20 (refine tkS rfl (by kernel_rfl) (fun _ _ _=>id) (by rfl) (by intro w h;(try dsimp only at h);go_simp;try rfl) uQ ?_;try simp only[Act.put,tkA,tk0,tk1]));refine tkE ?_;refine wR 26 rfl (by kernel_rfl) (fun K hK=>?_);(try dsimp only at uQ);go_simp;(go_at_call 55;refine(Bh.out _ (ac uY.out uQ.2.2.2.2.2.2.2.2)).mono ?_;rintro e w5 ⟨rfl,hbk⟩)
     refine hK.out _ _ ?_ ?_
     ·(try dsimp only);(go_split_ands;first|exact u7.out _ (by assumption)|exact u7.out _ (Below.drew (by assumption))|exact u7.out _ (ac (by assumption) (by assumption)))
     clear hK K uQ;intro uQ;clear hbk;refine tkI [27,28] ?_;(iterate 2 (refine tkS rfl (by kernel_rfl) (fun _ _ _=>id) (by rfl) (by intro w h;(try dsimp only at h);go_simp;try rfl) uQ ?_;try simp only[Act.put,tkA,tk0,tk1]));refine tkE ?_;refine wpAnyH_done (by kernel_rfl) ?_ _;(try dsimp only at uQ);have vL:=zH (ac uY.out uQ.2.2.2.2.2.2.2.2);clear uQ;go_wp2;go_roundg (gk - 1)
     case measure=>omega
     case rel=>exact⟨j+1+1,by omega,by go_num,HY,vL⟩
  ·obtain rfl:k=l.length:=by omega
   have QL:=zH (o7 HM.out);obtain⟨c0,c1⟩:=uR.out _ vB.out;have BK:w.heap.size<wr.heap.size:=World.block_lt_of_cell? wr _ c0;go_wp2_with fail
   refine(lm next _ _ cap l 1 _ (H.out.step vB.out) QL.out (by rw[Oi.out];omega) (by omega)).mono ?_;rintro e w3 ⟨g,c,out,rfl,hout,hrd,hol,hb⟩;have EW:=zH (oS out hout);have HB3:=zH (ac vB.out hb);have yQ:=zH (hrd.alloc (.cells #[.slice g out.length c] 40));have HG:Hid ((w3.alloc (.cells #[.slice g out.length c] 40)).cell? ⟨w3.heap.size,0,none⟩=some (.slice g out.length c)):=zH (by go_simp);have vX:=zH (ac HB3.out (az w3 (.cells #[.slice g out.length c] 40)));clear hout hrd hb c0 c1;obtain⟨c0,c1⟩:=uR.out _ vX.out;have hz3:w.heap.size<(w3.alloc (.cells #[.slice g out.length c] 40)).heap.size:=World.block_lt_of_cell? _ _ c0;have vo:Hid (bQ next l=fP l):=zH (by unfold bQ;rw[Oh.out,HM.out];rfl);have Hq:Hid ((!l.tail.any (fun x => !decide (x.id∈out)))=bQ next l):=zH (by
    rw[vo.out,Bool.eq_iff_iff,EW.out];simp)
   have hc1:(1:Int)<=(cap:Int):=by omega
   have L6:=zH (rX (H.out.step vX.out) Pi);by_cases hcap:cap=1
   ·subst hcap;have Hr:Hid (VolRd (w3.alloc (.cells #[.slice g out.length c] 40)) (some ⟨b,off,none⟩) 0 0 l.tail):=zH (by have:=L6.out;rw[if_pos rfl,show l.length - 1=0 from by omega] at this;exact this);go_wp2_with fail
    refine(lO _ _ _ l.tail w3.heap.size g c out _ Hr.out HG.out yQ.out).mono ?_;rintro e w5 ⟨rfl,hb⟩;have vg:=zH (ac vX.out hb);clear hb;have vI:=zH (ac HB.out vg.out);obtain⟨qv,Ht⟩:∃q,q=l.tail.any (fun x => !decide (x.id∈out)):=⟨_,rfl⟩;rw[←Ht];have Hu:Hid ((!qv)=bQ next l):=zH (by rw[Ht];exact Hq.out);clear Ht;go_wp2;go_ret;exact⟨ah Hu.out,vI.out⟩
   ·have Hr:Hid (VolRd (w3.alloc (.cells #[.slice g out.length c] 40)) (some ⟨b,off+5,none⟩) (l.length - 1) (cap - 1) l.tail):=zH (by have:=L6.out;rw[if_neg hcap] at this;exact this);have Pj:¬cap=1:=hcap;go_wp2_with fail
    refine(lO _ _ _ l.tail w3.heap.size g c out _ Hr.out HG.out yQ.out).mono ?_;rintro e w5 ⟨rfl,hb⟩;have vg:=zH (ac vX.out hb);clear hb;have vI:=zH (ac HB.out vg.out);obtain⟨qv,Ht⟩:∃q,q=l.tail.any (fun x => !decide (x.id∈out)):=⟨_,rfl⟩;rw[←Ht];have Hu:Hid ((!qv)=bQ next l):=zH (by rw[Ht];exact Hq.out);clear Ht;go_wp2;go_ret;exact⟨ah Hu.out,vI.out⟩
theorem ic (next:Int)(a:Option Addr)(n cap:Nat)(l:List InoL)(w:World)(hr:VolRd w a n cap l)(hs:∀x∈l,∀s∈x.ents,s.name.size<=1073741824)(ht:(gW l:Int)<=4611686018427387904) :
  Calls Tryz.prog 17 #[.agg #[.int .i64 next,.slice a n cap]] w fun e w'=>e=.returned (.bool (bQ next l))/\Below w.heap.size w w':=by
 have hl:l.length=n:=hr.len;subst hl;have hm:=hr.room;have HS:=zH hs;have Dh:Hid (∀id,(aD l id:Int)<=4611686018427387904):=zH (fun id=>by have:=ij l id;omega);have HB:=zH (az w (.cells #[.int .i64 next,.slice a l.length cap] 26));have H:=zH (hr.step HB.out);obtain⟨c0,c1⟩:=gZ w 26 (.int .i64 next) (.slice a l.length cap);clear hr hs ht;go_enter Tryz.func17,Tryz.ntmps17
 go_upto_region 1 with fail
 have hw0:w.heap.size<(w.alloc (.cells #[.int .i64 next,.slice a l.length cap] 26)).heap.size:=by simp
 generalize w.alloc (.cells #[.int .i64 next,.slice a l.length cap] 26)=w1 at *;have uR:Hid (∀W,Below w1.heap.size w1 W->(W.cell? ⟨w.heap.size,0,none⟩=some (.int .i64 next)/\W.cell? ⟨w.heap.size,1,none⟩=some (.slice a l.length cap))):=zH (fun W hW=>⟨af c0 hW,af c1 hW⟩);by_cases h1:2<=next/\next<=100000
 rotate_left
 ·have HR:Hid (bQ next l=false):=zH (dR (pA h1));replace h1:next<2∨100000<next:=by omega
  go_wp2_with (first|(go_at_call 39;(first|refine(ao _ _ _ _ (by omega) (by omega)).mono ?_|refine(aG _ _ _ _ (by omega)).mono ?_);rintro e w' ⟨rfl,rfl⟩))
  go_ret;exact⟨ah HR.out.symm,HB.out⟩
 have Dj:=zH h1;obtain⟨h1a,h1b⟩:=h1;by_cases h2:1<=l.length/\l.length<=16
 rotate_left
 ·have HR:Hid (bQ next l=false):=zH (dR (pW h2));replace h2:(l.length:Int)<1∨16<(l.length:Int):=by omega
  go_wp2_with (first|(go_at_call 39;(first|refine(ao _ _ _ _ (by omega) (by omega)).mono ?_|refine(aG _ _ _ _ (by omega)).mono ?_);rintro e w' ⟨rfl,rfl⟩))
  go_ret;exact⟨ah HR.out.symm,HB.out⟩
 have yf:=zH h2;obtain⟨Pi,QH⟩:=h2;have h20:0<l.length:=by omega
 have QI:(1:Int)<=(l.length:Int):=by omega
 have QJ:(l.length:Int)<=16:=by omega
 have QK:(0:Int)<(l.length:Int):=by omega
 obtain⟨b,off,ad0,ca0,rfl,hbs,d0,d1,d2,d3,d4,hrd⟩:=bF H.out 0 h20;rw[Nat.zero_mul,Nat.add_zero] at d0 d1;clear hrd d2 d3 d4;by_cases h3:l[0].id=1
 rotate_left
 ·have HR:Hid (bQ next l=false):=zH (dR (pC h20 h3));have Oe:(l[0].id != 1)=true:=by simp[h3]
  clear h3;generalize l[0].id=q0 at *;go_wp2_with (first|(go_at_call 39;(first|refine(ao _ _ _ _ (by omega) (by omega)).mono ?_|refine(aG _ _ _ _ (by omega)).mono ?_);rintro e w' ⟨rfl,rfl⟩))
  go_ret;exact⟨ah HR.out.symm,HB.out⟩
 have Oe:(l[0].id != 1)=false:=by simp[h3]
 by_cases h4:l[0].kind=2
 rotate_left
 ·have HR:Hid (bQ next l=false):=zH (dR (pX h20 h4));have Og:(l[0].kind != 2)=true:=by simp[h4]
  clear h3 h4;generalize l[0].id=q0 at *;generalize l[0].kind=q1 at *;go_wp2_with (first|(go_at_call 39;(first|refine(ao _ _ _ _ (by omega) (by omega)).mono ?_|refine(aG _ _ _ _ (by omega)).mono ?_);rintro e w' ⟨rfl,rfl⟩))
  go_ret;exact⟨ah HR.out.symm,HB.out⟩
 have Og:(l[0].kind != 2)=false:=by simp[h4]
 have Oh:Hid (fe next l=true):=zH (ly h20 Dj.out yf.out h3 h4);have Oi:Hid (atF l 1=0):=zH (pO h20 h3);clear h3 h4;generalize l[0].id=q0 at *;generalize l[0].kind=q1 at *;go_upto_region 3 with (first|(go_at_call 39;(first|refine(ao _ _ _ _ (by omega) (by omega)).mono ?_|refine(aG _ _ _ _ (by omega)).mono ?_);rintro e w' ⟨rfl,rfl⟩))
 go_wp2;clear c0 c1 d0 d1;go_loopg [3] l.length (fun gg i wr => ∃k:Nat,k+gg=l.length/\i=.int .i64 (k:Int)/\Hid (eE next l k=true)/\Hid (Below w1.heap.size w1 wr))
 case atStart=>exact⟨0,by omega,rfl,zH (kR next l),zH zB⟩
 case round=>as_aux_lemma =>
  obtain⟨k,hk,rfl,HM,vB⟩:=hrel;by_cases hlt:k<l.length
  ·skip
   obtain⟨b',off',ad,c,e,Hm,d0,d1,d2,d3,d4,hrd⟩:=bF H.out k hlt;cases e;replace d0:=af d0 vB.out;replace d1:=af d1 vB.out;replace d2:=af d2 vB.out;replace d3:=af d3 vB.out;replace d4:=af d4 vB.out;obtain⟨c0,c1⟩:=uR.out _ vB.out;have BK:w.heap.size<wr.heap.size:=World.block_lt_of_cell? wr _ c0;have hbr:b<wr.heap.size:=World.block_lt_of_cell? wr _ d0;have hi:(k:Int)<(l.length:Int):=by omega
   have hi0:(0:Int)<=(k:Int):=by omega
   have hnw:IntKind.i64.wrap (next - 1)=next - 1:=IntWalk.i64_in _ ⟨by omega,by omega⟩
   have Bh:Hid (∀W,Below w1.heap.size w1 W->Calls Tryz.prog 40 #[.agg #[.int .i64 next,.slice (some ⟨b,off,none⟩) l.length cap],.agg #[.int .i64 l[k].id,.int .i64 l[k].kind,.int .i64 l[k].links,.string l[k].data,.slice ad l[k].ents.length c]] W fun e w'=>e=.returned (.bool (bJ l l[k]))/\Below W.heap.size W w'):=zH (fun W hW=>jN next _ _ cap l l[k] ad c W (H.out.step hW) (hrd.below hW zN) (HS.out _ (List.getElem_mem hlt)) (Dh.out _));have xP:Hid (dV next l k=false->bQ next l=false):=zH (fun h=>n8 hlt h);have Eo:Hid (dV next l k=true->eE next l (k+1)=true):=zH (fun h=>by rw[kI,HM.out,h];rfl);have HR1:Hid (¬(1<=l[k].id/\l[k].id<=next - 1)->dV next l k=false):=zH (fun h=>sP hlt h);have HR3:Hid (k=0->(1<=l[k].id/\l[k].id<=next - 1)->dV next l k=bJ l l[k]):=zH (fun h h2=>by subst h;exact rx hlt h2);have zi:Hid (∀j (hj:j<l.length),k=j+1->∃p0,w1.cell? ⟨b,off+j*5,none⟩=some (.int .i64 p0)/\(¬p0<l[k].id->dV next l k=false)/\((1<=l[k].id/\l[k].id<=next - 1)->p0<l[k].id->dV next l k=bJ l l[k])):=zH (fun j hj e=>by
    obtain⟨b2,off2,ad2,cp2,e2,-,p0,-⟩:=bF H.out j hj;cases e2;subst e;exact⟨_,p0,fun h=>rF hlt h,fun h1 h2=>sA hlt h1 h2⟩)
   clear hrd;generalize bJ l l[k]=ib at *;generalize l[k].id=x0 at *;generalize l[k].kind=x1 at *;generalize l[k].links=x2 at *;generalize l[k].data=x3 at *;generalize l[k].ents.length=x4 at *;have Ho:=zH hlt;clear hlt;have uY:=vB;have Cx:=zH (fun W (hW:Below wr.heap.size wr W)=>And.intro (af c0 hW) (And.intro (af c1 hW) (And.intro (af d0 hW) (And.intro (af d1 hW) (And.intro (af d2 hW) (And.intro (af d3 hW) (And.intro (af d4 hW) hW)))))));have hB0:=Below.refl wr.heap.size wr;by_cases hin:1<=x0/\x0<=next - 1
   rotate_left
   ·have HR:Hid (bQ next l=false):=zH (xP.out (HR1.out hin));have xz:Hid (x0<1∨next - 1<x0):=zH (by omega);have u7:Hid (∀W,Below wr.heap.size wr W->(W.cell? ⟨w.heap.size,0,none⟩=some (.int .i64 next)/\W.cell? ⟨w.heap.size,1,none⟩=some (.slice (some ⟨b,off,none⟩) l.length cap)/\W.cell? ⟨b,off+k*5,none⟩=some (.int .i64 x0)/\W.cell? ⟨b,off+k*5+1,none⟩=some (.int .i64 x1)/\W.cell? ⟨b,off+k*5+2,none⟩=some (.int .i64 x2)/\W.cell? ⟨b,off+k*5+3,none⟩=some (.string x3)/\W.cell? ⟨b,off+k*5+4,none⟩=some (.slice ad x4 c)/\Below wr.heap.size wr W)):=zH (fun W hW=>by
     obtain⟨k0,k1,k2,k3,k4,k5,k6,k7⟩:=Cx.out W hW;skip
     exact⟨k0,k1,k2,k3,k4,k5,k6,hW⟩)
    clear hin;go_wp2;refine tkB u7 41 rfl (by kernel_rfl) (by first|exact zB|assumption) (fun uQ=>?_);simp only[List.replicate];clear hB0;refine tkI [0,1,2,3,4,5,6,7,8] ?_;(iterate 9 (refine tkS rfl (by kernel_rfl) (fun _ _ _=>id) (by rfl) (by intro w h;(try dsimp only at h);go_simp;try rfl) uQ ?_;try simp only[Act.put,tkA,tk0,tk1]));refine tkE ?_;refine wR 9 rfl (by kernel_rfl) (fun K hK=>?_);(try dsimp only at uQ);go_simp;(go_at_call 39;refine(aG _ _ _ _ xz.out).mono ?_;rintro e w' ⟨rfl,rfl⟩)
    refine hK.out _ _ ?_ ?_
    ·(try dsimp only);(go_split_ands;first|exact u7.out _ (by assumption)|exact u7.out _ (Below.drew (by assumption))|exact u7.out _ (ac (by assumption) (by assumption)))
    clear hK K uQ;intro uQ;refine tkI [10,11] ?_;(iterate 2 (refine tkS rfl (by kernel_rfl) (fun _ _ _=>id) (by rfl) (by intro w h;(try dsimp only at h);go_simp;try rfl) uQ ?_;try simp only[Act.put,tkA,tk0,tk1]));refine tkE ?_;refine tkI [12,13,14,15,16,17,18,19,20,21,22,23,24,25,26,27,28,29] ?_;(iterate 18 (refine tkO rfl (by kernel_rfl) (fun _ _ _=>id) (by rfl) uQ ?_;try simp only[Act.put,tkA,tk0,tk1]));refine tkE ?_;refine tkI [30,31] ?_;(iterate 2 (refine tkS rfl (by kernel_rfl) (fun _ _ _=>id) (by rfl) (by intro w h;(try dsimp only at h);go_simp;try rfl) uQ ?_;try simp only[Act.put,tkA,tk0,tk1]));refine tkE ?_;refine tkI [32,33,34,35,36,37,38,39] ?_;(iterate 8 (refine tkO rfl (by kernel_rfl) (fun _ _ _=>id) (by rfl) uQ ?_;try simp only[Act.put,tkA,tk0,tk1]));refine tkE ?_;refine tkI [40] ?_;(iterate 1 (refine tkS rfl (by kernel_rfl) (fun _ _ _=>id) (by rfl) (by intro w h;(try dsimp only at h);go_simp;try rfl) uQ ?_;try simp only[Act.put,tkA,tk0,tk1]));refine tkE ?_;refine wpAnyH_done (by kernel_rfl) ?_ _;(try dsimp only at uQ);have vL:=zH (ac uY.out uQ.2.2.2.2.2.2.2);clear uQ;have vI:=zH (ac HB.out vL.out);go_wp2;go_ret;exact⟨ah HR.out.symm,vI.out⟩
   have xz:=zH hin;clear hin;rcases Nat.eq_zero_or_pos k with hk0|hk0
   ·have y7:Hid (dV next l k=ib):=zH (HR3.out hk0 xz.out);subst hk0;clear zi HR1 HR3;have u7:Hid (∀W,Below wr.heap.size wr W->(W.cell? ⟨w.heap.size,0,none⟩=some (.int .i64 next)/\W.cell? ⟨w.heap.size,1,none⟩=some (.slice (some ⟨b,off,none⟩) l.length cap)/\W.cell? ⟨b,off,none⟩=some (.int .i64 x0)/\W.cell? ⟨b,off+1,none⟩=some (.int .i64 x1)/\W.cell? ⟨b,off+2,none⟩=some (.int .i64 x2)/\W.cell? ⟨b,off+3,none⟩=some (.string x3)/\W.cell? ⟨b,off+4,none⟩=some (.slice ad x4 c)/\Below wr.heap.size wr W)):=zH (fun W hW=>by
     obtain⟨k0,k1,k2,k3,k4,k5,k6,k7⟩:=Cx.out W hW;simp only[Nat.zero_mul,Nat.add_zero] at k2 k3 k4 k5 k6;exact⟨k0,k1,k2,k3,k4,k5,k6,hW⟩)
    have O7:((0:Int)<((0:Nat):Int))=False:=eq_false (by omega);have x9:=y7;skip
    cases ib with
    | false =>
     have HR:Hid (bQ next l=false):=zH (xP.out y7.out);go_wp2;refine tkB u7 41 rfl (by kernel_rfl) (by first|exact zB|assumption) (fun uQ=>?_);simp only[List.replicate];clear hB0;refine tkI [0,1,2,3,4,5,6,7,8] ?_;(iterate 9 (refine tkS rfl (by kernel_rfl) (fun _ _ _=>id) (by rfl) (by intro w h;(try dsimp only at h);go_simp;try rfl) uQ ?_;try simp only[Act.put,tkA,tk0,tk1]));refine tkE ?_;refine wR 9 rfl (by kernel_rfl) (fun K hK=>?_);(try dsimp only at uQ);go_simp;(go_at_call 39;refine(ao _ _ _ _ xz.out.1 xz.out.2).mono ?_;rintro e w' ⟨rfl,rfl⟩)
     refine hK.out _ _ ?_ ?_
     ·(try dsimp only);(go_split_ands;first|exact u7.out _ (by assumption)|exact u7.out _ (Below.drew (by assumption))|exact u7.out _ (ac (by assumption) (by assumption)))
     clear hK K uQ;intro uQ;refine tkI [10,11,12,13,14] ?_;(iterate 5 (refine tkS rfl (by kernel_rfl) (fun _ _ _=>id) (by rfl) (by intro w h;(try dsimp only at h);go_simp;try rfl) uQ ?_;try simp only[Act.put,tkA,tk0,tk1]));refine tkE ?_;refine tkI [15,16,17,18,19,20,21,22,23,24,25,26,27,28] ?_;(iterate 14 (refine tkO rfl (by kernel_rfl) (fun _ _ _=>id) (by rfl) uQ ?_;try simp only[Act.put,tkA,tk0,tk1]));refine tkE ?_;refine tkI [29,30,31,32,33,34,35,36,37] ?_;(iterate 9 (refine tkS rfl (by kernel_rfl) (fun _ _ _=>id) (by rfl) (by intro w h;(try dsimp only at h);go_simp;try rfl) uQ ?_;try simp only[Act.put,tkA,tk0,tk1]));refine tkE ?_;refine wR 38 rfl (by kernel_rfl) (fun K hK=>?_);(try dsimp only at uQ);go_simp;(go_at_call 40;refine(Bh.out _ (ac uY.out uQ.2.2.2.2.2.2.2)).mono ?_;rintro e w5 ⟨rfl,hbk⟩)
     refine hK.out _ _ ?_ ?_
     ·(try dsimp only);(go_split_ands;first|exact u7.out _ (by assumption)|exact u7.out _ (Below.drew (by assumption))|exact u7.out _ (ac (by assumption) (by assumption)))
     clear hK K uQ;intro uQ;clear hbk;refine tkI [39,40] ?_;(iterate 2 (refine tkS rfl (by kernel_rfl) (fun _ _ _=>id) (by rfl) (by intro w h;(try dsimp only at h);go_simp;try rfl) uQ ?_;try simp only[Act.put,tkA,tk0,tk1]));refine tkE ?_;refine wpAnyH_done (by kernel_rfl) ?_ _;(try dsimp only at uQ);have vL:=zH (ac uY.out uQ.2.2.2.2.2.2.2);clear uQ;have vI:=zH (ac HB.out vL.out);go_wp2;go_ret;exact⟨ah HR.out.symm,vI.out⟩
    | true =>
     have HY:=zH (Eo.out y7.out);go_wp2;refine tkB u7 41 rfl (by kernel_rfl) (by first|exact zB|assumption) (fun uQ=>?_);simp only[List.replicate];clear hB0;refine tkI [0,1,2,3,4,5,6,7,8] ?_;(iterate 9 (refine tkS rfl (by kernel_rfl) (fun _ _ _=>id) (by rfl) (by intro w h;(try dsimp only at h);go_simp;try rfl) uQ ?_;try simp only[Act.put,tkA,tk0,tk1]));refine tkE ?_;refine wR 9 rfl (by kernel_rfl) (fun K hK=>?_);(try dsimp only at uQ);go_simp;(go_at_call 39;refine(ao _ _ _ _ xz.out.1 xz.out.2).mono ?_;rintro e w' ⟨rfl,rfl⟩)
     refine hK.out _ _ ?_ ?_
     ·(try dsimp only);(go_split_ands;first|exact u7.out _ (by assumption)|exact u7.out _ (Below.drew (by assumption))|exact u7.out _ (ac (by assumption) (by assumption)))
     clear hK K uQ;intro uQ;refine tkI [10,11,12,13,14] ?_;(iterate 5 (refine tkS rfl (by kernel_rfl) (fun _ _ _=>id) (by rfl) (by intro w h;(try dsimp only at h);go_simp;try rfl) uQ ?_;try simp only[Act.put,tkA,tk0,tk1]));refine tkE ?_;refine tkI [15,16,17,18,19,20,21,22,23,24,25,26,27,28] ?_;(iterate 14 (refine tkO rfl (by kernel_rfl) (fun _ _ _=>id) (by rfl) uQ ?_;try simp only[Act.put,tkA,tk0,tk1]));refine tkE ?_;refine tkI [29,30,31,32,33,34,35,36,37] ?_;(iterate 9 (refine tkS rfl (by kernel_rfl) (fun _ _ _=>id) (by rfl) (by intro w h;(try dsimp only at h);go_simp;try rfl) uQ ?_;try simp only[Act.put,tkA,tk0,tk1]));refine tkE ?_;refine wR 38 rfl (by kernel_rfl) (fun K hK=>?_);(try dsimp only at uQ);go_simp;(go_at_call 40;refine(Bh.out _ (ac uY.out uQ.2.2.2.2.2.2.2)).mono ?_;rintro e w5 ⟨rfl,hbk⟩)
     refine hK.out _ _ ?_ ?_
     ·(try dsimp only);(go_split_ands;first|exact u7.out _ (by assumption)|exact u7.out _ (Below.drew (by assumption))|exact u7.out _ (ac (by assumption) (by assumption)))
     clear hK K uQ;intro uQ;clear hbk;refine tkI [39,40] ?_;(iterate 2 (refine tkS rfl (by kernel_rfl) (fun _ _ _=>id) (by rfl) (by intro w h;(try dsimp only at h);go_simp;try rfl) uQ ?_;try simp only[Act.put,tkA,tk0,tk1]));refine tkE ?_;refine wpAnyH_done (by kernel_rfl) ?_ _;(try dsimp only at uQ);have vL:=zH (ac uY.out uQ.2.2.2.2.2.2.2);clear uQ;go_wp2;go_roundg (gk - 1)
     case measure=>omega
     case rel=>exact⟨1,by omega,by go_num,HY,vL⟩
   ·obtain⟨j,rfl⟩:∃j,k=j+1:=⟨k - 1,by omega⟩;obtain⟨p0,PV0,PV1,PV2⟩:=zi.out j (by have:=Ho.out;omega) rfl;have hjl:(j:Int)<(l.length:Int):=by omega
    have hj0:(0:Int)<=(j:Int):=by omega
    have Iu:IntKind.i64.wrap ((j:Int)+1 - 1)=(j:Int):=by rw[Int.add_sub_cancel];exact IntWalk.i64_in _ ⟨by omega,by omega⟩
    have Gi:IntKind.i64.wrap (j:Int)=(j:Int):=IntWalk.i64_in _ ⟨by omega,by omega⟩;have hkp:((0:Int)<(j:Int)+1)=True:=eq_true (by omega);rw[show ((j+1:Nat):Int)=(j:Int)+1 from by omega] at *;have u7:Hid (∀W,Below wr.heap.size wr W->(W.cell? ⟨w.heap.size,0,none⟩=some (.int .i64 next)/\W.cell? ⟨w.heap.size,1,none⟩=some (.slice (some ⟨b,off,none⟩) l.length cap)/\W.cell? ⟨b,off+(j+1)*5,none⟩=some (.int .i64 x0)/\W.cell? ⟨b,off+(j+1)*5+1,none⟩=some (.int .i64 x1)/\W.cell? ⟨b,off+(j+1)*5+2,none⟩=some (.int .i64 x2)/\W.cell? ⟨b,off+(j+1)*5+3,none⟩=some (.string x3)/\W.cell? ⟨b,off+(j+1)*5+4,none⟩=some (.slice ad x4 c)/\W.cell? ⟨b,off+j*5,none⟩=some (.int .i64 p0)/\Below wr.heap.size wr W)):=zH (fun W hW=>by
     obtain⟨k0,k1,k2,k3,k4,k5,k6,k7⟩:=Cx.out W hW;skip
     exact⟨k0,k1,k2,k3,k4,k5,k6,af (af PV0 uY.out) hW,hW⟩)
    by_cases hlt2:p0<x0
    rotate_left
    ·have HR:Hid (bQ next l=false):=zH (xP.out (PV1 hlt2));have hge:(x0<=p0)=True:=eq_true (by omega);clear PV0 PV1 PV2 zi HR1 HR3 hlt2;go_wp2;refine tkB u7 41 rfl (by kernel_rfl) (by first|exact zB|assumption) (fun uQ=>?_);simp only[List.replicate];clear hB0;refine tkI [0,1,2,3,4,5,6,7,8] ?_;(iterate 9 (refine tkS rfl (by kernel_rfl) (fun _ _ _=>id) (by rfl) (by intro w h;(try dsimp only at h);go_simp;try rfl) uQ ?_;try simp only[Act.put,tkA,tk0,tk1]));refine tkE ?_;refine wR 9 rfl (by kernel_rfl) (fun K hK=>?_);(try dsimp only at uQ);go_simp;(go_at_call 39;refine(ao _ _ _ _ xz.out.1 xz.out.2).mono ?_;rintro e w' ⟨rfl,rfl⟩)
     refine hK.out _ _ ?_ ?_
     ·(try dsimp only);(go_split_ands;first|exact u7.out _ (by assumption)|exact u7.out _ (Below.drew (by assumption))|exact u7.out _ (ac (by assumption) (by assumption)))
     clear hK K uQ;intro uQ;refine tkI [10,11,12,13,14,15,16,17,18,19,20,21,22,23,24,25,26,27,28,29,30,31] ?_;(iterate 22 (refine tkS rfl (by kernel_rfl) (fun _ _ _=>id) (by rfl) (by intro w h;(try dsimp only at h);go_simp;try rfl) uQ ?_;try simp only[Act.put,tkA,tk0,tk1]));refine tkE ?_;refine tkI [32,33,34,35,36,37,38,39] ?_;(iterate 8 (refine tkO rfl (by kernel_rfl) (fun _ _ _=>id) (by rfl) uQ ?_;try simp only[Act.put,tkA,tk0,tk1]));refine tkE ?_;refine tkI [40] ?_;(iterate 1 (refine tkS rfl (by kernel_rfl) (fun _ _ _=>id) (by rfl) (by intro w h;(try dsimp only at h);go_simp;try rfl) uQ ?_;try simp only[Act.put,tkA,tk0,tk1]));refine tkE ?_;refine wpAnyH_done (by kernel_rfl) ?_ _;(try dsimp only at uQ);have vL:=zH (ac uY.out uQ.2.2.2.2.2.2.2.2);clear uQ;have vI:=zH (ac HB.out vL.out);go_wp2;go_ret;exact⟨ah HR.out.symm,vI.out⟩
    have y7:Hid (dV next l (j+1)=ib):=zH (PV2 xz.out hlt2);have hge:(x0<=p0)=False:=eq_false (by omega);clear PV0 PV1 PV2 zi HR1 HR3 hlt2;have x9:=y7;skip
    cases ib with
    | false =>
     have HR:Hid (bQ next l=false):=zH (xP.out y7.out);go_wp2;refine tkB u7 41 rfl (by kernel_rfl) (by first|exact zB|assumption) (fun uQ=>?_);simp only[List.replicate];clear hB0;refine tkI [0,1,2,3,4,5,6,7,8] ?_;(iterate 9 (refine tkS rfl (by kernel_rfl) (fun _ _ _=>id) (by rfl) (by intro w h;(try dsimp only at h);go_simp;try rfl) uQ ?_;try simp only[Act.put,tkA,tk0,tk1]));refine tkE ?_;refine wR 9 rfl (by kernel_rfl) (fun K hK=>?_);(try dsimp only at uQ);go_simp;(go_at_call 39;refine(ao _ _ _ _ xz.out.1 xz.out.2).mono ?_;rintro e w' ⟨rfl,rfl⟩)
     refine hK.out _ _ ?_ ?_
     ·(try dsimp only);(go_split_ands;first|exact u7.out _ (by assumption)|exact u7.out _ (Below.drew (by assumption))|exact u7.out _ (ac (by assumption) (by assumption)))
     clear hK K uQ;intro uQ;refine tkI [10,11,12,13,14,15,16,17,18,19,20,21,22,23,24,25,26,27,28,29,30,31,32,33,34,35,36,37] ?_;(iterate 28 (refine tkS rfl (by kernel_rfl) (fun _ _ _=>id) (by rfl) (by intro w h;(try dsimp only at h);go_simp;try rfl) uQ ?_;try simp only[Act.put,tkA,tk0,tk1]));refine tkE ?_;refine wR 38 rfl (by kernel_rfl) (fun K hK=>?_);(try dsimp only at uQ);go_simp;(go_at_call 40;refine(Bh.out _ (ac uY.out uQ.2.2.2.2.2.2.2.2)).mono ?_;rintro e w5 ⟨rfl,hbk⟩)
     refine hK.out _ _ ?_ ?_
     ·(try dsimp only);(go_split_ands;first|exact u7.out _ (by assumption)|exact u7.out _ (Below.drew (by assumption))|exact u7.out _ (ac (by assumption) (by assumption)))
     clear hK K uQ;intro uQ;clear hbk;refine tkI [39,40] ?_;(iterate 2 (refine tkS rfl (by kernel_rfl) (fun _ _ _=>id) (by rfl) (by intro w h;(try dsimp only at h);go_simp;try rfl) uQ ?_;try simp only[Act.put,tkA,tk0,tk1]));refine tkE ?_;refine wpAnyH_done (by kernel_rfl) ?_ _;(try dsimp only at uQ);have vL:=zH (ac uY.out uQ.2.2.2.2.2.2.2.2);clear uQ;have vI:=zH (ac HB.out vL.out);go_wp2;go_ret;exact⟨ah HR.out.symm,vI.out⟩
    | true =>
     have HY:=zH (Eo.out y7.out);go_wp2;refine tkB u7 41 rfl (by kernel_rfl) (by first|exact zB|assumption) (fun uQ=>?_);simp only[List.replicate];clear hB0;refine tkI [0,1,2,3,4,5,6,7,8] ?_;(iterate 9 (refine tkS rfl (by kernel_rfl) (fun _ _ _=>id) (by rfl) (by intro w h;(try dsimp only at h);go_simp;try rfl) uQ ?_;try simp only[Act.put,tkA,tk0,tk1]));refine tkE ?_;refine wR 9 rfl (by kernel_rfl) (fun K hK=>?_);(try dsimp only at uQ);go_simp;(go_at_call 39;refine(ao _ _ _ _ xz.out.1 xz.out.2).mono ?_;rintro e w' ⟨rfl,rfl⟩)
     refine hK.out _ _ ?_ ?_
     ·(try dsimp only);(go_split_ands;first|exact u7.out _ (by assumption)|exact u7.out _ (Below.drew (by assumption))|exact u7.out _ (ac (by assumption) (by assumption)))
     clear hK K uQ;intro uQ;refine tkI [10,11,12,13,14,15,16,17,18,19,20,21,22,23,24,25,26,27,28,29,30,31,32,33,34,35,36,37] ?_;(iterate 28 (refine tkS rfl (by kernel_rfl) (fun _ _ _=>id) (by rfl) (by intro w h;(try dsimp only at h);go_simp;try rfl) uQ ?_;try simp only[Act.put,tkA,tk0,tk1]));refine tkE ?_;refine wR 38 rfl (by kernel_rfl) (fun K hK=>?_);(try dsimp only at uQ);go_simp;(go_at_call 40;refine(Bh.out _ (ac uY.out uQ.2.2.2.2.2.2.2.2)).mono ?_;rintro e w5 ⟨rfl,hbk⟩)
     refine hK.out _ _ ?_ ?_
     ·(try dsimp only);(go_split_ands;first|exact u7.out _ (by assumption)|exact u7.out _ (Below.drew (by assumption))|exact u7.out _ (ac (by assumption) (by assumption)))
     clear hK K uQ;intro uQ;clear hbk;refine tkI [39,40] ?_;(iterate 2 (refine tkS rfl (by kernel_rfl) (fun _ _ _=>id) (by rfl) (by intro w h;(try dsimp only at h);go_simp;try rfl) uQ ?_;try simp only[Act.put,tkA,tk0,tk1]));refine tkE ?_;refine wpAnyH_done (by kernel_rfl) ?_ _;(try dsimp only at uQ);have vL:=zH (ac uY.out uQ.2.2.2.2.2.2.2.2);clear uQ;go_wp2;go_roundg (gk - 1)
     case measure=>omega
     case rel=>exact⟨j+1+1,by omega,by go_num,HY,vL⟩
  ·obtain rfl:k=l.length:=by omega
   obtain⟨c0,c1⟩:=uR.out _ vB.out;have BK:w.heap.size<wr.heap.size:=World.block_lt_of_cell? wr _ c0;go_wp2_with fail
   refine(di next _ _ cap l 1 _ (H.out.step vB.out) (by rw[Oi.out];omega) (by omega)).mono ?_;rintro e w3 ⟨g,c,inn,rfl,hil,hmk,hrd,hb⟩;have EW:=zH (mr HM.out inn hmk);have HB3:=zH (ac vB.out hb);have yQ:=zH hrd;have Oj:=zH hil;have vo:Hid (bQ next l=fP l):=zH (by unfold bQ;rw[Oh.out,HM.out];rfl);clear hmk hrd hb c0 c1 hil HM;go_wp2;go_loopg [5] (l.length - 1) (fun gg i wr => ∃k:Nat,k+gg=l.length/\i=.int .i64 (k:Int)/\1<=k/\Hid (∀x,1<=x->x<k->mk inn x=true)/\wr=w3)
   case atStart=>exact⟨1,by omega,rfl,by omega,zH (fun x h1 h2=>by omega),rfl⟩
   case round=>as_aux_lemma =>
    obtain⟨m,hm1,rfl,hm2,Pk,rfl⟩:=hrel;by_cases yg:m<l.length
    ·obtain⟨b2,off2,e2,hlt2,hc⟩:=yQ.out.at' (by omega);cases e2;have hc0:=hc m (by have:=Oj.out;simp;omega);rw[pR inn m (by have:=Oj.out;omega),mt inn m (by have:=Oj.out;omega),Nat.zero_add] at hc0;have OX:(m:Int)<(l.length:Int):=by omega
     have ND:(0:Int)<=(m:Int):=by omega
     have zK:Hid (mk inn m=true->∀x,1<=x->x<m+1->mk inn x=true):=zH (fun h x h1 h2=>by
      by_cases e:x=m
      ·subst e;exact h
      ·exact Pk.out x h1 (by omega))
     have MU:Hid (mk inn m=false->bQ next l=false):=zH (fun h=>by
      rw[vo.out,←Bool.not_eq_true,EW.out];intro h2;rw[h2 m hm2 yg] at h;cases h)
     clear hc;generalize mk inn m=q at *;cases q with
     | true =>
      have xR:=zH (zK.out rfl);go_wp2;go_roundg (gk - 1)
      case measure=>omega
      case rel=>exact⟨m+1,by omega,by go_num,by omega,xR,rfl⟩
     | false =>
      have HR:=zH (MU.out rfl);have vI:=zH (ac HB.out HB3.out);go_wp2;go_ret;exact⟨ah HR.out.symm,vI.out⟩
    ·have HR:Hid (bQ next l=true):=zH (by rw[vo.out,EW.out];intro x h1 h2;exact Pk.out x h1 (by omega));have vI:=zH (ac HB.out HB3.out);have OX:¬(m:Int)<(l.length:Int):=by omega
     go_wp2;go_ret;exact⟨ah HR.out.symm,vI.out⟩
end Go.Proofs.YtlkfabkkjfmnmaaGreatDoor
