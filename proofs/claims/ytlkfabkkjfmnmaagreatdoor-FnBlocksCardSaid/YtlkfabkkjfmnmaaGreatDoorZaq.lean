import Derived.Test.YtlkfabkkjfmnmaaGreatDoorZal
import Derived.Test.YtlkfabkkjfmnmaaGreatDoorZam
import Derived.Deep.DeepCutAuto
namespace Go.Proofs.YtlkfabkkjfmnmaaGreatDoor
open Go.RowKit
set_option linter.all false
set_option maxRecDepth 1000000
set_option maxHeartbeats 6000000
theorem gZ (w:World)(e:TypeId)(u0 u1:Value):(w.alloc (.cells #[u0,u1] e)).cell? ⟨w.heap.size,0,none⟩=some u0/\(w.alloc (.cells #[u0,u1] e)).cell? ⟨w.heap.size,1,none⟩=some u1:=by
 go_simp
theorem lu (es:List EntL)(id:Int)(k:Nat):bT (es.take k) id<=bT es id:=by
 unfold bT;exact(List.take_sublist k es).countP_le
theorem jA (l:List InoL)(id:Int)(k:Nat):aD (l.take k) id<=aD l id:=by
 have h:aD l id=aD (l.take k) id+aD (l.drop k) id:=by
  unfold aD;rw[←List.sum_append,←List.map_append,List.take_append_drop]
 omega
theorem tw (x:InoL)(ad:Option Addr)(c:Nat)(g:Nat)(id:Int)(w:World)(hg:w.cell? ⟨g,0,none⟩=some (.int .i64 id)) :
  Calls Tryz.prog 116 #[.agg #[.int .i64 x.id,.int .i64 x.kind,.int .i64 x.links,.string x.data,.slice ad x.ents.length c],.pointer (some ⟨g,0,none⟩)] w fun e w'=>e=.returned (.bool (x.id==id))/\Below w.heap.size w w':=by
 have HB:=zH (az w (.cells #[.int .i64 x.id,.int .i64 x.kind,.int .i64 x.links,.string x.data,.slice ad x.ents.length c] 45));have g1:=af hg HB.out;have hgl:g<w.heap.size:=World.block_lt_of_cell? w _ hg;go_enter Tryz.func116,Tryz.ntmps116
 go_wp2;go_ret;exact⟨rfl,HB.out⟩
theorem sD (a:Option Addr)(n cap:Nat)(l:List InoL)(g:Nat)(id:Int)(w:World)(hr:VolRd w a n cap l)(hg:w.cell? ⟨g,0,none⟩=some (.int .i64 id)) :
  Calls Tryz.prog 87 #[.slice a n cap,.func (.func 116) #[] #[.pointer (some ⟨g,0,none⟩)]] w fun e w' => ∃r,e=.returned (.int .i64 r)/\r=atF l id/\Below w.heap.size w w':=by
 have hl:l.length=n:=hr.len;subst hl;have hm:=hr.room;have H:=zH hr;clear hr;have HG:=zH hg;clear hg;go_enter Tryz.func87,Tryz.ntmps87
 go_wp2;go_loopg [8] l.length (fun gg i wr => ∃m:Nat,m+gg=l.length/\i=.int .i64 (m:Int)/\Hid (∀j (hj:j<m) (hl:j<l.length),(l[j].id==id)=false)/\Hid (Below w.heap.size w wr))
 case atStart=>exact⟨0,by omega,rfl,zH (fun j hj=>by omega),zH zB⟩
 case round =>
  obtain⟨m,hm2,rfl,HM,HB2⟩:=hrel;by_cases hlt:m<l.length
  ·obtain⟨b,off,ad,c,rfl,hbs,d0,d1,d2,d3,d4,hrd⟩:=bF (H.out.step HB2.out) m hlt;have HH:Hid ((l[m].id==id)=true->(m:Int)=atF l id):=zH (fun e=>(iO l id m hlt (by simpa using e) (fun j hj=>by have:=HM.out j hj (by omega);simpa using this)).symm);have HN:Hid ((l[m].id==id)=false->∀j (hj:j<m+1) (hl:j<l.length),(l[j].id==id)=false):=zH (fun e j hj hl=>by
    by_cases h:j=m
    ·subst h;exact e
    ·exact HM.out j (by omega) hl)
   have hi:(m:Int)<(l.length:Int):=by omega
   have hi0:(0:Int)<=(m:Int):=by omega
   have Fe:Hid (∀W,Below w.heap.size w W->Calls Tryz.prog 116 #[.agg #[.int .i64 l[m].id,.int .i64 l[m].kind,.int .i64 l[m].links,.string l[m].data,.slice ad l[m].ents.length c],.pointer (some ⟨g,0,none⟩)] W fun e w'=>e=.returned (.bool ((l[m].id==id)))/\Below W.heap.size W w'):=zH (fun W hW=>tw l[m] ad c g id W (af HG.out hW));clear hrd;generalize ((l[m].id==id))=q at *;generalize l[m].id=x0 at *;generalize l[m].kind=x1 at *;generalize l[m].links=x2 at *;generalize l[m].data=x3 at *;generalize l[m].ents.length=x4 at *;cases q with
   | true =>
    have HE:=zH (HH.out rfl);clear HH HN;go_wp2_with (go_at_call 116;refine(Fe.out _ HB2.out).mono ?_;rintro e w3 ⟨rfl,hb⟩;have HB3:=zH (ac HB2.out hb);clear hb)
    go_ret;exact⟨_,rfl,HE.out,HB3.out⟩
   | false =>
    have HE:=zH (HN.out rfl);clear HH HN;go_wp2_with (go_at_call 116;refine(Fe.out _ HB2.out).mono ?_;rintro e w3 ⟨rfl,hb⟩;have HB3:=zH (ac HB2.out hb);clear hb)
    go_roundg (gk - 1)
    case measure=>omega
    case rel=>exact⟨m+1,by omega,by go_num,HE,HB3⟩
  ·have hlm:m=l.length:=by omega
   subst hlm;have HE:Hid ((-1:Int)=atF l id):=zH ((na l id (fun x hx=>by obtain⟨j,hj,rfl⟩:=List.mem_iff_getElem.1 hx;have:=HM.out j hj hj;simpa using this)).symm);go_wp2;go_ret;exact⟨-1,rfl,HE.out,HB2.out⟩
theorem jY (next:Int)(a:Option Addr)(n cap:Nat)(l:List InoL)(id:Int)(w:World)(hr:VolRd w a n cap l) :
  Calls Tryz.prog 86 #[.agg #[.int .i64 next,.slice a n cap],.int .i64 id] w fun e w'=>e=.returned (.int .i64 (atF l id))/\Below w.heap.size w w':=by
 have HB:=zH ((az w (.cells #[.int .i64 next,.slice a n cap] 26)).alloc (by simp) (.cells #[.int .i64 id] 3));have H:=zH (hr.step HB.out);have HG:Hid (((w.alloc (.cells #[.int .i64 next,.slice a n cap] 26)).alloc (.cells #[.int .i64 id] 3)).cell? ⟨w.heap.size+1,0,none⟩=some (.int .i64 id)):=zH (by go_simp);clear hr;go_enter Tryz.func86,Tryz.ntmps86
 go_wp2_with fail
 refine(sD a n cap l (w.heap.size+1) id _ H.out HG.out).mono ?_;rintro e w2 ⟨r,rfl,rfl,hb⟩;have HB2:=zH (ac HB.out hb);clear hb;go_wp2;go_ret;exact⟨rfl,HB2.out⟩
theorem ie (next:Int)(a:Option Addr)(n cap:Nat)(l:List InoL)(id:Int)(w:World)(hr:VolRd w a n cap l)(hb0:(aD l id:Int)<=4611686018427387904) :
  Calls Tryz.prog 82 #[.agg #[.int .i64 next,.slice a n cap],.int .i64 id] w fun e w'=>e=.returned (.int .i64 (aD l id:Int))/\Below w.heap.size w w':=by
 have hl:l.length=n:=hr.len;subst hl;have hm:=hr.room;have HB:=zH (az w (.cells #[.int .i64 next,.slice a l.length cap] 26));have H:=zH (hr.step HB.out);have c0:=gZ w 26 (.int .i64 next) (.slice a l.length cap);clear hr;go_enter Tryz.func82,Tryz.ntmps82
 go_wp2;generalize w.alloc (.cells #[.int .i64 next,.slice a l.length cap] 26)=w1 at *;clear c0;go_loopg [5,13] l.length (fun gg o i wr => ∃k:Nat,k+gg=l.length/\i=.int .i64 (k:Int)/\o=.int .i64 (aD (l.take k) id:Int)/\Hid (Below w1.heap.size w1 wr))
 case atStart=>exact⟨0,by omega,rfl,rfl,zH zB⟩
 case round =>
  obtain⟨k,hk,rfl,rfl,HB2⟩:=hrel;obtain⟨G1,hG1⟩:∃x:Nat,x=gk:=⟨_,rfl⟩;subst hG1;by_cases hlt:k<l.length
  ·obtain⟨b,off,ad,c,rfl,hbs,d0,d1,d2,d3,d4,hrd⟩:=bF (H.out.step HB2.out) k hlt;have IJ:=jG l id k hlt;have Ns:=jA l id (k+1);have hi:(k:Int)<(l.length:Int):=by omega
   have hi0:(0:Int)<=(k:Int):=by omega
   have Bb:=zH IJ;have hbound:(aD (l.take k) id:Int)+(bT l[k].ents id:Int)<=4611686018427387904:=by omega
   obtain⟨V,hV⟩:∃x:World,x=wr:=⟨_,rfl⟩;subst hV;have yQ:=zH hrd;have hmx:=hrd.max;have hle:=hrd.le;unfold maxLen at hmx;clear hrd IJ Ns;generalize l[k].id=x0 at *;generalize l[k].kind=x1 at *;generalize l[k].links=x2 at *;generalize l[k].data=x3 at *;generalize l[k].ents=es at *;generalize aD (l.take k) id=q at *;have Gq:=zH (yQ.out.alloc (.cells #[.int .i64 x0,.int .i64 x1,.int .i64 x2,.string x3,.slice ad es.length c] 45));have uY:=zH (az V (.cells #[.int .i64 x0,.int .i64 x1,.int .i64 x2,.string x3,.slice ad es.length c] 45));go_wp2;generalize V.alloc (.cells #[.int .i64 x0,.int .i64 x1,.int .i64 x2,.string x3,.slice ad es.length c] 45)=V1 at *;go_loopg [5,20] es.length (fun gg o i wr => ∃j:Nat,j+gg=es.length/\i=.int .i64 (j:Int)/\o=.int .i64 ((q:Int)+(bT (es.take j) id:Int))/\Hid (Below V1.heap.size V1 wr))
   case atStart=>exact⟨0,by omega,rfl,by simp[bT],zH zB⟩
   case round =>
    obtain⟨j,hj,rfl,rfl,HB3⟩:=hrel;by_cases hjl:j<es.length
    ·obtain⟨be,oe,rfl,hbe,e0,e1,e2,e3⟩:=ay (Gq.out.below HB3.out zN) j hjl;have Fb:=zH (jd es id j hjl);have hcm:=lu es id (j+1);have hji:(j:Int)<(es.length:Int):=by omega
     have hj0:(0:Int)<=(j:Int):=by omega
     have hct:=jd es id j hjl;by_cases he:es[j].id=id
     ·rw[if_pos he] at hct;have wI:Hid ((q:Int)+(bT (es.take (j+1)) id:Int)=(q:Int)+(bT (es.take j) id:Int)+1):=zH (by omega);have hbd:(q:Int)+(bT (es.take j) id:Int)+1<=4611686018427387904:=by omega
      have heq:(es[j].id==id)=true:=by simp[he]
      clear hct hcm Fb he;generalize es[j].hash=y0 at *;generalize es[j].index=y1 at *;generalize es[j].name=y2 at *;generalize es[j].id=y3 at *;generalize bT (es.take j) id=r at *;have vX:=zH (ac HB3.out (az wr (.cells #[.int .i64 y0,.int .i64 y1,.string y2,.int .i64 y3] 74)));go_wp2;go_roundg (gk - 1)
      case measure=>omega
      case rel=>exact⟨j+1,by omega,by go_num,by rw[wI.out],vX⟩
     ·rw[if_neg he] at hct;have wI:Hid ((q:Int)+(bT (es.take (j+1)) id:Int)=(q:Int)+(bT (es.take j) id:Int)):=zH (by omega);have heq:(es[j].id==id)=false:=by simp[he]
      clear hct hcm Fb he;generalize es[j].hash=y0 at *;generalize es[j].index=y1 at *;generalize es[j].name=y2 at *;generalize es[j].id=y3 at *;generalize bT (es.take j) id=r at *;have vX:=zH (ac HB3.out (az wr (.cells #[.int .i64 y0,.int .i64 y1,.string y2,.int .i64 y3] 74)));go_wp2;go_roundg (gk - 1)
      case measure=>omega
      case rel=>exact⟨j+1,by omega,by go_num,by rw[wI.out],vX⟩
    ·have BZ:j=es.length:=by omega
     subst BZ;rw[List.take_length];have vg:=zH (ac (ac HB2.out uY.out) HB3.out);go_wp2;go_roundg (G1 - 1)
     case measure=>omega
     case rel=>exact⟨k+1,by omega,by go_num,by rw[Bb.out];go_num,vg⟩
  ·have hkl:k=l.length:=by omega
   subst hkl;rw[List.take_length];have vg:=zH (ac HB.out HB2.out);go_wp2;go_ret;exact⟨rfl,vg.out⟩
theorem aT (next:Int)(a:Option Addr)(n cap:Nat)(l:List InoL)(id:Int)(w:World)(hr:VolRd w a n cap l) :
  Calls Tryz.prog 69 #[.agg #[.int .i64 next,.slice a n cap],.int .i64 id] w fun e w'=>e=.returned (.int .i64 (atF l id))/\Below w.heap.size w w':=by
 have hl:l.length=n:=hr.len;subst hl;have hm:=hr.room;have HB:=zH (az w (.cells #[.int .i64 next,.slice a l.length cap] 26));have H:=zH (hr.step HB.out);obtain⟨c0,c1⟩:=gZ w 26 (.int .i64 next) (.slice a l.length cap);clear hr;go_enter Tryz.func69,Tryz.ntmps69
 go_wp2;have hw0:w.heap.size<(w.alloc (.cells #[.int .i64 next,.slice a l.length cap] 26)).heap.size:=by simp
 generalize w.alloc (.cells #[.int .i64 next,.slice a l.length cap] 26)=w1 at *;go_loopg [5] l.length (fun gg i wr => ∃m:Nat,m+gg=l.length/\i=.int .i64 (m:Int)/\Hid (∀j (hj:j<m) (hl:j<l.length),l[j].id≠id)/\wr=w1)
 case atStart=>exact⟨0,by omega,rfl,zH (fun j hj=>by omega),rfl⟩
 case round =>
  obtain⟨m,hm2,rfl,HM,rfl⟩:=hrel;by_cases hlt:m<l.length
  ·obtain⟨b,off,ad,c,rfl,hbs,d0,d1,d2,d3,d4,hrd⟩:=bF H.out m hlt;have hi:(m:Int)<(l.length:Int):=by omega
   have hi0:(0:Int)<=(m:Int):=by omega
   by_cases he:l[m].id=id
   ·have HE:=zH (iO l id m hlt he (fun j hj=>HM.out j hj (by omega)));have heq:(l[m].id==id)=true:=by simp[he]
    clear hrd he;generalize l[m].id=x0 at *;clear d1 d2 d3 d4;go_wp2;go_ret;exact⟨eI HE.out.symm,HB.out⟩
   ·have HN:Hid (∀j (hj:j<m+1) (hl:j<l.length),l[j].id≠id):=zH (fun j hj hl=>by
     by_cases h:j=m
     ·subst h;exact he
     ·exact HM.out j (by omega) hl)
    have heq:(l[m].id==id)=false:=by simp[he]
    clear hrd he;generalize l[m].id=x0 at *;clear d1 d2 d3 d4;go_wp2;go_roundg (gk - 1)
    case measure=>omega
    case rel=>exact⟨m+1,by omega,by go_num,HN,rfl⟩
  ·have hlm:m=l.length:=by omega
   subst hlm;have HE:Hid (atF l id = -1):=zH (na l id (fun x hx=>by obtain⟨j,hj,rfl⟩:=List.mem_iff_getElem.1 hx;exact HM.out j hj hj));go_wp2;go_ret;exact⟨eI HE.out.symm,HB.out⟩
theorem jv (next:Int)(a:Option Addr)(n cap:Nat)(l:List InoL)(id:Int)(w:World)(hr:VolRd w a n cap l)(hb0:(aD l id:Int)<=4611686018427387904) :
  Calls Tryz.prog 67 #[.agg #[.int .i64 next,.slice a n cap],.int .i64 id] w fun e w'=>e=.returned (.int .i64 (aD l id:Int))/\Below w.heap.size w w':=by
 have hl:l.length=n:=hr.len;subst hl;have hm:=hr.room;have HB:=zH (az w (.cells #[.int .i64 next,.slice a l.length cap] 26));have H:=zH (hr.step HB.out);obtain⟨c0,c1⟩:=gZ w 26 (.int .i64 next) (.slice a l.length cap);clear hr;go_enter Tryz.func67,Tryz.ntmps67
 go_wp2;have hw0:w.heap.size<(w.alloc (.cells #[.int .i64 next,.slice a l.length cap] 26)).heap.size:=by simp
 generalize w.alloc (.cells #[.int .i64 next,.slice a l.length cap] 26)=w1 at *;go_loopg [5,6] l.length (fun gg o i wr => ∃k:Nat,k+gg=l.length/\i=.int .i64 (k:Int)/\o=.int .i64 (aD (l.take k) id:Int)/\wr=w1)
 case atStart=>exact⟨0,by omega,rfl,rfl,rfl⟩
 case round =>
  obtain⟨k,hk,rfl,rfl,rfl⟩:=hrel;obtain⟨G1,hG1⟩:∃x:Nat,x=gk:=⟨_,rfl⟩;subst hG1;by_cases hlt:k<l.length
  ·obtain⟨b,off,ad,c,rfl,hbs,d0,d1,d2,d3,d4,hrd⟩:=bF H.out k hlt;have IJ:=jG l id k hlt;have Ns:=jA l id (k+1);have hi:(k:Int)<(l.length:Int):=by omega
   have hi0:(0:Int)<=(k:Int):=by omega
   have Bb:=zH IJ;have hbound:(aD (l.take k) id:Int)+(bT l[k].ents id:Int)<=4611686018427387904:=by omega
   have yQ:=zH hrd;have hmx:=hrd.max;have hle:=hrd.le;unfold maxLen at hmx;clear hrd IJ Ns d0 d1 d2 d3;generalize l[k].ents=es at *;generalize aD (l.take k) id=q at *;obtain⟨V,hV⟩:∃x:World,x=wr:=⟨_,rfl⟩;subst hV;go_wp2;go_loopg [5,7] es.length (fun gg o i wr => ∃j:Nat,j+gg=es.length/\i=.int .i64 (j:Int)/\o=.int .i64 ((q:Int)+(bT (es.take j) id:Int))/\wr=V)
   case atStart=>exact⟨0,by omega,rfl,by simp[bT],rfl⟩
   case round =>
    obtain⟨j,hj,rfl,rfl,rfl⟩:=hrel;by_cases hjl:j<es.length
    ·obtain⟨be,oe,rfl,hbe,e0,e1,e2,e3⟩:=ay yQ.out j hjl;have hcm:=lu es id (j+1);have hji:(j:Int)<(es.length:Int):=by omega
     have hj0:(0:Int)<=(j:Int):=by omega
     have hct:=jd es id j hjl;by_cases he:es[j].id=id
     ·rw[if_pos he] at hct;have wI:Hid ((q:Int)+(bT (es.take (j+1)) id:Int)=(q:Int)+(bT (es.take j) id:Int)+1):=zH (by omega);have hbd:(q:Int)+(bT (es.take j) id:Int)+1<=4611686018427387904:=by omega
      have heq:(es[j].id==id)=true:=by simp[he]
      clear hct hcm he e0 e1 e2;generalize es[j].id=y3 at *;generalize bT (es.take j) id=r at *;go_wp2;go_roundg (gk - 1)
      case measure=>omega
      case rel=>exact⟨j+1,by omega,by go_num,by rw[wI.out],rfl⟩
     ·rw[if_neg he] at hct;have wI:Hid ((q:Int)+(bT (es.take (j+1)) id:Int)=(q:Int)+(bT (es.take j) id:Int)):=zH (by omega);have heq:(es[j].id==id)=false:=by simp[he]
      clear hct hcm he e0 e1 e2;generalize es[j].id=y3 at *;generalize bT (es.take j) id=r at *;go_wp2;go_roundg (gk - 1)
      case measure=>omega
      case rel=>exact⟨j+1,by omega,by go_num,by rw[wI.out],rfl⟩
    ·have BZ:j=es.length:=by omega
     subst BZ;rw[List.take_length];go_wp2;go_roundg (G1 - 1)
     case measure=>omega
     case rel=>exact⟨k+1,by omega,by go_num,by rw[Bb.out];go_num,rfl⟩
  ·have hkl:k=l.length:=by omega
   subst hkl;rw[List.take_length];go_wp2;go_ret;exact⟨rfl,HB.out⟩
theorem jj {l:List InoL}{x:InoL}(h:x.kind=1):bJ l x=(decide (x.ents.length=0)&&(decide (x.data.size<=20)&&decide (x.links=(aD l x.id:Int)))):=by unfold bJ;rw[if_pos h]
theorem ry {l:List InoL}{x:InoL}(h:x.kind=2):bJ l x=(decide (x.data.size=0)&&(decide (x.links=1)&&(du x.ents&&((decide (x.id=1) || decide (aD l x.id=1))&&x.ents.all (cH l))))):=by
 unfold bJ;rw[if_neg (by omega),decide_eq_true h];rfl
theorem qJ {l:List InoL}{x:InoL}(h1:¬x.kind=1)(h2:¬x.kind=2):bJ l x=false:=by
 unfold bJ;rw[if_neg h1,decide_eq_false h2];rfl
theorem kS (s:ByteArray):s.toList.isEmpty=decide (s.size=0):=by
 rw[ByteArray.toList_eq,Bool.eq_iff_iff,List.isEmpty_iff,decide_eq_true_iff];constructor
 ·intro h;have h2:s.data.toList.length=0:=by rw[h];rfl
  rw[Array.length_toList] at h2;exact h2
 ·intro h;refine List.eq_nil_of_length_eq_zero ?_;rw[Array.length_toList];exact h
theorem me (x:EntL)(next:Int)(a:Option Addr)(n cap:Nat)(l:List InoL)(g:Nat)(w:World)(hr:VolRd w a n cap l)(hg0:w.cell? ⟨g,0,none⟩=some (.int .i64 next))(hg1:w.cell? ⟨g,1,none⟩=some (.slice a n cap)) :
  Calls Tryz.prog 85 #[.agg #[.int .i64 x.hash,.int .i64 x.index,.string x.name,.int .i64 x.id],.pointer (some ⟨g,0,none⟩)] w fun e w'=>e=.returned (.bool (!cH l x))/\Below w.heap.size w w':=by
 obtain⟨xh,xi,xn,xd⟩:=x;simp only;have HB:=zH (az w (.cells #[.int .i64 xh,.int .i64 xi,.string xn,.int .i64 xd] 74));have H:=zH (hr.step HB.out);have g0:=af hg0 HB.out;have g1:=af hg1 HB.out;have hgl:g<w.heap.size:=World.block_lt_of_cell? w _ hg0;clear hr;by_cases h1:xd=1
 ·have HR:Hid ((!cH l ⟨xh,xi,xn,xd⟩)=true):=zH (by unfold cH;simp[h1]);have hq:(xd==1)=true:=by simp[h1]
  clear h1;go_enter Tryz.func85,Tryz.ntmps85
  go_wp2;go_ret;exact⟨ah HR.out.symm,HB.out⟩
 ·have hq:(xd==1)=false:=by simp[h1]
  have HR:Hid ((!cH l ⟨xh,xi,xn,xd⟩) = !decide (0<=atF l xd)):=zH (by unfold cH;simp[h1]);have har:=cL l xd;have hln:=H.out.len;have hrm:=H.out.room;clear h1;go_enter Tryz.func85,Tryz.ntmps85
  go_wp2_with fail
  refine(jY next a n cap l xd _ H.out).mono ?_;rintro e w2 ⟨rfl,hb⟩;have HB2:=zH (ac HB.out hb);clear hb;generalize atF l xd=r at *;by_cases hr0:0<=r
  ·have HR2:Hid ((!cH l ⟨xh,xi,xn,xd⟩)=false):=zH (by rw[HR.out,decide_eq_true hr0];rfl);have hr1:(r<0)=False:=eq_false (by omega);go_wp2;go_ret;exact⟨ah HR2.out.symm,HB2.out⟩
  ·have HR2:Hid ((!cH l ⟨xh,xi,xn,xd⟩)=true):=zH (by rw[HR.out,decide_eq_false hr0];rfl);have hr1:(r<0)=True:=eq_true (by omega);go_wp2;go_ret;exact⟨ah HR2.out.symm,HB2.out⟩
theorem rq (next:Int)(ad:Option Addr)(n c:Nat)(es:List EntL)(a:Option Addr)(cap:Nat)(l:List InoL)(g:Nat)(w:World)(he:Rd w ad n c 4 (ens es))(hr:VolRd w a l.length cap l)(hg0:w.cell? ⟨g,0,none⟩=some (.int .i64 next))(hg1:w.cell? ⟨g,1,none⟩=some (.slice a l.length cap)) :
  Calls Tryz.prog 115 #[.slice ad n c,.func (.func 85) #[] #[.pointer (some ⟨g,0,none⟩)]] w fun e w' => ∃r,e=.returned (.int .i64 r)/\decide (0<=r) = !es.all (cH l) /\ -1<=r/\r<=n/\Below w.heap.size w w':=by
 have hl:es.length=n:=by have:=he.len;simp at this;omega
 subst hl;have hm:es.length<=maxLen:=Nat.le_trans he.le he.max;unfold maxLen at hm;have HE:=zH he;have H:=zH hr;have HG:=zH (And.intro hg0 hg1);clear he hr hg0 hg1;go_enter Tryz.func115,Tryz.ntmps115
 go_wp2;go_loopg [8] es.length (fun gg i wr => ∃m:Nat,m+gg=es.length/\i=.int .i64 (m:Int)/\Hid ((es.take m).all (cH l)=true)/\Hid (Below w.heap.size w wr))
 case atStart=>exact⟨0,by omega,rfl,zH rfl,zH zB⟩
 case round =>
  obtain⟨m,hm2,rfl,HM,HB2⟩:=hrel;by_cases hlt:m<es.length
  ·obtain⟨b,off,rfl,hbs,d0,d1,d2,d3⟩:=ay (HE.out.below HB2.out zN) m hlt;have HH:Hid ((!cH l es[m])=true->es.all (cH l)=false):=zH (fun e=>by rw[List.all_eq_false];exact⟨es[m],List.getElem_mem hlt,by simpa using e⟩);have HN:Hid ((!cH l es[m])=false->(es.take (m+1)).all (cH l)=true):=zH (fun e=>by rw[List.take_succ_eq_append_getElem hlt,List.all_append,HM.out];simpa using e);have hi:(m:Int)<(es.length:Int):=by omega
   have hi0:(0:Int)<=(m:Int):=by omega
   have Fe:Hid (∀W,Below w.heap.size w W->Calls Tryz.prog 85 #[.agg #[.int .i64 es[m].hash,.int .i64 es[m].index,.string es[m].name,.int .i64 es[m].id],.pointer (some ⟨g,0,none⟩)] W fun e w'=>e=.returned (.bool (!cH l es[m]))/\Below W.heap.size W w'):=zH (fun W hW=>me es[m] next a _ cap l g W (H.out.step hW) (af HG.out.1 hW) (af HG.out.2 hW));generalize (!cH l es[m])=q at *;generalize es[m].hash=y0 at *;generalize es[m].index=y1 at *;generalize es[m].name=y2 at *;generalize es[m].id=y3 at *;clear hlt;cases q with
   | true =>
    have HE2:=zH (HH.out rfl);clear HH HN;go_wp2_with (go_at_call 85;refine(Fe.out _ HB2.out).mono ?_;rintro e w3 ⟨rfl,hb⟩;have HB3:=zH (ac HB2.out hb);clear hb)
    go_ret;exact⟨_,rfl,by rw[HE2.out];exact decide_eq_true hi0,by omega,by omega,HB3.out⟩
   | false =>
    have HE2:=zH (HN.out rfl);clear HH HN;go_wp2_with (go_at_call 85;refine(Fe.out _ HB2.out).mono ?_;rintro e w3 ⟨rfl,hb⟩;have HB3:=zH (ac HB2.out hb);clear hb)
    go_roundg (gk - 1)
    case measure=>omega
    case rel=>exact⟨m+1,by omega,by go_num,HE2,HB3⟩
  ·have hlm:m=es.length:=by omega
   subst hlm;rw[List.take_length] at HM;go_wp2;go_ret;exact⟨-1,rfl,by rw[HM.out];rfl,by omega,by omega,HB2.out⟩
theorem lB (next:Int)(ad:Option Addr)(n c:Nat)(es:List EntL)(a:Option Addr)(cap:Nat)(l:List InoL)(g:Nat)(w:World)(he:Rd w ad n c 4 (ens es))(hr:VolRd w a l.length cap l)(hg0:w.cell? ⟨g,0,none⟩=some (.int .i64 next))(hg1:w.cell? ⟨g,1,none⟩=some (.slice a l.length cap)) :
  Calls Tryz.prog 84 #[.slice ad n c,.func (.func 85) #[] #[.pointer (some ⟨g,0,none⟩)]] w fun e w'=>e=.returned (.bool (!es.all (cH l)))/\Below w.heap.size w w':=by
 have hm:n<=maxLen:=Nat.le_trans he.le he.max;unfold maxLen at hm;have HE:=zH he;have H:=zH hr;have HG:=zH (And.intro hg0 hg1);clear he hr hg0 hg1;go_enter Tryz.func84,Tryz.ntmps84
 go_wp2_with fail
 refine(rq next ad n c es a cap l g _ HE.out H.out HG.out.1 HG.out.2).mono ?_;rintro e w1 ⟨r,rfl,hr,hr1,hr2,hb⟩;have HR:=zH hr;have HB:=zH hb;clear hr hb;go_wp2;go_ret;exact⟨ah HR.out,HB.out⟩
theorem jO (next:Int)(a:Option Addr)(n cap:Nat)(l:List InoL)(x:InoL)(ad:Option Addr)(c:Nat)(w:World)(hr:VolRd w a n cap l)(he:Rd w ad x.ents.length c 4 (ens x.ents))(hs:∀s∈x.ents,s.name.size<=1073741824)(hlk:(aD l x.id:Int)<=4611686018427387904)(hT:KTab w) :
  Calls Tryz.prog 55 #[.agg #[.int .i64 next,.slice a n cap],.agg #[.int .i64 x.id,.int .i64 x.kind,.int .i64 x.links,.string x.data,.slice ad x.ents.length c]] w fun e w'=>e=.returned (.bool (bJ l x))/\Below w.heap.size w w':=by
 have hl:l.length=n:=hr.len;subst hl;have hm:=hr.room;have hme:=he.max;have hle:=he.le;unfold maxLen at hme;obtain⟨x0,x1,x2,x3,es⟩:=x;simp only at he hs hlk hme hle;have HS:=zH hs;clear hs;have HT:=zH hT;clear hT;have HB:=zH ((az w (.cells #[.int .i64 next,.slice a l.length cap] 26)).alloc (by simp) (.cells #[.int .i64 x0,.int .i64 x1,.int .i64 x2,.string x3,.slice ad es.length c] 45));have H:=zH (hr.step HB.out);have HE:=zH (he.below HB.out zN);obtain⟨c0,c1⟩:=gZ w 26 (.int .i64 next) (.slice a l.length cap);replace c0:=af c0 (az _ (.cells #[.int .i64 x0,.int .i64 x1,.int .i64 x2,.string x3,.slice ad es.length c] 45));replace c1:=af c1 (az _ (.cells #[.int .i64 x0,.int .i64 x1,.int .i64 x2,.string x3,.slice ad es.length c] 45));obtain⟨d0,d1,d2,d3,d4⟩:=sm (w.alloc (.cells #[.int .i64 next,.slice a l.length cap] 26)) 45 (.int .i64 x0) (.int .i64 x1) (.int .i64 x2) (.string x3) (.slice ad es.length c);rw[show (w.alloc (.cells #[.int .i64 next,.slice a l.length cap] 26)).heap.size=w.heap.size+1 from by simp] at d0 d1 d2 d3 d4;have hz0:w.heap.size<((w.alloc (.cells #[.int .i64 next,.slice a l.length cap] 26)).alloc (.cells #[.int .i64 x0,.int .i64 x1,.int .i64 x2,.string x3,.slice ad es.length c] 45)).heap.size:=by simp;omega
 have hz1:w.heap.size+1<((w.alloc (.cells #[.int .i64 next,.slice a l.length cap] 26)).alloc (.cells #[.int .i64 x0,.int .i64 x1,.int .i64 x2,.string x3,.slice ad es.length c] 45)).heap.size:=by simp
 clear hr he;go_enter Tryz.func55,Tryz.ntmps55
 go_upto_region 1 with fail
 generalize ((w.alloc (.cells #[.int .i64 next,.slice a l.length cap] 26)).alloc (.cells #[.int .i64 x0,.int .i64 x1,.int .i64 x2,.string x3,.slice ad es.length c] 45))=w1 at *;have uR:Hid (∀W,Below w1.heap.size w1 W->((W.cell? ⟨w.heap.size,0,none⟩=some (Value.int .i64 next)/\W.cell? ⟨w.heap.size,1,none⟩=some (Value.slice a l.length cap))/\(W.cell? ⟨w.heap.size+1,0,none⟩=some (.int .i64 x0)/\W.cell? ⟨w.heap.size+1,1,none⟩=some (.int .i64 x1)/\W.cell? ⟨w.heap.size+1,2,none⟩=some (.int .i64 x2)/\W.cell? ⟨w.heap.size+1,3,none⟩=some (.string x3)/\W.cell? ⟨w.heap.size+1,4,none⟩=some (.slice ad es.length c))/\Below w1.heap.size w1 W)):=zH (fun W hW=>⟨⟨af c0 hW,af c1 hW⟩,⟨af d0 hW,af d1 hW,af d2 hW,af d3 hW,af d4 hW⟩,hW⟩);by_cases hk1:x1=1
 ·subst hk1;have hk3:((1:Int)==1)=true:=rfl;have hB0:=Below.refl w1.heap.size w1;have HL:Hid (∀W,Below w1.heap.size w1 W->Calls Tryz.prog 82 #[.agg #[.int .i64 next,.slice a l.length cap],.int .i64 x0] W fun e w'=>e=.returned (.int .i64 (aD l x0:Int))/\Below W.heap.size W w'):=zH (fun W hW=>ie next a l.length cap l x0 W (H.out.step hW) hlk);by_cases hel:es.length=0
  ·have Nt:((es.length:Int)==0)=true:=by simp[hel]
   by_cases hdl:x3.size<=20
   ·have hdd:((x3.size:Int)<=20)=True:=eq_true (by omega);have HR:Hid (bJ l ⟨x0,1,x2,x3,es⟩=(x2==(aD l x0:Int))):=zH (by rw[jj rfl,decide_eq_true hel,decide_eq_true hdl];simp;rfl);generalize (aD l x0:Int)=lk at *;clear hlk hel hdl;go_wp2;clear c0 c1 d0 d1 d2 d3 d4;refine tkB uR 20 rfl (by kernel_rfl) (by first|exact zB|assumption) (fun uQ=>?_);simp only[List.replicate];clear hB0;refine tkI [0,1,2,3,4,5,6,7,8,9,10,11,12,13,14,15] ?_;(iterate 16 (refine tkS rfl (by kernel_rfl) (fun _ _ _=>id) (by rfl) (by intro w h;(try dsimp only at h);go_simp;try rfl) uQ ?_;try simp only[Act.put,tkA,tk0,tk1]));refine tkE ?_;refine wR 16 rfl (by kernel_rfl) (fun K hK=>?_);(try dsimp only at uQ);go_simp;(go_at_call 82;refine(HL.out _ uQ.2.2).mono ?_;rintro e w2 ⟨rfl,hbk⟩)
    refine hK.out _ _ ?_ ?_
    ·(try dsimp only);(go_split_ands;first|exact uR.out _ (by assumption)|exact uR.out _ (Below.drew (by assumption))|exact uR.out _ (ac (by assumption) (by assumption)))
    clear hK K uQ;intro uQ;clear hbk;refine tkI [17,18,19] ?_;(iterate 3 (refine tkS rfl (by kernel_rfl) (fun _ _ _=>id) (by rfl) (by intro w h;(try dsimp only at h);go_simp;try rfl) uQ ?_;try simp only[Act.put,tkA,tk0,tk1]));refine tkE ?_;refine wpAnyH_done (by kernel_rfl) ?_ _;(try dsimp only at uQ);have vI:=zH (ac HB.out uQ.2.2);clear uQ;go_wp2;go_ret;exact⟨ah HR.out.symm,vI.out⟩
   ·have hdd:((x3.size:Int)<=20)=False:=eq_false (by omega);have HR:Hid (bJ l ⟨x0,1,x2,x3,es⟩=false):=zH (by rw[jj rfl,decide_eq_false (p:=x3.size<=20) hdl];simp);clear hlk hel hdl;go_wp2;clear c0 c1 d0 d1 d2 d3 d4;refine tkB uR 20 rfl (by kernel_rfl) (by first|exact zB|assumption) (fun uQ=>?_);simp only[List.replicate];clear hB0;refine tkI [0,1,2,3,4,5,6,7,8,9,10] ?_;(iterate 11 (refine tkS rfl (by kernel_rfl) (fun _ _ _=>id) (by rfl) (by intro w h;(try dsimp only at h);go_simp;try rfl) uQ ?_;try simp only[Act.put,tkA,tk0,tk1]));refine tkE ?_;refine tkI [11,12,13,14,15,16,17] ?_;(iterate 7 (refine tkO rfl (by kernel_rfl) (fun _ _ _=>id) (by rfl) uQ ?_;try simp only[Act.put,tkA,tk0,tk1]));refine tkE ?_;refine tkI [18,19] ?_;(iterate 2 (refine tkS rfl (by kernel_rfl) (fun _ _ _=>id) (by rfl) (by intro w h;(try dsimp only at h);go_simp;try rfl) uQ ?_;try simp only[Act.put,tkA,tk0,tk1]));refine tkE ?_;refine wpAnyH_done (by kernel_rfl) ?_ _;(try dsimp only at uQ);have vI:=zH (ac HB.out uQ.2.2);clear uQ;go_wp2;go_ret;exact⟨ah HR.out.symm,vI.out⟩
  ·have Nt:((es.length:Int)==0)=false:=by rw[beq_eq_false_iff_ne];omega
   have HR:Hid (bJ l ⟨x0,1,x2,x3,es⟩=false):=zH (by rw[jj rfl,decide_eq_false hel];rfl);clear hlk hel;go_wp2;clear c0 c1 d0 d1 d2 d3 d4;refine tkB uR 20 rfl (by kernel_rfl) (by first|exact zB|assumption) (fun uQ=>?_);simp only[List.replicate];clear hB0;refine tkI [0,1,2,3,4] ?_;(iterate 5 (refine tkS rfl (by kernel_rfl) (fun _ _ _=>id) (by rfl) (by intro w h;(try dsimp only at h);go_simp;try rfl) uQ ?_;try simp only[Act.put,tkA,tk0,tk1]));refine tkE ?_;refine tkI [5,6,7,8] ?_;(iterate 4 (refine tkO rfl (by kernel_rfl) (fun _ _ _=>id) (by rfl) uQ ?_;try simp only[Act.put,tkA,tk0,tk1]));refine tkE ?_;refine tkI [9,10] ?_;(iterate 2 (refine tkS rfl (by kernel_rfl) (fun _ _ _=>id) (by rfl) (by intro w h;(try dsimp only at h);go_simp;try rfl) uQ ?_;try simp only[Act.put,tkA,tk0,tk1]));refine tkE ?_;refine tkI [11,12,13,14,15,16,17] ?_;(iterate 7 (refine tkO rfl (by kernel_rfl) (fun _ _ _=>id) (by rfl) uQ ?_;try simp only[Act.put,tkA,tk0,tk1]));refine tkE ?_;refine tkI [18,19] ?_;(iterate 2 (refine tkS rfl (by kernel_rfl) (fun _ _ _=>id) (by rfl) (by intro w h;(try dsimp only at h);go_simp;try rfl) uQ ?_;try simp only[Act.put,tkA,tk0,tk1]));refine tkE ?_;refine wpAnyH_done (by kernel_rfl) ?_ _;(try dsimp only at uQ);have vI:=zH (ac HB.out uQ.2.2);clear uQ;go_wp2;go_ret;exact⟨ah HR.out.symm,vI.out⟩
 ·by_cases hk2:x1=2
  rotate_left
  ·have HR:=zH (qJ (l:=l) (x:=⟨x0,x1,x2,x3,es⟩) hk1 hk2);have hk3:(x1==1)=false:=by simp[hk1]
   have hk4:(x1==2)=false:=by simp[hk2]
   have hk5:(x1 != 2)=true:=by simp[hk2]
   clear hlk hk1 hk2;go_wp2;go_ret;exact⟨ah HR.out.symm,HB.out⟩
  clear hk1;subst hk2;have hk3:((2:Int)==1)=false:=rfl;have hk4:((2:Int)==2)=true:=rfl;have hk5:((2:Int) != 2)=false:=rfl;have HD:=zH (ry (l:=l) (x:=⟨x0,2,x2,x3,es⟩) rfl);by_cases hd0:x3.size=0
  rotate_left
  ·have HR:Hid (bJ l ⟨x0,2,x2,x3,es⟩=false):=zH (by rw[HD.out,decide_eq_false hd0];rfl);have hq:x3.toList.isEmpty=false:=by rw[kS];simp[hd0]
   clear hd0 hlk;go_wp2;go_ret;exact⟨ah HR.out.symm,HB.out⟩
  have hq:x3.toList.isEmpty=true:=by rw[kS];simp[hd0]
  by_cases hl1:x2=1
  rotate_left
  ·have HR:Hid (bJ l ⟨x0,2,x2,x3,es⟩=false):=zH (by rw[HD.out,decide_eq_false hl1];simp);have hq2:(x2 != 1)=true:=by simp[hl1]
   clear hd0 hlk hl1;go_wp2;go_ret;exact⟨ah HR.out.symm,HB.out⟩
  have hq2:(x2 != 1)=false:=by simp[hl1]
  have HD2:Hid (bJ l ⟨x0,2,x2,x3,es⟩=(du es&&((decide (x0=1) || decide (aD l x0=1))&&es.all (cH l)))):=zH (by rw[HD.out,decide_eq_true hd0,decide_eq_true hl1];rfl);clear hd0 hl1 HD;have HDK:=zH (fun W (hW:Below w1.heap.size w1 W)=>lh ad es.length c es W (HE.out.below hW zN) HS.out (HT.out.below (ac HB.out hW) zN));have Dh:=zH hlk;clear hlk;go_wp2_with fail
  refine(HDK.out _ zB).mono ?_;rintro e w2 ⟨rfl,hb⟩;have HB2:=zH hb;clear hb c0 c1 d0 d1 d2 d3 d4;obtain⟨⟨c0,c1⟩,⟨d0,d1,d2,d3,d4⟩,-⟩:=uR.out w2 HB2.out;have hz2:w.heap.size<w2.heap.size:=World.block_lt_of_cell? w2 _ c0;have hz3:w.heap.size+1<w2.heap.size:=World.block_lt_of_cell? w2 _ d0;cases yR:du es with
  | false =>
   have HR:Hid (bJ l ⟨x0,2,x2,x3,es⟩=false):=zH (by rw[HD2.out,yR];rfl);have vI:=zH (ac HB.out HB2.out);clear yR;go_wp2;go_ret;exact⟨ah HR.out.symm,vI.out⟩
  | true =>
   have HD3:Hid (bJ l ⟨x0,2,x2,x3,es⟩=((decide (x0=1) || decide (aD l x0=1))&&es.all (cH l))):=zH (by rw[HD2.out,yR];rfl);have HDR:=zH yR;clear yR;by_cases hx1:x0=1
   ·have hq3:(x0 != 1)=false:=by simp[hx1]
    have HD4:Hid (bJ l ⟨x0,2,x2,x3,es⟩=es.all (cH l)):=zH (by rw[HD3.out,decide_eq_true hx1];rfl);clear hx1;have IK:=zH (fun W (hW:Below w1.heap.size w1 W)=>lB next ad es.length c es a cap l w.heap.size W (HE.out.below hW zN) (H.out.step hW) (uR.out W hW).1.1 (uR.out W hW).1.2);go_wp2_with fail
    refine(IK.out _ HB2.out).mono ?_;rintro e w5 ⟨rfl,hb⟩;have vI:=zH (ac HB.out (ac HB2.out hb));clear hb;generalize es.all (cH l)=ba at *;go_wp2;go_ret;exact⟨ah (by rw[HD4.out]),vI.out⟩
   ·have hq3:(x0 != 1)=true:=by simp[hx1]
    have Nu:Hid (∀W,Below w1.heap.size w1 W->Calls Tryz.prog 82 #[.agg #[.int .i64 next,.slice a l.length cap],.int .i64 x0] W fun e w'=>e=.returned (.int .i64 (aD l x0:Int))/\Below W.heap.size W w'):=zH (fun W hW=>ie next a l.length cap l x0 W (H.out.step hW) Dh.out);go_wp2_with fail
    refine(Nu.out _ HB2.out).mono ?_;rintro e w3 ⟨rfl,hb⟩;have HB3:=zH (ac HB2.out hb);clear hb c0 c1 d0 d1 d2 d3 d4;obtain⟨⟨c0,c1⟩,⟨d0,d1,d2,d3,d4⟩,-⟩:=uR.out w3 HB3.out;have Bl:w.heap.size<w3.heap.size:=World.block_lt_of_cell? w3 _ c0;have y9:w.heap.size+1<w3.heap.size:=World.block_lt_of_cell? w3 _ d0;by_cases AC:aD l x0=1
    ·have HD4:Hid (bJ l ⟨x0,2,x2,x3,es⟩=es.all (cH l)):=zH (by rw[HD3.out,decide_eq_false hx1,decide_eq_true AC];rfl);have hq4:((aD l x0:Int) != 1)=false:=by simp;omega
     clear hx1 AC;have IK:=zH (fun W (hW:Below w1.heap.size w1 W)=>lB next ad es.length c es a cap l w.heap.size W (HE.out.below hW zN) (H.out.step hW) (uR.out W hW).1.1 (uR.out W hW).1.2);go_wp2_with fail
     refine(IK.out _ HB3.out).mono ?_;rintro e w5 ⟨rfl,hb⟩;have vI:=zH (ac HB.out (ac HB3.out hb));clear hb;generalize es.all (cH l)=ba at *;go_wp2;go_ret;exact⟨ah (by rw[HD4.out]),vI.out⟩
    ·have HR:Hid (bJ l ⟨x0,2,x2,x3,es⟩=false):=zH (by rw[HD3.out,decide_eq_false hx1,decide_eq_false AC];rfl);have vI:=zH (ac HB.out HB3.out);have hq4:((aD l x0:Int) != 1)=true:=by simp;omega
     clear hx1 AC;go_wp2;go_ret;exact⟨ah HR.out.symm,vI.out⟩
theorem jn {l:List InoL}{x:InoL}(h:x.kind=1):bJ l x=(decide (x.ents.length=0)&&(decide (x.data.size<=20)&&decide (x.links=(aD l x.id:Int)))):=by unfold bJ;rw[if_pos h]
theorem rH {l:List InoL}{x:InoL}(h:x.kind=2):bJ l x=(decide (x.data.size=0)&&(decide (x.links=1)&&(du x.ents&&((decide (x.id=1) || decide (aD l x.id=1))&&x.ents.all (cH l))))):=by
 unfold bJ;rw[if_neg (by omega),decide_eq_true h];rfl
theorem rj {l:List InoL}{x:InoL}(h1:¬x.kind=1)(h2:¬x.kind=2):bJ l x=false:=by
 unfold bJ;rw[if_neg h1,decide_eq_false h2];rfl
theorem ju (s:ByteArray):s.toList.isEmpty=decide (s.size=0):=by
 rw[ByteArray.toList_eq,Bool.eq_iff_iff,List.isEmpty_iff,decide_eq_true_iff];constructor
 ·intro h;have h2:s.data.toList.length=0:=by rw[h];rfl
  rw[Array.length_toList] at h2;exact h2
 ·intro h;refine List.eq_nil_of_length_eq_zero ?_;rw[Array.length_toList];exact h
theorem jN (next:Int)(a:Option Addr)(n cap:Nat)(l:List InoL)(x:InoL)(ad:Option Addr)(c:Nat)(w:World)(hr:VolRd w a n cap l)(he:Rd w ad x.ents.length c 4 (ens x.ents))(hs:∀s∈x.ents,s.name.size<=1073741824)(hlk:(aD l x.id:Int)<=4611686018427387904) :
  Calls Tryz.prog 40 #[.agg #[.int .i64 next,.slice a n cap],.agg #[.int .i64 x.id,.int .i64 x.kind,.int .i64 x.links,.string x.data,.slice ad x.ents.length c]] w fun e w'=>e=.returned (.bool (bJ l x))/\Below w.heap.size w w':=by
 have hl:l.length=n:=hr.len;subst hl;have hm:=hr.room;have hme:=he.max;have hle:=he.le;unfold maxLen at hme;obtain⟨x0,x1,x2,x3,es⟩:=x;simp only at he hs hlk hme hle;have HS:=zH hs;clear hs;have HB:=zH ((az w (.cells #[.int .i64 next,.slice a l.length cap] 26)).alloc (by simp) (.cells #[.int .i64 x0,.int .i64 x1,.int .i64 x2,.string x3,.slice ad es.length c] 45));have H:=zH (hr.step HB.out);have HE:=zH (he.below HB.out zN);obtain⟨c0,c1⟩:=gZ w 26 (.int .i64 next) (.slice a l.length cap);replace c0:=af c0 (az _ (.cells #[.int .i64 x0,.int .i64 x1,.int .i64 x2,.string x3,.slice ad es.length c] 45));replace c1:=af c1 (az _ (.cells #[.int .i64 x0,.int .i64 x1,.int .i64 x2,.string x3,.slice ad es.length c] 45));obtain⟨d0,d1,d2,d3,d4⟩:=sm (w.alloc (.cells #[.int .i64 next,.slice a l.length cap] 26)) 45 (.int .i64 x0) (.int .i64 x1) (.int .i64 x2) (.string x3) (.slice ad es.length c);rw[show (w.alloc (.cells #[.int .i64 next,.slice a l.length cap] 26)).heap.size=w.heap.size+1 from by simp] at d0 d1 d2 d3 d4;have hz0:w.heap.size<((w.alloc (.cells #[.int .i64 next,.slice a l.length cap] 26)).alloc (.cells #[.int .i64 x0,.int .i64 x1,.int .i64 x2,.string x3,.slice ad es.length c] 45)).heap.size:=by simp;omega
 have hz1:w.heap.size+1<((w.alloc (.cells #[.int .i64 next,.slice a l.length cap] 26)).alloc (.cells #[.int .i64 x0,.int .i64 x1,.int .i64 x2,.string x3,.slice ad es.length c] 45)).heap.size:=by simp
 clear hr he;go_enter Tryz.func40,Tryz.ntmps40
 go_upto_region 1 with fail
 generalize ((w.alloc (.cells #[.int .i64 next,.slice a l.length cap] 26)).alloc (.cells #[.int .i64 x0,.int .i64 x1,.int .i64 x2,.string x3,.slice ad es.length c] 45))=w1 at *;have uR:Hid (∀W,Below w1.heap.size w1 W->((W.cell? ⟨w.heap.size,0,none⟩=some (Value.int .i64 next)/\W.cell? ⟨w.heap.size,1,none⟩=some (Value.slice a l.length cap))/\(W.cell? ⟨w.heap.size+1,0,none⟩=some (.int .i64 x0)/\W.cell? ⟨w.heap.size+1,1,none⟩=some (.int .i64 x1)/\W.cell? ⟨w.heap.size+1,2,none⟩=some (.int .i64 x2)/\W.cell? ⟨w.heap.size+1,3,none⟩=some (.string x3)/\W.cell? ⟨w.heap.size+1,4,none⟩=some (.slice ad es.length c))/\Below w1.heap.size w1 W)):=zH (fun W hW=>⟨⟨af c0 hW,af c1 hW⟩,⟨af d0 hW,af d1 hW,af d2 hW,af d3 hW,af d4 hW⟩,hW⟩);by_cases hk1:x1=1
 ·subst hk1;have hk3:((1:Int)==1)=true:=rfl;have hB0:=Below.refl w1.heap.size w1;have HL:Hid (∀W,Below w1.heap.size w1 W->Calls Tryz.prog 67 #[.agg #[.int .i64 next,.slice a l.length cap],.int .i64 x0] W fun e w'=>e=.returned (.int .i64 (aD l x0:Int))/\Below W.heap.size W w'):=zH (fun W hW=>jv next a l.length cap l x0 W (H.out.step hW) hlk);by_cases hel:es.length=0
  ·have Nt:((es.length:Int)==0)=true:=by simp[hel]
   by_cases hdl:x3.size<=20
   ·have hdd:((x3.size:Int)<=20)=True:=eq_true (by omega);have HR:Hid (bJ l ⟨x0,1,x2,x3,es⟩=(x2==(aD l x0:Int))):=zH (by rw[jn rfl,decide_eq_true hel,decide_eq_true hdl];simp;rfl);generalize (aD l x0:Int)=lk at *;clear hlk hel hdl;go_wp2;clear c0 c1 d0 d1 d2 d3 d4;refine tkB uR 20 rfl (by kernel_rfl) (by first|exact zB|assumption) (fun uQ=>?_);simp only[List.replicate];clear hB0;refine tkI [0,1,2,3,4,5,6,7,8,9,10,11,12,13,14,15] ?_;(iterate 16 (refine tkS rfl (by kernel_rfl) (fun _ _ _=>id) (by rfl) (by intro w h;(try dsimp only at h);go_simp;try rfl) uQ ?_;try simp only[Act.put,tkA,tk0,tk1]));refine tkE ?_;refine wR 16 rfl (by kernel_rfl) (fun K hK=>?_);(try dsimp only at uQ);go_simp;(go_at_call 67;refine(HL.out _ uQ.2.2).mono ?_;rintro e w2 ⟨rfl,hbk⟩)
    refine hK.out _ _ ?_ ?_
    ·(try dsimp only);(go_split_ands;first|exact uR.out _ (by assumption)|exact uR.out _ (Below.drew (by assumption))|exact uR.out _ (ac (by assumption) (by assumption)))
    clear hK K uQ;intro uQ;clear hbk;refine tkI [17,18,19] ?_;(iterate 3 (refine tkS rfl (by kernel_rfl) (fun _ _ _=>id) (by rfl) (by intro w h;(try dsimp only at h);go_simp;try rfl) uQ ?_;try simp only[Act.put,tkA,tk0,tk1]));refine tkE ?_;refine wpAnyH_done (by kernel_rfl) ?_ _;(try dsimp only at uQ);have vI:=zH (ac HB.out uQ.2.2);clear uQ;go_wp2;go_ret;exact⟨ah HR.out.symm,vI.out⟩
   ·have hdd:((x3.size:Int)<=20)=False:=eq_false (by omega);have HR:Hid (bJ l ⟨x0,1,x2,x3,es⟩=false):=zH (by rw[jn rfl,decide_eq_false (p:=x3.size<=20) hdl];simp);clear hlk hel hdl;go_wp2;clear c0 c1 d0 d1 d2 d3 d4;refine tkB uR 20 rfl (by kernel_rfl) (by first|exact zB|assumption) (fun uQ=>?_);simp only[List.replicate];clear hB0;refine tkI [0,1,2,3,4,5,6,7,8,9,10] ?_;(iterate 11 (refine tkS rfl (by kernel_rfl) (fun _ _ _=>id) (by rfl) (by intro w h;(try dsimp only at h);go_simp;try rfl) uQ ?_;try simp only[Act.put,tkA,tk0,tk1]));refine tkE ?_;refine tkI [11,12,13,14,15,16,17] ?_;(iterate 7 (refine tkO rfl (by kernel_rfl) (fun _ _ _=>id) (by rfl) uQ ?_;try simp only[Act.put,tkA,tk0,tk1]));refine tkE ?_;refine tkI [18,19] ?_;(iterate 2 (refine tkS rfl (by kernel_rfl) (fun _ _ _=>id) (by rfl) (by intro w h;(try dsimp only at h);go_simp;try rfl) uQ ?_;try simp only[Act.put,tkA,tk0,tk1]));refine tkE ?_;refine wpAnyH_done (by kernel_rfl) ?_ _;(try dsimp only at uQ);have vI:=zH (ac HB.out uQ.2.2);clear uQ;go_wp2;go_ret;exact⟨ah HR.out.symm,vI.out⟩
  ·have Nt:((es.length:Int)==0)=false:=by rw[beq_eq_false_iff_ne];omega
   have HR:Hid (bJ l ⟨x0,1,x2,x3,es⟩=false):=zH (by rw[jn rfl,decide_eq_false hel];rfl);clear hlk hel;go_wp2;clear c0 c1 d0 d1 d2 d3 d4;refine tkB uR 20 rfl (by kernel_rfl) (by first|exact zB|assumption) (fun uQ=>?_);simp only[List.replicate];clear hB0;refine tkI [0,1,2,3,4] ?_;(iterate 5 (refine tkS rfl (by kernel_rfl) (fun _ _ _=>id) (by rfl) (by intro w h;(try dsimp only at h);go_simp;try rfl) uQ ?_;try simp only[Act.put,tkA,tk0,tk1]));refine tkE ?_;refine tkI [5,6,7,8] ?_;(iterate 4 (refine tkO rfl (by kernel_rfl) (fun _ _ _=>id) (by rfl) uQ ?_;try simp only[Act.put,tkA,tk0,tk1]));refine tkE ?_;refine tkI [9,10] ?_;(iterate 2 (refine tkS rfl (by kernel_rfl) (fun _ _ _=>id) (by rfl) (by intro w h;(try dsimp only at h);go_simp;try rfl) uQ ?_;try simp only[Act.put,tkA,tk0,tk1]));refine tkE ?_;refine tkI [11,12,13,14,15,16,17] ?_;(iterate 7 (refine tkO rfl (by kernel_rfl) (fun _ _ _=>id) (by rfl) uQ ?_;try simp only[Act.put,tkA,tk0,tk1]));refine tkE ?_;refine tkI [18,19] ?_;(iterate 2 (refine tkS rfl (by kernel_rfl) (fun _ _ _=>id) (by rfl) (by intro w h;(try dsimp only at h);go_simp;try rfl) uQ ?_;try simp only[Act.put,tkA,tk0,tk1]));refine tkE ?_;refine wpAnyH_done (by kernel_rfl) ?_ _;(try dsimp only at uQ);have vI:=zH (ac HB.out uQ.2.2);clear uQ;go_wp2;go_ret;exact⟨ah HR.out.symm,vI.out⟩
 ·by_cases hk2:x1=2
  rotate_left
  ·have HR:=zH (rj (l:=l) (x:=⟨x0,x1,x2,x3,es⟩) hk1 hk2);have hk3:(x1==1)=false:=by simp[hk1]
   have hk4:(x1==2)=false:=by simp[hk2]
   have hk5:(x1 != 2)=true:=by simp[hk2]
   clear hlk hk1 hk2;go_wp2;go_ret;exact⟨ah HR.out.symm,HB.out⟩
  clear hk1;subst hk2;have hk3:((2:Int)==1)=false:=rfl;have hk4:((2:Int)==2)=true:=rfl;have hk5:((2:Int) != 2)=false:=rfl;have HD:=zH (rH (l:=l) (x:=⟨x0,2,x2,x3,es⟩) rfl);by_cases hd0:x3.size=0
  rotate_left
  ·have HR:Hid (bJ l ⟨x0,2,x2,x3,es⟩=false):=zH (by rw[HD.out,decide_eq_false hd0];rfl);have hq:x3.toList.isEmpty=false:=by rw[ju];simp[hd0]
   clear hd0 hlk;go_wp2;go_ret;exact⟨ah HR.out.symm,HB.out⟩
  have hq:x3.toList.isEmpty=true:=by rw[ju];simp[hd0]
  by_cases hl1:x2=1
  rotate_left
  ·have HR:Hid (bJ l ⟨x0,2,x2,x3,es⟩=false):=zH (by rw[HD.out,decide_eq_false hl1];simp);have hq2:(x2 != 1)=true:=by simp[hl1]
   clear hd0 hlk hl1;go_wp2;go_ret;exact⟨ah HR.out.symm,HB.out⟩
  have hq2:(x2 != 1)=false:=by simp[hl1]
  have HD2:Hid (bJ l ⟨x0,2,x2,x3,es⟩=(du es&&((decide (x0=1) || decide (aD l x0=1))&&es.all (cH l)))):=zH (by rw[HD.out,decide_eq_true hd0,decide_eq_true hl1];rfl);clear hd0 hl1 HD;have HDK:=zH (fun W (hW:Below w1.heap.size w1 W)=>lb ad es.length c es W (HE.out.below hW zN) HS.out);have Dh:=zH hlk;clear hlk;go_wp2_with fail
  refine(HDK.out _ zB).mono ?_;rintro e w2 ⟨rfl,hb⟩;have HB2:=zH hb;clear hb c0 c1 d0 d1 d2 d3 d4;obtain⟨⟨c0,c1⟩,⟨d0,d1,d2,d3,d4⟩,-⟩:=uR.out w2 HB2.out;have hz2:w.heap.size<w2.heap.size:=World.block_lt_of_cell? w2 _ c0;have hz3:w.heap.size+1<w2.heap.size:=World.block_lt_of_cell? w2 _ d0;cases yR:du es with
  | false =>
   have HR:Hid (bJ l ⟨x0,2,x2,x3,es⟩=false):=zH (by rw[HD2.out,yR];rfl);have vI:=zH (ac HB.out HB2.out);clear yR;go_wp2;go_ret;exact⟨ah HR.out.symm,vI.out⟩
  | true =>
   have HD3:Hid (bJ l ⟨x0,2,x2,x3,es⟩=((decide (x0=1) || decide (aD l x0=1))&&es.all (cH l))):=zH (by rw[HD2.out,yR];rfl);have HDR:=zH yR;clear yR;by_cases hx1:x0=1
   ·have hq3:(x0 != 1)=false:=by simp[hx1]
    have HD4:Hid (bJ l ⟨x0,2,x2,x3,es⟩=es.all (cH l)):=zH (by rw[HD3.out,decide_eq_true hx1];rfl);clear hx1;go_wp2;clear c0 c1 d0 d1 d2 d3;go_loopg [5] es.length (fun gg i wr => ∃k:Nat,k+gg=es.length/\i=.int .i64 (k:Int)/\Hid ((es.take k).all (cH l)=true)/\Hid (Below w1.heap.size w1 wr))
    case atStart=>exact⟨0,by omega,rfl,zH rfl,HB2⟩
    case round =>
     obtain⟨k,hk,rfl,HM,vB⟩:=hrel;clear d4;obtain⟨⟨c0,c1⟩,⟨d0,d1,d2,d3,d4⟩,-⟩:=uR.out wr vB.out;have MM:w.heap.size<wr.heap.size:=World.block_lt_of_cell? wr _ c0;have Nv:w.heap.size+1<wr.heap.size:=World.block_lt_of_cell? wr _ d0;by_cases hlt:k<es.length
     ·obtain⟨b,off,rfl,hbs,e0,e1,e2,e3⟩:=ay (HE.out.below vB.out zN) k hlt;have Ff:Hid (∀W,Below wr.heap.size wr W->W.cell? ⟨b,off+k*4+3,none⟩=some (.int .i64 es[k].id)):=zH (fun W hW=>af e3 hW);have HH:Hid (cH l es[k]=false->es.all (cH l)=false):=zH (fun e=>by rw[List.all_eq_false];exact⟨es[k],List.getElem_mem hlt,by rw[e];decide⟩);have HN:Hid (cH l es[k]=true->(es.take (k+1)).all (cH l)=true):=zH (fun e=>by rw[List.take_succ_eq_append_getElem hlt,List.all_append,HM.out];simpa using e);have CX:Hid (cH l es[k]=(!(es[k].id==1)&&decide (0<=atF l es[k].id))):=zH rfl;have hki:(k:Int)<(es.length:Int):=by omega
      have hk0:(0:Int)<=(k:Int):=by omega
      have DD:=zH (fun W (hW:Below wr.heap.size wr W)=>uR.out W (ac vB.out hW));have hB1:=Below.refl wr.heap.size wr;have har:=cL l es[k].id;clear e0 e1 e2 e3;generalize cH l es[k]=kb at *;generalize es[k].id=y at *;clear hlt;have HAT:Hid (∀W,Below w1.heap.size w1 W->Calls Tryz.prog 69 #[.agg #[.int .i64 next,.slice a l.length cap],.int .i64 y] W fun e w'=>e=.returned (.int .i64 (atF l y))/\Below W.heap.size W w'):=zH (fun W hW=>aT next a _ cap l y W (H.out.step hW));generalize atF l y=r at *;have xU:Hid (∀W,Below wr.heap.size wr W->((W.cell? ⟨w.heap.size,0,none⟩=some (Value.int .i64 next)/\W.cell? ⟨w.heap.size,1,none⟩=some (Value.slice a l.length cap))/\(W.cell? ⟨w.heap.size+1,0,none⟩=some (.int .i64 x0)/\W.cell? ⟨w.heap.size+1,1,none⟩=some (.int .i64 2)/\W.cell? ⟨w.heap.size+1,2,none⟩=some (.int .i64 x2)/\W.cell? ⟨w.heap.size+1,3,none⟩=some (.string x3)/\W.cell? ⟨w.heap.size+1,4,none⟩=some (.slice (some ⟨b,off,none⟩) es.length c))/\W.cell? ⟨b,off+k*4+3,none⟩=some (.int .i64 y)/\Below wr.heap.size wr W)):=zH (fun W hW=>⟨(DD.out W hW).1,(DD.out W hW).2.1,Ff.out W hW,hW⟩);by_cases hy:y=1
      ·have hye:(y==1)=true:=by simp[hy]
       have HR:Hid (bJ l ⟨x0,2,x2,x3,es⟩=false):=zH (by rw[HD4.out,HH.out (by rw[CX.out,hye];rfl)]);clear hy HH HN CX har;go_wp2;refine tkB xU 18 rfl (by kernel_rfl) (by first|exact zB|assumption) (fun uQ=>?_);simp only[List.replicate];clear hB1;refine tkI [0,1,2,3,4,5,6,7] ?_;(iterate 8 (refine tkS rfl (by kernel_rfl) (fun _ _ _=>id) (by rfl) (by intro w h;(try dsimp only at h);go_simp;try rfl) uQ ?_;try simp only[Act.put,tkA,tk0,tk1]));refine tkE ?_;refine tkI [8,9,10,11,12,13,14,15,16] ?_;(iterate 9 (refine tkO rfl (by kernel_rfl) (fun _ _ _=>id) (by rfl) uQ ?_;try simp only[Act.put,tkA,tk0,tk1]));refine tkE ?_;refine tkI [17] ?_;(iterate 1 (refine tkS rfl (by kernel_rfl) (fun _ _ _=>id) (by rfl) (by intro w h;(try dsimp only at h);go_simp;try rfl) uQ ?_;try simp only[Act.put,tkA,tk0,tk1]));refine tkE ?_;refine wpAnyH_done (by kernel_rfl) ?_ _;(try dsimp only at uQ);have vI:=zH (ac HB.out (ac vB.out uQ.2.2.2));clear uQ;go_wp2;go_ret;exact⟨ah HR.out.symm,vI.out⟩
      ·have hye:(y==1)=false:=by simp[hy]
       by_cases hr0:0<=r
       ·have hrn:(r<0)=False:=eq_false (by omega);have yf:=zH (HN.out (by rw[CX.out,hye,decide_eq_true hr0];rfl));clear hy HH HN CX;go_wp2;refine tkB xU 18 rfl (by kernel_rfl) (by first|exact zB|assumption) (fun uQ=>?_);simp only[List.replicate];clear hB1;refine tkI [0,1,2,3,4,5,6,7,8,9,10,11,12,13,14] ?_;(iterate 15 (refine tkS rfl (by kernel_rfl) (fun _ _ _=>id) (by rfl) (by intro w h;(try dsimp only at h);go_simp;try rfl) uQ ?_;try simp only[Act.put,tkA,tk0,tk1]));refine tkE ?_;refine wR 15 rfl (by kernel_rfl) (fun K hK=>?_);(try dsimp only at uQ);go_simp;(go_at_call 69;refine(HAT.out _ (ac vB.out uQ.2.2.2)).mono ?_;rintro e w6 ⟨rfl,hbk⟩)
        refine hK.out _ _ ?_ ?_
        ·(try dsimp only);(go_split_ands;first|exact xU.out _ (by assumption)|exact xU.out _ (Below.drew (by assumption))|exact xU.out _ (ac (by assumption) (by assumption)))
        clear hK K uQ;intro uQ;clear hbk;refine tkI [16,17] ?_;(iterate 2 (refine tkS rfl (by kernel_rfl) (fun _ _ _=>id) (by rfl) (by intro w h;(try dsimp only at h);go_simp;try rfl) uQ ?_;try simp only[Act.put,tkA,tk0,tk1]));refine tkE ?_;refine wpAnyH_done (by kernel_rfl) ?_ _;(try dsimp only at uQ);have Nw:=zH (ac vB.out uQ.2.2.2);clear uQ;go_wp2;go_roundg (gk - 1)
        case measure=>omega
        case rel=>exact⟨k+1,by omega,by go_num,yf,Nw⟩
       ·have hrn:(r<0)=True:=eq_true (by omega);have HR:Hid (bJ l ⟨x0,2,x2,x3,es⟩=false):=zH (by rw[HD4.out,HH.out (by rw[CX.out,hye,decide_eq_false hr0];rfl)]);clear hy HH HN CX;go_wp2;refine tkB xU 18 rfl (by kernel_rfl) (by first|exact zB|assumption) (fun uQ=>?_);simp only[List.replicate];clear hB1;refine tkI [0,1,2,3,4,5,6,7,8,9,10,11,12,13,14] ?_;(iterate 15 (refine tkS rfl (by kernel_rfl) (fun _ _ _=>id) (by rfl) (by intro w h;(try dsimp only at h);go_simp;try rfl) uQ ?_;try simp only[Act.put,tkA,tk0,tk1]));refine tkE ?_;refine wR 15 rfl (by kernel_rfl) (fun K hK=>?_);(try dsimp only at uQ);go_simp;(go_at_call 69;refine(HAT.out _ (ac vB.out uQ.2.2.2)).mono ?_;rintro e w6 ⟨rfl,hbk⟩)
        refine hK.out _ _ ?_ ?_
        ·(try dsimp only);(go_split_ands;first|exact xU.out _ (by assumption)|exact xU.out _ (Below.drew (by assumption))|exact xU.out _ (ac (by assumption) (by assumption)))
        clear hK K uQ;intro uQ;clear hbk;refine tkI [16,17] ?_;(iterate 2 (refine tkS rfl (by kernel_rfl) (fun _ _ _=>id) (by rfl) (by intro w h;(try dsimp only at h);go_simp;try rfl) uQ ?_;try simp only[Act.put,tkA,tk0,tk1]));refine tkE ?_;refine wpAnyH_done (by kernel_rfl) ?_ _;(try dsimp only at uQ);have vI:=zH (ac HB.out (ac vB.out uQ.2.2.2));clear uQ;go_wp2;go_ret;exact⟨ah HR.out.symm,vI.out⟩
     ·have hkl:k=es.length:=by omega
      subst hkl;rw[List.take_length] at HM;have HR:Hid (bJ l ⟨x0,2,x2,x3,es⟩=true):=zH (by rw[HD4.out,HM.out]);have vI:=zH (ac HB.out vB.out);go_wp2;go_ret;exact⟨ah HR.out.symm,vI.out⟩
   ·have hq3:(x0 != 1)=true:=by simp[hx1]
    have Nu:Hid (∀W,Below w1.heap.size w1 W->Calls Tryz.prog 67 #[.agg #[.int .i64 next,.slice a l.length cap],.int .i64 x0] W fun e w'=>e=.returned (.int .i64 (aD l x0:Int))/\Below W.heap.size W w'):=zH (fun W hW=>jv next a l.length cap l x0 W (H.out.step hW) Dh.out);go_wp2_with fail
    refine(Nu.out _ HB2.out).mono ?_;rintro e w3 ⟨rfl,hb⟩;have HB3:=zH (ac HB2.out hb);clear hb c0 c1 d0 d1 d2 d3 d4;obtain⟨⟨c0,c1⟩,⟨d0,d1,d2,d3,d4⟩,-⟩:=uR.out w3 HB3.out;have Bl:w.heap.size<w3.heap.size:=World.block_lt_of_cell? w3 _ c0;have y9:w.heap.size+1<w3.heap.size:=World.block_lt_of_cell? w3 _ d0;by_cases AC:aD l x0=1
    ·have HD4:Hid (bJ l ⟨x0,2,x2,x3,es⟩=es.all (cH l)):=zH (by rw[HD3.out,decide_eq_false hx1,decide_eq_true AC];rfl);have hq4:((aD l x0:Int) != 1)=false:=by simp;omega
     clear hx1 AC;go_wp2;clear c0 c1 d0 d1 d2 d3;go_loopg [5] es.length (fun gg i wr => ∃k:Nat,k+gg=es.length/\i=.int .i64 (k:Int)/\Hid ((es.take k).all (cH l)=true)/\Hid (Below w1.heap.size w1 wr))
     case atStart=>exact⟨0,by omega,rfl,zH rfl,HB3⟩
     case round =>
      obtain⟨k,hk,rfl,HM,vB⟩:=hrel;clear d4;obtain⟨⟨c0,c1⟩,⟨d0,d1,d2,d3,d4⟩,-⟩:=uR.out wr vB.out;have MM:w.heap.size<wr.heap.size:=World.block_lt_of_cell? wr _ c0;have Nv:w.heap.size+1<wr.heap.size:=World.block_lt_of_cell? wr _ d0;by_cases hlt:k<es.length
      ·obtain⟨b,off,rfl,hbs,e0,e1,e2,e3⟩:=ay (HE.out.below vB.out zN) k hlt;have Ff:Hid (∀W,Below wr.heap.size wr W->W.cell? ⟨b,off+k*4+3,none⟩=some (.int .i64 es[k].id)):=zH (fun W hW=>af e3 hW);have HH:Hid (cH l es[k]=false->es.all (cH l)=false):=zH (fun e=>by rw[List.all_eq_false];exact⟨es[k],List.getElem_mem hlt,by rw[e];decide⟩);have HN:Hid (cH l es[k]=true->(es.take (k+1)).all (cH l)=true):=zH (fun e=>by rw[List.take_succ_eq_append_getElem hlt,List.all_append,HM.out];simpa using e);have CX:Hid (cH l es[k]=(!(es[k].id==1)&&decide (0<=atF l es[k].id))):=zH rfl;have hki:(k:Int)<(es.length:Int):=by omega
       have hk0:(0:Int)<=(k:Int):=by omega
       have DD:=zH (fun W (hW:Below wr.heap.size wr W)=>uR.out W (ac vB.out hW));have hB1:=Below.refl wr.heap.size wr;have har:=cL l es[k].id;clear e0 e1 e2 e3;generalize cH l es[k]=kb at *;generalize es[k].id=y at *;clear hlt;have HAT:Hid (∀W,Below w1.heap.size w1 W->Calls Tryz.prog 69 #[.agg #[.int .i64 next,.slice a l.length cap],.int .i64 y] W fun e w'=>e=.returned (.int .i64 (atF l y))/\Below W.heap.size W w'):=zH (fun W hW=>aT next a _ cap l y W (H.out.step hW));generalize atF l y=r at *;have xU:Hid (∀W,Below wr.heap.size wr W->((W.cell? ⟨w.heap.size,0,none⟩=some (Value.int .i64 next)/\W.cell? ⟨w.heap.size,1,none⟩=some (Value.slice a l.length cap))/\(W.cell? ⟨w.heap.size+1,0,none⟩=some (.int .i64 x0)/\W.cell? ⟨w.heap.size+1,1,none⟩=some (.int .i64 2)/\W.cell? ⟨w.heap.size+1,2,none⟩=some (.int .i64 x2)/\W.cell? ⟨w.heap.size+1,3,none⟩=some (.string x3)/\W.cell? ⟨w.heap.size+1,4,none⟩=some (.slice (some ⟨b,off,none⟩) es.length c))/\W.cell? ⟨b,off+k*4+3,none⟩=some (.int .i64 y)/\Below wr.heap.size wr W)):=zH (fun W hW=>⟨(DD.out W hW).1,(DD.out W hW).2.1,Ff.out W hW,hW⟩);by_cases hy:y=1
       ·have hye:(y==1)=true:=by simp[hy]
        have HR:Hid (bJ l ⟨x0,2,x2,x3,es⟩=false):=zH (by rw[HD4.out,HH.out (by rw[CX.out,hye];rfl)]);clear hy HH HN CX har;go_wp2;refine tkB xU 18 rfl (by kernel_rfl) (by first|exact zB|assumption) (fun uQ=>?_);simp only[List.replicate];clear hB1;refine tkI [0,1,2,3,4,5,6,7] ?_;(iterate 8 (refine tkS rfl (by kernel_rfl) (fun _ _ _=>id) (by rfl) (by intro w h;(try dsimp only at h);go_simp;try rfl) uQ ?_;try simp only[Act.put,tkA,tk0,tk1]));refine tkE ?_;refine tkI [8,9,10,11,12,13,14,15,16] ?_;(iterate 9 (refine tkO rfl (by kernel_rfl) (fun _ _ _=>id) (by rfl) uQ ?_;try simp only[Act.put,tkA,tk0,tk1]));refine tkE ?_;refine tkI [17] ?_;(iterate 1 (refine tkS rfl (by kernel_rfl) (fun _ _ _=>id) (by rfl) (by intro w h;(try dsimp only at h);go_simp;try rfl) uQ ?_;try simp only[Act.put,tkA,tk0,tk1]));refine tkE ?_;refine wpAnyH_done (by kernel_rfl) ?_ _;(try dsimp only at uQ);have vI:=zH (ac HB.out (ac vB.out uQ.2.2.2));clear uQ;go_wp2;go_ret;exact⟨ah HR.out.symm,vI.out⟩
       ·have hye:(y==1)=false:=by simp[hy]
        by_cases hr0:0<=r
        ·have hrn:(r<0)=False:=eq_false (by omega);have yf:=zH (HN.out (by rw[CX.out,hye,decide_eq_true hr0];rfl));clear hy HH HN CX;go_wp2;refine tkB xU 18 rfl (by kernel_rfl) (by first|exact zB|assumption) (fun uQ=>?_);simp only[List.replicate];clear hB1;refine tkI [0,1,2,3,4,5,6,7,8,9,10,11,12,13,14] ?_;(iterate 15 (refine tkS rfl (by kernel_rfl) (fun _ _ _=>id) (by rfl) (by intro w h;(try dsimp only at h);go_simp;try rfl) uQ ?_;try simp only[Act.put,tkA,tk0,tk1]));refine tkE ?_;refine wR 15 rfl (by kernel_rfl) (fun K hK=>?_);(try dsimp only at uQ);go_simp;(go_at_call 69;refine(HAT.out _ (ac vB.out uQ.2.2.2)).mono ?_;rintro e w6 ⟨rfl,hbk⟩)
         refine hK.out _ _ ?_ ?_
         ·(try dsimp only);(go_split_ands;first|exact xU.out _ (by assumption)|exact xU.out _ (Below.drew (by assumption))|exact xU.out _ (ac (by assumption) (by assumption)))
         clear hK K uQ;intro uQ;clear hbk;refine tkI [16,17] ?_;(iterate 2 (refine tkS rfl (by kernel_rfl) (fun _ _ _=>id) (by rfl) (by intro w h;(try dsimp only at h);go_simp;try rfl) uQ ?_;try simp only[Act.put,tkA,tk0,tk1]));refine tkE ?_;refine wpAnyH_done (by kernel_rfl) ?_ _;(try dsimp only at uQ);have Nw:=zH (ac vB.out uQ.2.2.2);clear uQ;go_wp2;go_roundg (gk - 1)
         case measure=>omega
         case rel=>exact⟨k+1,by omega,by go_num,yf,Nw⟩
        ·have hrn:(r<0)=True:=eq_true (by omega);have HR:Hid (bJ l ⟨x0,2,x2,x3,es⟩=false):=zH (by rw[HD4.out,HH.out (by rw[CX.out,hye,decide_eq_false hr0];rfl)]);clear hy HH HN CX;go_wp2;refine tkB xU 18 rfl (by kernel_rfl) (by first|exact zB|assumption) (fun uQ=>?_);simp only[List.replicate];clear hB1;refine tkI [0,1,2,3,4,5,6,7,8,9,10,11,12,13,14] ?_;(iterate 15 (refine tkS rfl (by kernel_rfl) (fun _ _ _=>id) (by rfl) (by intro w h;(try dsimp only at h);go_simp;try rfl) uQ ?_;try simp only[Act.put,tkA,tk0,tk1]));refine tkE ?_;refine wR 15 rfl (by kernel_rfl) (fun K hK=>?_);(try dsimp only at uQ);go_simp;(go_at_call 69;refine(HAT.out _ (ac vB.out uQ.2.2.2)).mono ?_;rintro e w6 ⟨rfl,hbk⟩)
         refine hK.out _ _ ?_ ?_
         ·(try dsimp only);(go_split_ands;first|exact xU.out _ (by assumption)|exact xU.out _ (Below.drew (by assumption))|exact xU.out _ (ac (by assumption) (by assumption)))
         clear hK K uQ;intro uQ;clear hbk;refine tkI [16,17] ?_;(iterate 2 (refine tkS rfl (by kernel_rfl) (fun _ _ _=>id) (by rfl) (by intro w h;(try dsimp only at h);go_simp;try rfl) uQ ?_;try simp only[Act.put,tkA,tk0,tk1]));refine tkE ?_;refine wpAnyH_done (by kernel_rfl) ?_ _;(try dsimp only at uQ);have vI:=zH (ac HB.out (ac vB.out uQ.2.2.2));clear uQ;go_wp2;go_ret;exact⟨ah HR.out.symm,vI.out⟩
      ·have hkl:k=es.length:=by omega
       subst hkl;rw[List.take_length] at HM;have HR:Hid (bJ l ⟨x0,2,x2,x3,es⟩=true):=zH (by rw[HD4.out,HM.out]);have vI:=zH (ac HB.out vB.out);go_wp2;go_ret;exact⟨ah HR.out.symm,vI.out⟩
    ·have HR:Hid (bJ l ⟨x0,2,x2,x3,es⟩=false):=zH (by rw[HD3.out,decide_eq_false hx1,decide_eq_false AC];rfl);have vI:=zH (ac HB.out HB3.out);have hq4:((aD l x0:Int) != 1)=true:=by simp;omega
     clear hx1 AC;go_wp2;go_ret;exact⟨ah HR.out.symm,vI.out⟩
end Go.Proofs.YtlkfabkkjfmnmaaGreatDoor
