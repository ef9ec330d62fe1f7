import Derived.Test.YtlkfabkkjfmnmaaGreatDoorZaa
import Derived.Test.YtlkfabkkjfmnmaaGreatDoorZav
import Derived.Laws.Rows
namespace Go.Proofs.YtlkfabkkjfmnmaaGreatDoor
open Go.RowKit
set_option linter.all false
set_option maxRecDepth 1000000
set_option maxHeartbeats 6000000
def ui (k d:Int)(nm:ByteArray)(t:Int)(s dt:ByteArray):Value:=.agg #[.int .i64 k,.int .i64 d,.string nm,.int .i64 t,.string s,.string dt]
def aW (k d:Int)(nm:ByteArray)(t:Int)(s dt:ByteArray):Bool:=
 decide ((1<=k/\k<=8)/\(0<=d/\d<=100000)/\(0<=t/\t<=100000)/\nm.size<=24/\s.size<=24/\dt.size<=20/\((k=5∨k=6)∨(t=0/\s.size=0))/\(k=7∨dt.size=0))
theorem og (s:ByteArray):s.toList.isEmpty=decide (s.size=0):=by
 rw[ByteArray.toList_eq,Bool.eq_iff_iff];obtain⟨a⟩:=s;simp[ByteArray.size]
theorem gJ (s:ByteArray)(h:s.size=0):s.toList.isEmpty=true:=by rw[og];simpa using h
theorem mG (s:ByteArray)(h:s.size≠0):s.toList.isEmpty=false:=by rw[og];simpa using h
theorem kq (k d t:Int)(nm s dt:ByteArray)(h1:nm.size<=maxLen)(h2:s.size<=maxLen)(h3:dt.size<=maxLen)(w:World) :
  Calls Tryz.prog 97 #[ui k d nm t s dt] w fun e w'=>e=.returned (.bool (aW k d nm t s dt))/\Below w.heap.size w w':=by
 unfold maxLen at h1 h2 h3;unfold ui;by_cases hk:1<=k/\k<=8
 ·obtain⟨hk1,hk2⟩:=hk;by_cases hd:0<=d/\d<=100000
  ·obtain⟨hd1,hd2⟩:=hd;by_cases ht:0<=t/\t<=100000
   ·obtain⟨ht1,ht2⟩:=ht;by_cases hn:nm.size<=24
    ·have HH:=zH hn;by_cases hs:s.size<=24
     ·have HH:=zH hs;by_cases hq:dt.size<=20
      ·have HH:=zH hq;by_cases k5:k=5
       ·skip
        by_cases hq0:dt.size=0
        ·have HF:Hid (aW k d nm t s dt=true):=zH (by unfold aW;simp only[decide_eq_true_eq];omega);have f5:((k:Int)==5)=true:=by simp;omega
         have f7:((k:Int)==7)=false:=by simp;omega
         have fq:=gJ dt (by omega);go_enter Tryz.func97,Tryz.ntmps97
         go_wp2_with (first|(go_at_call 39;(first|refine(ao _ _ _ _ (by omega) (by omega)).mono ?_|refine(aG _ _ _ _ (by omega)).mono ?_);rintro e w' ⟨rfl,rfl⟩))
         all_goals go_ret
         all_goals first|exact⟨ah HF.out.symm,zB.alloc zN _⟩|exact⟨ah (by rw[HF.out];assumption),zB.alloc zN _⟩
        ·have HF:Hid (aW k d nm t s dt=false):=zH (by unfold aW;simp only[decide_eq_false_iff_not];omega);have f5:((k:Int)==5)=true:=by simp;omega
         have f7:((k:Int)==7)=false:=by simp;omega
         have fq:=mG dt (by omega);go_enter Tryz.func97,Tryz.ntmps97
         go_wp2_with (first|(go_at_call 39;(first|refine(ao _ _ _ _ (by omega) (by omega)).mono ?_|refine(aG _ _ _ _ (by omega)).mono ?_);rintro e w' ⟨rfl,rfl⟩))
         all_goals go_ret
         all_goals first|exact⟨ah HF.out.symm,zB.alloc zN _⟩|exact⟨ah (by rw[HF.out];assumption),zB.alloc zN _⟩
       by_cases k6:k=6
       ·skip
        by_cases hq0:dt.size=0
        ·have HF:Hid (aW k d nm t s dt=true):=zH (by unfold aW;simp only[decide_eq_true_eq];omega);have f5:((k:Int)==5)=false:=by simp;omega
         have f6:((k:Int)==6)=true:=by simp;omega
         have f7:((k:Int)==7)=false:=by simp;omega
         have fq:=gJ dt (by omega);go_enter Tryz.func97,Tryz.ntmps97
         go_wp2_with (first|(go_at_call 39;(first|refine(ao _ _ _ _ (by omega) (by omega)).mono ?_|refine(aG _ _ _ _ (by omega)).mono ?_);rintro e w' ⟨rfl,rfl⟩))
         all_goals go_ret
         all_goals first|exact⟨ah HF.out.symm,zB.alloc zN _⟩|exact⟨ah (by rw[HF.out];assumption),zB.alloc zN _⟩
        ·have HF:Hid (aW k d nm t s dt=false):=zH (by unfold aW;simp only[decide_eq_false_iff_not];omega);have f5:((k:Int)==5)=false:=by simp;omega
         have f6:((k:Int)==6)=true:=by simp;omega
         have f7:((k:Int)==7)=false:=by simp;omega
         have fq:=mG dt (by omega);go_enter Tryz.func97,Tryz.ntmps97
         go_wp2_with (first|(go_at_call 39;(first|refine(ao _ _ _ _ (by omega) (by omega)).mono ?_|refine(aG _ _ _ _ (by omega)).mono ?_);rintro e w' ⟨rfl,rfl⟩))
         all_goals go_ret
         all_goals first|exact⟨ah HF.out.symm,zB.alloc zN _⟩|exact⟨ah (by rw[HF.out];assumption),zB.alloc zN _⟩
       by_cases ht0:t=0
       ·skip
        by_cases hs0:s.size=0
        ·skip
         by_cases k7:k=7
         ·have HF:Hid (aW k d nm t s dt=true):=zH (by unfold aW;simp only[decide_eq_true_eq];omega);have f5:((k:Int)==5)=false:=by simp;omega
          have f6:((k:Int)==6)=false:=by simp;omega
          have ft:((t:Int)==0)=true:=by simp;omega
          have fs:=gJ s (by omega);have f7:((k:Int)==7)=true:=by simp;omega
          go_enter Tryz.func97,Tryz.ntmps97
          go_wp2_with (first|(go_at_call 39;(first|refine(ao _ _ _ _ (by omega) (by omega)).mono ?_|refine(aG _ _ _ _ (by omega)).mono ?_);rintro e w' ⟨rfl,rfl⟩))
          all_goals go_ret
          all_goals first|exact⟨ah HF.out.symm,zB.alloc zN _⟩|exact⟨ah (by rw[HF.out];assumption),zB.alloc zN _⟩
         ·skip
          by_cases hq0:dt.size=0
          ·have HF:Hid (aW k d nm t s dt=true):=zH (by unfold aW;simp only[decide_eq_true_eq];omega);have f5:((k:Int)==5)=false:=by simp;omega
           have f6:((k:Int)==6)=false:=by simp;omega
           have ft:((t:Int)==0)=true:=by simp;omega
           have fs:=gJ s (by omega);have f7:((k:Int)==7)=false:=by simp;omega
           have fq:=gJ dt (by omega);go_enter Tryz.func97,Tryz.ntmps97
           go_wp2_with (first|(go_at_call 39;(first|refine(ao _ _ _ _ (by omega) (by omega)).mono ?_|refine(aG _ _ _ _ (by omega)).mono ?_);rintro e w' ⟨rfl,rfl⟩))
           all_goals go_ret
           all_goals first|exact⟨ah HF.out.symm,zB.alloc zN _⟩|exact⟨ah (by rw[HF.out];assumption),zB.alloc zN _⟩
          ·have HF:Hid (aW k d nm t s dt=false):=zH (by unfold aW;simp only[decide_eq_false_iff_not];omega);have f5:((k:Int)==5)=false:=by simp;omega
           have f6:((k:Int)==6)=false:=by simp;omega
           have ft:((t:Int)==0)=true:=by simp;omega
           have fs:=gJ s (by omega);have f7:((k:Int)==7)=false:=by simp;omega
           have fq:=mG dt (by omega);go_enter Tryz.func97,Tryz.ntmps97
           go_wp2_with (first|(go_at_call 39;(first|refine(ao _ _ _ _ (by omega) (by omega)).mono ?_|refine(aG _ _ _ _ (by omega)).mono ?_);rintro e w' ⟨rfl,rfl⟩))
           all_goals go_ret
           all_goals first|exact⟨ah HF.out.symm,zB.alloc zN _⟩|exact⟨ah (by rw[HF.out];assumption),zB.alloc zN _⟩
        ·have HF:Hid (aW k d nm t s dt=false):=zH (by unfold aW;simp only[decide_eq_false_iff_not];omega);have f5:((k:Int)==5)=false:=by simp;omega
         have f6:((k:Int)==6)=false:=by simp;omega
         have ft:((t:Int)==0)=true:=by simp;omega
         have fs:=mG s (by omega);go_enter Tryz.func97,Tryz.ntmps97
         go_wp2_with (first|(go_at_call 39;(first|refine(ao _ _ _ _ (by omega) (by omega)).mono ?_|refine(aG _ _ _ _ (by omega)).mono ?_);rintro e w' ⟨rfl,rfl⟩))
         all_goals go_ret
         all_goals first|exact⟨ah HF.out.symm,zB.alloc zN _⟩|exact⟨ah (by rw[HF.out];assumption),zB.alloc zN _⟩
       ·have HF:Hid (aW k d nm t s dt=false):=zH (by unfold aW;simp only[decide_eq_false_iff_not];omega);have f5:((k:Int)==5)=false:=by simp;omega
        have f6:((k:Int)==6)=false:=by simp;omega
        have ft:((t:Int)==0)=false:=by simp;omega
        go_enter Tryz.func97,Tryz.ntmps97
        go_wp2_with (first|(go_at_call 39;(first|refine(ao _ _ _ _ (by omega) (by omega)).mono ?_|refine(aG _ _ _ _ (by omega)).mono ?_);rintro e w' ⟨rfl,rfl⟩))
        all_goals go_ret
        all_goals first|exact⟨ah HF.out.symm,zB.alloc zN _⟩|exact⟨ah (by rw[HF.out];assumption),zB.alloc zN _⟩
      ·have HF:Hid (aW k d nm t s dt=false):=zH (by unfold aW;simp only[decide_eq_false_iff_not];omega);have hq':20<dt.size:=by omega
       clear hq;go_enter Tryz.func97,Tryz.ntmps97
       go_wp2_with (first|(go_at_call 39;(first|refine(ao _ _ _ _ (by omega) (by omega)).mono ?_|refine(aG _ _ _ _ (by omega)).mono ?_);rintro e w' ⟨rfl,rfl⟩))
       all_goals go_ret
       all_goals first|exact⟨ah HF.out.symm,zB.alloc zN _⟩|exact⟨ah (by rw[HF.out];assumption),zB.alloc zN _⟩
     ·have HF:Hid (aW k d nm t s dt=false):=zH (by unfold aW;simp only[decide_eq_false_iff_not];omega);have hs':24<s.size:=by omega
      clear hs;go_enter Tryz.func97,Tryz.ntmps97
      go_wp2_with (first|(go_at_call 39;(first|refine(ao _ _ _ _ (by omega) (by omega)).mono ?_|refine(aG _ _ _ _ (by omega)).mono ?_);rintro e w' ⟨rfl,rfl⟩))
      all_goals go_ret
      all_goals first|exact⟨ah HF.out.symm,zB.alloc zN _⟩|exact⟨ah (by rw[HF.out];assumption),zB.alloc zN _⟩
    ·have HF:Hid (aW k d nm t s dt=false):=zH (by unfold aW;simp only[decide_eq_false_iff_not];omega);have hn':24<nm.size:=by omega
     clear hn;go_enter Tryz.func97,Tryz.ntmps97
     go_wp2_with (first|(go_at_call 39;(first|refine(ao _ _ _ _ (by omega) (by omega)).mono ?_|refine(aG _ _ _ _ (by omega)).mono ?_);rintro e w' ⟨rfl,rfl⟩))
     all_goals go_ret
     all_goals first|exact⟨ah HF.out.symm,zB.alloc zN _⟩|exact⟨ah (by rw[HF.out];assumption),zB.alloc zN _⟩
   ·have HF:Hid (aW k d nm t s dt=false):=zH (by unfold aW;simp only[decide_eq_false_iff_not];omega);have ht':t<0∨100000<t:=by omega
    clear ht;go_enter Tryz.func97,Tryz.ntmps97
    go_wp2_with (first|(go_at_call 39;(first|refine(ao _ _ _ _ (by omega) (by omega)).mono ?_|refine(aG _ _ _ _ (by omega)).mono ?_);rintro e w' ⟨rfl,rfl⟩))
    all_goals go_ret
    all_goals first|exact⟨ah HF.out.symm,zB.alloc zN _⟩|exact⟨ah (by rw[HF.out];assumption),zB.alloc zN _⟩
  ·have HF:Hid (aW k d nm t s dt=false):=zH (by unfold aW;simp only[decide_eq_false_iff_not];omega);have hd':d<0∨100000<d:=by omega
   clear hd;go_enter Tryz.func97,Tryz.ntmps97
   go_wp2_with (first|(go_at_call 39;(first|refine(ao _ _ _ _ (by omega) (by omega)).mono ?_|refine(aG _ _ _ _ (by omega)).mono ?_);rintro e w' ⟨rfl,rfl⟩))
   all_goals go_ret
   all_goals first|exact⟨ah HF.out.symm,zB.alloc zN _⟩|exact⟨ah (by rw[HF.out];assumption),zB.alloc zN _⟩
 ·have HF:Hid (aW k d nm t s dt=false):=zH (by unfold aW;simp only[decide_eq_false_iff_not];omega);have hk':k<1∨8<k:=by omega
  clear hk;go_enter Tryz.func97,Tryz.ntmps97
  go_wp2_with (first|(go_at_call 39;(first|refine(ao _ _ _ _ (by omega) (by omega)).mono ?_|refine(aG _ _ _ _ (by omega)).mono ?_);rintro e w' ⟨rfl,rfl⟩))
  all_goals go_ret
  all_goals first|exact⟨ah HF.out.symm,zB.alloc zN _⟩|exact⟨ah (by rw[HF.out];assumption),zB.alloc zN _⟩
theorem Bx.pass {w W W':World}{next:Int}{a:Option Addr}{n cap:Nat}{kd dir:Int}{nm:ByteArray}{tt:Int}{sa dt:ByteArray}(hb:Bx w next a n cap kd dir nm tt sa dt W')(hz:w.heap.size+4<=W.heap.size){B:Nat}{W0:World}{a0 a9:Option Addr}{c0 c9:Nat}{m0 m9:List InoP}(h0:VolOwn B W0 a0 c0 m0 w){nx:Int}(hv:VolOwn B W' a9 c9 m9 W')(hi:Inv d0 nx (xs m9))(hq:∀q,au a9 c9 m9 q->au a0 c0 m0 q∨W.heap.size<=q)(v0 v1:Int)(v2 v3:ByteArray) :
  a6 B (au a0 c0 m0) w (.returned (.tuple #[.agg #[.int .i64 nx,.slice a9 m9.length c9],.agg #[.int .i64 v0,.int .i64 v1,.string v2,.string v3]])) ((((((W'.setCell ⟨w.heap.size+2,0,none⟩ (.int .i64 nx)).setCell ⟨w.heap.size+2,1,none⟩ (.slice a9 m9.length c9)).setCell ⟨w.heap.size+3,0,none⟩ (.int .i64 v0)).setCell ⟨w.heap.size+3,1,none⟩ (.int .i64 v1)).setCell ⟨w.heap.size+3,2,none⟩ (.string v2)).setCell ⟨w.heap.size+3,3,none⟩ (.string v3)):=by
 have hs:=hb.out (.int .i64 nx) (.slice a9 m9.length c9) (.int .i64 v0) (.int .i64 v1) (.string v2) (.string v3);have hne:∀r,w.heap.size<=r->r<w.heap.size+4->∀q,au a9 c9 m9 q->q≠r:=fun r h1 h2 q hq2=>by
  rcases hq q hq2 with h|h
  ·have:=(h0.bl q h).2;omega
  ·omega
 exact⟨nx,a9,c9,m9,v0,v1,v2,v3,rfl,hi,hv.res6 _ _ (hne _ (by omega) (by omega)) (hne _ (by omega) (by omega)) _ _ _ _ _ _,hs.2,fun q hq2=>by
  rcases hq q hq2 with h|h
  ·exact .inl h
  ·exact .inr (by omega)⟩
theorem sH (l:List EntL)(p:EntL->Bool):l.any p=false∨∃(q:Nat) (hq:q<l.length),(l.take q).any p=false/\p l[q]=true:=by
 by_cases h:l.any p=true
 ·right
  obtain⟨x,hx,hp⟩:=List.any_eq_true.1 h;have hq:l.findIdx p<l.length:=List.findIdx_lt_length.2 ⟨x,hx,hp⟩;refine⟨l.findIdx p,hq,?_,List.findIdx_getElem⟩;rw[List.any_eq_false];intro y hy;obtain⟨i,hi,rfl⟩:=List.mem_iff_getElem.1 hy;have hi2:i<l.findIdx p:=by have:=List.length_take_le (l.findIdx p) l;omega
  rw[List.getElem_take];exact fun h=>by rw[List.not_of_lt_findIdx hi2] at h;cases h
 ·left
  simpa using h
structure Br (w:World)(next:Int)(a:Option Addr)(n cap:Nat)(kd dir:Int)(nm:ByteArray)(tt:Int)(sa dt:ByteArray)(xi xk xl:Int)(xd:ByteArray)(xe:Value)(W:World):Prop where
 v:Cs W w.heap.size [.int .i64 next,.slice a n cap]
 c:Cs W (w.heap.size+1) [.int .i64 kd,.int .i64 dir,.string nm,.int .i64 tt,.string sa,.string dt]
 x:Cs W (w.heap.size+2) [.int .i64 xi,.int .i64 xk,.int .i64 xl,.string xd,xe]
 r:Cs W (w.heap.size+3) [.int .i64 0,.slice none 0 0]
 s:Cs W (w.heap.size+4) [.int .i64 0,.int .i64 0,.string ⟨#[]⟩,.string ⟨#[]⟩]
 b:Below w.heap.size w W
theorem jk (w:World)(next:Int)(a:Option Addr)(n cap:Nat)(kd dir:Int)(nm:ByteArray)(tt:Int)(sa dt:ByteArray)(xi xk xl:Int)(xd:ByteArray)(xe:Value):Br w next a n cap kd dir nm tt sa dt xi xk xl xd xe (((((w.alloc (.cells #[.int .i64 next,.slice a n cap] 26)).alloc (.cells #[.int .i64 kd,.int .i64 dir,.string nm,.int .i64 tt,.string sa,.string dt] 94)).alloc (.cells #[.int .i64 xi,.int .i64 xk,.int .i64 xl,.string xd,xe] 45)).alloc (.cells #[.int .i64 0,.slice none 0 0] 26)).alloc (.cells #[.int .i64 0,.int .i64 0,.string ⟨#[]⟩,.string ⟨#[]⟩] 90)):=by
 have h1:(w.alloc (.cells #[.int .i64 next,.slice a n cap] 26)).heap.size=w.heap.size+1:=by simp
 have h2:((w.alloc (.cells #[.int .i64 next,.slice a n cap] 26)).alloc (.cells #[.int .i64 kd,.int .i64 dir,.string nm,.int .i64 tt,.string sa,.string dt] 94)).heap.size=w.heap.size+2:=by simp
 have h3:(((w.alloc (.cells #[.int .i64 next,.slice a n cap] 26)).alloc (.cells #[.int .i64 kd,.int .i64 dir,.string nm,.int .i64 tt,.string sa,.string dt] 94)).alloc (.cells #[.int .i64 xi,.int .i64 xk,.int .i64 xl,.string xd,xe] 45)).heap.size=w.heap.size+3:=by simp
 have h4:((((w.alloc (.cells #[.int .i64 next,.slice a n cap] 26)).alloc (.cells #[.int .i64 kd,.int .i64 dir,.string nm,.int .i64 tt,.string sa,.string dt] 94)).alloc (.cells #[.int .i64 xi,.int .i64 xk,.int .i64 xl,.string xd,xe] 45)).alloc (.cells #[.int .i64 0,.slice none 0 0] 26)).heap.size=w.heap.size+4:=by simp
 have c1:=ar (w.alloc (.cells #[.int .i64 next,.slice a n cap] 26)) 94 #[.int .i64 kd,.int .i64 dir,.string nm,.int .i64 tt,.string sa,.string dt];have c2:=ar ((w.alloc (.cells #[.int .i64 next,.slice a n cap] 26)).alloc (.cells #[.int .i64 kd,.int .i64 dir,.string nm,.int .i64 tt,.string sa,.string dt] 94)) 45 #[.int .i64 xi,.int .i64 xk,.int .i64 xl,.string xd,xe];have c3:=ar (((w.alloc (.cells #[.int .i64 next,.slice a n cap] 26)).alloc (.cells #[.int .i64 kd,.int .i64 dir,.string nm,.int .i64 tt,.string sa,.string dt] 94)).alloc (.cells #[.int .i64 xi,.int .i64 xk,.int .i64 xl,.string xd,xe] 45)) 26 #[.int .i64 0,.slice none 0 0];have c4:=ar ((((w.alloc (.cells #[.int .i64 next,.slice a n cap] 26)).alloc (.cells #[.int .i64 kd,.int .i64 dir,.string nm,.int .i64 tt,.string sa,.string dt] 94)).alloc (.cells #[.int .i64 xi,.int .i64 xk,.int .i64 xl,.string xd,xe] 45)).alloc (.cells #[.int .i64 0,.slice none 0 0] 26)) 90 #[.int .i64 0,.int .i64 0,.string ⟨#[]⟩,.string ⟨#[]⟩];rw[h1] at c1;rw[h2] at c2;rw[h3] at c3;rw[h4] at c4;exact⟨((((ar w 26 #[.int .i64 next,.slice a n cap]).alloc _).alloc _).alloc _).alloc _,((c1.alloc _).alloc _).alloc _,(c2.alloc _).alloc _,c3.alloc _,c4,((((az w _).alloc (by simp) _).alloc (by rw[h2];omega) _).alloc (by rw[h3];omega) _).alloc (by rw[h4];omega) _⟩
theorem Br.below {w W W':World}{next:Int}{a:Option Addr}{n cap:Nat}{kd dir:Int}{nm:ByteArray}{tt:Int}{sa dt:ByteArray}{xi xk xl:Int}{xd:ByteArray}{xe:Value}(h:Br w next a n cap kd dir nm tt sa dt xi xk xl xd xe W)(hb:Below W.heap.size W W'):Br w next a n cap kd dir nm tt sa dt xi xk xl xd xe W':=
 ⟨h.v.below hb,h.c.below hb,h.x.below hb,h.r.below hb,h.s.below hb,ac h.b hb⟩
theorem Br.grown {w W W':World}{next:Int}{a:Option Addr}{n cap:Nat}{kd dir:Int}{nm:ByteArray}{tt:Int}{sa dt:ByteArray}{xi xk xl:Int}{xd:ByteArray}{xe:Value}(h:Br w next a n cap kd dir nm tt sa dt xi xk xl xd xe W){r:Option Nat}(hg:W.grownBy W' r)(hr:∀q,r=some q->w.heap.size+5<=q):Br w next a n cap kd dir nm tt sa dt xi xk xl xd xe W':=
 ⟨h.v.grown hg (fun e=>by have:=hr _ e;omega),h.c.grown hg (fun e=>by have:=hr _ e;omega),h.x.grown hg (fun e=>by have:=hr _ e;omega),h.r.grown hg (fun e=>by have:=hr _ e;omega),h.s.grown hg (fun e=>by have:=hr _ e;omega),h.b.grown hg h.b.size (fun q hq=>by have:=hr q hq;omega)⟩
theorem Br.far {w W:World}{next:Int}{a:Option Addr}{n cap:Nat}{kd dir:Int}{nm:ByteArray}{tt:Int}{sa dt:ByteArray}{xi xk xl:Int}{xd:ByteArray}{xe:Value}(h:Br w next a n cap kd dir nm tt sa dt xi xk xl xd xe W)(g j:Nat)(u:Value)(hg:w.heap.size+5<=g):Br w next a n cap kd dir nm tt sa dt xi xk xl xd xe (W.setCell ⟨g,j,none⟩ u):=
 h.grown (ae W g j u) (fun q hq=>by cases hq;exact hg)
theorem Br.size {w W:World}{next:Int}{a:Option Addr}{n cap:Nat}{kd dir:Int}{nm:ByteArray}{tt:Int}{sa dt:ByteArray}{xi xk xl:Int}{xd:ByteArray}{xe:Value}(h:Br w next a n cap kd dir nm tt sa dt xi xk xl xd xe W):w.heap.size+5<=W.heap.size:=by have:=h.s.lt;omega
theorem Br.out {w W:World}{next:Int}{a:Option Addr}{n cap:Nat}{kd dir:Int}{nm:ByteArray}{tt:Int}{sa dt:ByteArray}{xi xk xl:Int}{xd:ByteArray}{xe:Value}(h:Br w next a n cap kd dir nm tt sa dt xi xk xl xd xe W)(u0 u1 v0 v1 v2 v3:Value) :
  (Cs ((((((W.setCell ⟨w.heap.size+3,0,none⟩ u0).setCell ⟨w.heap.size+3,1,none⟩ u1).setCell ⟨w.heap.size+4,0,none⟩ v0).setCell ⟨w.heap.size+4,1,none⟩ v1).setCell ⟨w.heap.size+4,2,none⟩ v2).setCell ⟨w.heap.size+4,3,none⟩ v3) (w.heap.size+3) [u0,u1]/\Cs ((((((W.setCell ⟨w.heap.size+3,0,none⟩ u0).setCell ⟨w.heap.size+3,1,none⟩ u1).setCell ⟨w.heap.size+4,0,none⟩ v0).setCell ⟨w.heap.size+4,1,none⟩ v1).setCell ⟨w.heap.size+4,2,none⟩ v2).setCell ⟨w.heap.size+4,3,none⟩ v3) (w.heap.size+4) [v0,v1,v2,v3])/\Below w.heap.size w ((((((W.setCell ⟨w.heap.size+3,0,none⟩ u0).setCell ⟨w.heap.size+3,1,none⟩ u1).setCell ⟨w.heap.size+4,0,none⟩ v0).setCell ⟨w.heap.size+4,1,none⟩ v1).setCell ⟨w.heap.size+4,2,none⟩ v2).setCell ⟨w.heap.size+4,3,none⟩ v3):=
 ⟨pP h.r h.s (by omega) u0 u1 v0 v1 v2 v3,kh h.b _ _ (by omega) (by omega) u0 u1 v0 v1 v2 v3⟩
theorem Br.same {w W:World}{next:Int}{a:Option Addr}{cap:Nat}{kd dir:Int}{nm:ByteArray}{tt:Int}{sa dt:ByteArray}{xi xk xl:Int}{xd:ByteArray}{xe:Value}{m:List InoP}(hb:Br w next a m.length cap kd dir nm tt sa dt xi xk xl xd xe W){B:Nat}{W0:World}(h:VolOwn B W0 a cap m w)(hi:Inv d0 next (xs m))(v0 v1:Int)(v2 v3:ByteArray) :
  a6 B (au a cap m) w (.returned (.tuple #[.agg #[.int .i64 next,.slice a m.length cap],.agg #[.int .i64 v0,.int .i64 v1,.string v2,.string v3]])) ((((((W.setCell ⟨w.heap.size+3,0,none⟩ (.int .i64 next)).setCell ⟨w.heap.size+3,1,none⟩ (.slice a m.length cap)).setCell ⟨w.heap.size+4,0,none⟩ (.int .i64 v0)).setCell ⟨w.heap.size+4,1,none⟩ (.int .i64 v1)).setCell ⟨w.heap.size+4,2,none⟩ (.string v2)).setCell ⟨w.heap.size+4,3,none⟩ (.string v3)):=
 ⟨next,a,cap,m,v0,v1,v2,v3,rfl,hi,(h.kept hb.b).res6 _ _ (fun q hq=>by have:=(h.bl q hq).2;omega) (fun q hq=>by have:=(h.bl q hq).2;omega) _ _ _ _ _ _,(hb.out _ _ _ _ _ _).2,fun q hq => .inl hq⟩
theorem Br.new {Q:Nat->Prop}{w W W1 W2:World}{next:Int}{a:Option Addr}{n cap:Nat}{kd dir:Int}{nm:ByteArray}{tt:Int}{sa dt:ByteArray}{xi xk xl:Int}{xd:ByteArray}{xe:Value}(hb1:w.heap.size+5<=W1.heap.size)(hb:Br w next a n cap kd dir nm tt sa dt xi xk xl xd xe W){B:Nat}(hB:B<=w.heap.size){nx:Int}{a':Option Addr}{c':Nat}{m':List InoP}(h:VolOwn W1.heap.size W2 a' c' m' W)(hi:Inv d0 nx (xs m'))(v0 v1:Int)(v2 v3:ByteArray) :
  a6 B Q w (.returned (.tuple #[.agg #[.int .i64 nx,.slice a' m'.length c'],.agg #[.int .i64 v0,.int .i64 v1,.string v2,.string v3]])) ((((((W.setCell ⟨w.heap.size+3,0,none⟩ (.int .i64 nx)).setCell ⟨w.heap.size+3,1,none⟩ (.slice a' m'.length c')).setCell ⟨w.heap.size+4,0,none⟩ (.int .i64 v0)).setCell ⟨w.heap.size+4,1,none⟩ (.int .i64 v1)).setCell ⟨w.heap.size+4,2,none⟩ (.string v2)).setCell ⟨w.heap.size+4,3,none⟩ (.string v3)):=by
 have hs:=hb.out (.int .i64 nx) (.slice a' m'.length c') (.int .i64 v0) (.int .i64 v1) (.string v2) (.string v3);have hl:=hs.1.2.lt;have h6:=h.res6 (w.heap.size+3) (w.heap.size+4) (fun q hq=>by have:=(h.bl q hq).1;omega) (fun q hq=>by have:=(h.bl q hq).1;omega) (.int .i64 nx) (.slice a' m'.length c') (.int .i64 v0) (.int .i64 v1) (.string v2) (.string v3);exact⟨nx,a',c',m',v0,v1,v2,v3,rfl,hi,cf h6 (by omega) zB (by omega),hs.2,fun q hq => .inr (by have:=(h.bl q hq).1;omega)⟩
theorem mY {s t u:ByteArray}(h:RQ s t=true):RQ t u=RQ s u:=by
 unfold RQ at h ⊢;simp only[Bool.and_eq_true] at h;obtain⟨⟨h1,h2⟩,h3⟩:=h;have e:(ds s).toList=(ds t).toList:=eq_of_beq h3;rw[h1,h2,e]
theorem tj {l:List EntL}{p:EntL->Bool}{q:Nat}(hq:q<l.length)(e:EntL)(he:p e=p l[q])(j:Nat):((l.set q e).take j).any p=(l.take j).any p:=by
 have h:(l.set q e).map p=l.map p:=by
  rw[List.map_set,he];refine List.ext_getElem (by simp) fun i h1 h2=>?_
  rw[List.getElem_set];split
  ·next h=>subst h;simp
  ·rfl
 have h2:∀r:List EntL,r.any p=(r.map p).any id:=fun r=>by rw[List.any_map];rfl
 rw[h2,h2,List.map_take,List.map_take,h]
theorem rl {l:List EntL}{p:EntL->Bool}(h:l.any p=false)(j:Nat):(l.eraseIdx j).any p=false:=by
 rw[List.any_eq_false] at h ⊢;exact fun x hx=>h x (List.mem_of_mem_eraseIdx hx)
theorem kA {d:Int->Int}{next:Int}{m:List InoP}(h:Inv d next (xs m)){i j:Int}{k k':Nat}(h1:atF (xs m) i=(k:Int))(h2:atF (xs m) j=(k':Int)):k=k' ↔ i=j:=by
 constructor
 ·intro e;subst e;obtain⟨_,e1⟩:=gL _ _ _ h1;obtain⟨_,e2⟩:=gL _ _ _ h2;rw[←e1,←e2]
 ·intro e;subst e;have:=h1.symm.trans h2;omega
theorem i5 {m:List InoP}{k1 k2:Nat}{Y1 Y2:InoL}{a1 a2:Option Addr}{c1 c2:Nat}(h1:m[k1]? = some ⟨Y1,a1,c1⟩)(h2:m[k2]? = some ⟨Y2,a2,c2⟩)(j:Nat)(hj:j<Y1.ents.length)(gd:Option Addr)(cd:Nat)(p:EntL->Bool)(hno:Y2.ents.any p=false)(hl:Y2.ents.length<=12)(hlt:k1≠k2->Y2.ents.length<12) :
  ∃(Z:InoL) (za:Option Addr) (zc:Nat),(m.set k1 ⟨{ Y1 with ents:=Y1.ents.eraseIdx j },gd,cd⟩)[k2]? = some ⟨Z,za,zc⟩/\Z.kind=Y2.kind/\Z.ents.any p=false/\Z.ents.length<12/\(∀e∈Z.ents,e∈Y2.ents):=by
 by_cases e:k1=k2
 ·subst e;rw[h1] at h2;cases h2;refine⟨_,_,_,er h1,rfl,rl hno j,?_,fun e he=>List.mem_of_mem_eraseIdx he⟩;have:=List.length_eraseIdx_of_lt hj;dsimp only;omega
 ·exact⟨Y2,a2,c2,by rw[cT e];exact h2,rfl,hno,hlt e,fun e he=>he⟩
theorem mR {m:List InoP}{k1 k2:Nat}{Y1 Y2:InoL}{a1 a2:Option Addr}{c1 c2:Nat}(h1:m[k1]? = some ⟨Y1,a1,c1⟩)(h2:m[k2]? = some ⟨Y2,a2,c2⟩)(j:Nat)(hj:j<Y1.ents.length)(q:Nat)(hq:q<Y2.ents.length)(nm sa:ByteArray)(hj1:(Y1.ents.take j).any (fun x=>RQ x.name nm)=false)(hj2:RQ Y1.ents[j].name nm=true)(hq2:RQ Y2.ents[q].name sa=true)
  (hid:Y1.ents[j].id≠Y2.ents[q].id) (hsz1:∀e∈Y1.ents,e.name.size<=1073741824) (hsa:sa.size<=1073741824) (e:EntL) (hen:e.name=sa) (ad:Option Addr) (c:Nat) :
  ∃(Z:InoL) (za:Option Addr) (zc:Nat),(m.set k2 ⟨{ Y2 with ents:=Y2.ents.set q e },ad,c⟩)[k1]? = some ⟨Z,za,zc⟩/\∃hjz:j<Z.ents.length,(Z.ents.take j).any (fun x=>RQ x.name nm)=false/\RQ Z.ents[j].name nm=true/\Z.ents[j].id=Y1.ents[j].id/\(∀x∈Z.ents,x.name.size<=1073741824)/\Z.ents.length=Y1.ents.length:=by
 by_cases ek:k1=k2
 ·subst ek;rw[h1] at h2;cases h2;have hne:q≠j:=fun e2=>hid (by subst e2;rfl)
  refine⟨_,_,_,er h1,by dsimp only;rw[List.length_set];exact hj,?_,?_,?_,?_,by dsimp only;rw[List.length_set]⟩
  ·dsimp only;rw[tj hq e (by rw[hen];exact mY hq2)];exact hj1
  ·dsimp only;rw[List.getElem_set_ne hne];exact hj2
  ·dsimp only;rw[List.getElem_set_ne hne]
  ·intro x hx;rcases List.mem_or_eq_of_mem_set hx with hx|rfl
   ·exact hsz1 x hx
   ·rw[hen];exact hsa
 ·exact⟨Y1,a1,c1,by rw[cT (fun e=>ek e.symm)];exact h1,hj,hj1,hj2,rfl,hsz1,rfl⟩
theorem aY {Post:Ending->World->Prop}{a:Act}{wf:World}{R S:Nat}{u0:Int}{u1:Value}{v0 v1:Int}{v2 v3:ByteArray}(hc:Cs wf R [.int .i64 u0,u1]/\Cs wf S [.int .i64 v0,.int .i64 v1,.string v2,.string v3])(h4:a.tmps[6]?.getD undef=.pointer (some ⟨R,0,none⟩))(h5:a.tmps[7]?.getD undef=.pointer (some ⟨S,0,none⟩))(hd:a.defers = [])
  (hp:Post (.returned (.tuple #[.agg #[.int .i64 u0,u1],.agg #[.int .i64 v0,.int .i64 v1,.string v2,.string v3]])) wf):bodyPost Tryz.prog Tryz.f127 Post Exit.ret a wf:=by
 obtain⟨⟨r0,r1⟩,-⟩:=hc.1.two;obtain⟨⟨s0,s1,s2,s3⟩,-⟩:=hc.2.four;exact bodyPost_ret (v:=.tuple #[.agg #[.int .i64 u0,u1],.agg #[.int .i64 v0,.int .i64 v1,.string v2,.string v3]]) (by simp[results,Tryz.results127,go_sem,h4,h5,r0,r1,s0,s1,s2,s3]) hd hp
end Go.Proofs.YtlkfabkkjfmnmaaGreatDoor
