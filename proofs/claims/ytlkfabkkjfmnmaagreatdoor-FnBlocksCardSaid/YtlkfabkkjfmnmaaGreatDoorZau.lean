import Derived.Test.YtlkfabkkjfmnmaaGreatDoorZar
import Derived.Test.YtlkfabkkjfmnmaaGreatDoorZas
import Derived.Test.YtlkfabkkjfmnmaaGreatDoorZat
namespace Go.Proofs.YtlkfabkkjfmnmaaGreatDoor
open Go.RowKit
set_option linter.all false
set_option maxRecDepth 1000000
set_option maxHeartbeats 6000000
theorem oH {Post:Ending->World->Prop}{a:Act}{wf:World}{R:Nat}{u0:Int}{u1:Value}(hc:Cs wf R [.int .i64 u0,u1])(h2:a.tmps[4]?.getD undef=.pointer (some ⟨R,0,none⟩))(hd:a.defers = [])
  (hp:Post (.returned (.agg #[.int .i64 u0,u1])) wf):bodyPost Tryz.prog Tryz.f141 Post Exit.ret a wf:=by
 obtain⟨⟨r0,r1⟩,-⟩:=hc.two;exact bodyPost_ret (v:=.agg #[.int .i64 u0,u1]) (by simp[results,Tryz.results141,go_sem,h2,r0,r1]) hd hp
theorem nK {m:List InoP}{p:InoP->Bool}{j:Nat}(h:j<m.length):(m.take (j+1)).filter p=(m.take j).filter p++(if p m[j]=true then [m[j]] else []):=by
 rw[List.take_succ_eq_append_getElem h,List.filter_append];congr 1
 by_cases e:p m[j]=true
 ·rw[if_pos e,List.filter_cons_of_pos e];rfl
 ·rw[if_neg e,List.filter_cons_of_neg e];rfl
def np (B:Nat)(next:Int)(m:List InoP)(w:World)(e:Ending)(w':World):Prop:=
 ∃(a:Option Addr) (c:Nat),e=.returned (.agg #[.int .i64 next,.slice a m.length c])/\VolOwn B w' a c m w'/\Below w.heap.size w w'/\∀q,(Value.slice a m.length c).ownBlock=some q->w.heap.size<=q
theorem pm (B:Nat)(W0:World)(next:Int)(a:Option Addr)(cap:Nat)(m:List InoP)(id:Int)(w:World)(h:VolOwn B W0 a cap m w)(yg:m.length<=100000) :
  Calls Tryz.prog 141 #[.agg #[.int .i64 next,.slice a m.length cap],.int .i64 id] w (np B next (m.filter (fun y => !(y.x.id==id))) w):=by
 have hm:=bj h.p;have hBw:=h.top.base;have wC:=zH ((ar w 26 #[.int .i64 next,.slice a m.length cap]).alloc (.cells #[.int .i64 0,.slice none 0 0] 26));have HR1:=zH (ar (w.alloc (.cells #[.int .i64 next,.slice a m.length cap] 26)) 26 #[.int .i64 0,.slice none 0 0]);have hs1:(w.alloc (.cells #[.int .i64 next,.slice a m.length cap] 26)).heap.size=w.heap.size+1:=by simp
 have yF:=zH (Own.lit (e:=45) (size:=5) (n:=0) (Below.refl ((w.alloc (.cells #[.int .i64 next,.slice a m.length cap] 26)).alloc (.cells #[.int .i64 0,.slice none 0 0] 26)).heap.size _) zN #[] rfl (by decide));have hs2:((w.alloc (.cells #[.int .i64 next,.slice a m.length cap] 26)).alloc (.cells #[.int .i64 0,.slice none 0 0] 26)).heap.size=w.heap.size+2:=by simp
 have H:=zH h;rw[hs1] at HR1;rw[hs2] at yF;clear h;have NE:Hid (m.length<=100000):=zH yg;generalize hp:(fun y:InoP => !(y.x.id==id))=p at *;have HP:=zH (fun y:InoP=>congrFun hp y);have HW:=zH (fun W (hW:Below (w.heap.size+2) ((w.alloc (.cells #[.int .i64 next,.slice a m.length cap] 26)).alloc (.cells #[.int .i64 0,.slice none 0 0] 26)) W)=>ac ((az w (.cells #[.int .i64 next,.slice a m.length cap] 26)).alloc (by simp) (.cells #[.int .i64 0,.slice none 0 0] 26)) (hW.mono (by simp)));clear hp;go_enter Tryz.func141,Tryz.ntmps141
 go_wp2;generalize (w.alloc (.cells #[.int .i64 next,.slice a m.length cap] 26)).alloc (.cells #[.int .i64 0,.slice none 0 0] 26)=w2 at *;go_loopg [5,6] m.length (fun gg o i wr => ∃(j:Nat) (a':Option Addr) (c':Nat),j+gg=m.length/\i=.int .i64 (j:Int)/\o=.slice a' ((m.take j).filter p).length c'/\Hid (Own 45 5 (w.heap.size+2) w2 (.slice a' ((m.take j).filter p).length c') ((m.take j).filter p).length (ins ((m.take j).filter p)) wr))
 case atStart=>exact⟨0,_,_,by omega,rfl,rfl,yF⟩
 case round =>
  obtain⟨j,a',c',hj,rfl,rfl,HO⟩:=hrel;have wy:=zH (HW.out _ HO.out.below);have HS:Hid (Cs wr w.heap.size [.int .i64 next,.slice a m.length cap]/\Cs wr (w.heap.size+1) [.int .i64 0,.slice none 0 0]):=zH ⟨wC.out.below (HO.out.below.mono (by omega)),HR1.out.below (HO.out.below.mono (by omega))⟩;have v0:=HS.out.1.two;have HV:=zH (H.out.kept wy.out);have hfl:((m.take j).filter p).length<=j:=Nat.le_trans (List.length_filter_le _ _) (by rw[List.length_take];omega);have hjm:j<=m.length:=by omega
  have Rm:m.length<=100000:=NE.out;by_cases hlt:j<m.length
  ·obtain⟨b,off,rfl,hbb,d0,d1,d2,d3,d4,-⟩:=aC HV.out.p (List.getElem?_eq_getElem hlt);have hi:(j:Int)<(m.length:Int):=by omega
   have hi0:(0:Int)<=(j:Int):=by omega
   have HN:=zH (nK (p:=p) hlt);have IX:=zH (HP.out m[j]);have xz:Hid (ins [m[j]]=in1 m[j]):=zH (by simp[ins]);unfold in1 at xz;generalize m[j]=y at *;obtain⟨⟨y0,y1,y2,y3,y4⟩,yad,ycap⟩:=y;try simp only at d0 d1 d2 d3 d4 IX xz
   generalize y4.length=yn at *;by_cases he:y0=id
   ·have hne:(y0 != id)=false:=by simp[he]
    have yf:Hid ((m.take (j+1)).filter p=(m.take j).filter p):=zH (by rw[HN.out,←IX.out,if_neg (by simp[he]),List.append_nil]);clear he HN IX xz;go_wp2;go_roundg (gk - 1)
    case measure=>omega
    case rel=>exact⟨j+1,a',c',by omega,by go_num,by rw[yf.out],zH (by rw[yf.out];exact HO.out)⟩
   ·have hne:(y0 != id)=true:=by simp[he]
    have yf:Hid (ins ((m.take (j+1)).filter p)=ins ((m.take j).filter p) ++ [.int .i64 y0,.int .i64 y1,.int .i64 y2,.string y3,.slice yad yn ycap]/\((m.take (j+1)).filter p).length=((m.take j).filter p).length+1):=zH (by
     rw[HN.out,←IX.out,if_pos (by simp[he]),fI,xz.out];exact⟨rfl,by rw[List.length_append];rfl⟩)
    clear he HN IX xz;have xK:=zH HO.out;go_wp2_with (at_builtin;go_loud (refine d6 rfl _ _ 24 rfl 45 (.agg #[.int .i64 0,.int .i64 0,.int .i64 0,.string ByteArray.empty,.slice none 0 0]) 5 64 Tryz.underlying24 fa rfl (by decide) _ _ _ _ _ (by rfl) (by exact xK.out) _ _ _ (by rfl) (by first|rfl|simp) (by rfl) (by intro u hu;simp at hu;rcases hu with rfl|rfl|rfl|rfl|rfl <;> rfl) (by omega) (by unfold maxLen;omega) ?_);intro a9 c9 w9 vQ vZ wO;have xy:=zH vQ;clear vZ wO vQ)
    go_roundg (gk - 1)
    case measure=>omega
    case rel=>exact⟨j+1,a9,c9,by omega,by go_num,by rw[yf.out.2],zH (by rw[yf.out.2,yf.out.1];exact xy.out)⟩
  ·have hjl:j=m.length:=by omega
   subst hjl;have hT:m.take m.length=m:=List.take_length;rw[hT] at HO ⊢;clear hT;have xO:Hid (∀q,au a' c' (m.filter p) q->q≠w.heap.size/\q≠w.heap.size+1):=zH (fun q hq=>by
    rcases hq with hq|⟨z,hz,hq⟩
    ·have:=(HO.out.blk q hq).1;omega
    ·have:=((H.out.sub z (List.mem_filter.1 hz).1).blk q hq).2;omega)
   have Aw:Hid (VolOwn B wr a' c' (m.filter p) wr):=zH (HV.out.filter p ⟨d7 HO.out.row (by omega),zB,by have:=wy.out.size;omega⟩ zN);have f:∀ {W:World} (b j:Nat) (u:Value),VolOwn B W a' c' (m.filter p) W->(∀q,au a' c' (m.filter p) q->q≠b)->VolOwn B (W.setCell ⟨b,j,none⟩ u) a' c' (m.filter p) (W.setCell ⟨b,j,none⟩ u):=fun b j u h hne=>h.low (ae _ b j u) (fun q hq e=>hne q hq (Option.some.inj e).symm)
   have HF:=zH (f (w.heap.size+1) 1 (.slice a' (m.filter p).length c') (f (w.heap.size+1) 0 (.int .i64 next) (f w.heap.size 1 (.slice a' (m.filter p).length c') Aw.out (fun q hq=>(xO.out q hq).1)) (fun q hq=>(xO.out q hq).2)) (fun q hq=>(xO.out q hq).2));have vI:=zH (((wy.out.setCell (p:=⟨w.heap.size,1,none⟩) zN (.slice a' (m.filter p).length c')).setCell (p:=⟨w.heap.size+1,0,none⟩) (Nat.le_succ _) (.int .i64 next)).setCell (p:=⟨w.heap.size+1,1,none⟩) (Nat.le_succ _) (.slice a' (m.filter p).length c'));have wX:=zH (((HS.out.2.far (g:=w.heap.size) (j:=1) (u:=.slice a' (m.filter p).length c') (by omega)).set 0 (.int .i64 next)).set 1 (.slice a' (m.filter p).length c'));have r0:=HS.out.2.two;clear f;go_wp2;exact oH wX.out (by rfl) (by rfl) ⟨a',c',rfl,HF.out,vI.out,fun q hq=>by have:=(HO.out.blk q hq).1;omega⟩
theorem oW {Post:Ending->World->Prop}{a:Act}{wf:World}{R:Nat}{u0:Int}{u1:Value}(hc:Cs wf R [.int .i64 u0,u1])(h2:a.tmps[2]?.getD undef=.pointer (some ⟨R,0,none⟩))(hd:a.defers = [])
  (hp:Post (.returned (.agg #[.int .i64 u0,u1])) wf):bodyPost Tryz.prog Tryz.f75 Post Exit.ret a wf:=by
 obtain⟨⟨r0,r1⟩,-⟩:=hc.two;exact bodyPost_ret (v:=.agg #[.int .i64 u0,u1]) (by simp[results,Tryz.results75,go_sem,h2,r0,r1]) hd hp
def cG (next:Int)(m:List InoP)(w:World)(e:Ending)(w':World):Prop:=
 ∃(a:Option Addr) (c:Nat) (m':List InoP),e=.returned (.agg #[.int .i64 next,.slice a m.length c])/\m'.length=m.length/\xs m'=xs m/\VolOwn w.heap.size w a c m' w'
theorem bL (next:Int)(a:Option Addr)(cap:Nat)(m:List InoP)(w:World)(h:VolP w a m.length cap m)(yg:m.length<=100000)(hel:∀y∈m,y.x.ents.length<=100000) :
  Calls Tryz.prog 75 #[.agg #[.int .i64 next,.slice a m.length cap]] w (cG next m w):=by
 have hm:=bj h;have HM:=zH yg;have IY:=zH hel;have H:=zH h;obtain⟨V0,CE⟩:∃V0,V0=(w.alloc (.cells #[.int .i64 next,.slice a m.length cap] 26)).alloc (.cells #[.int .i64 0,.slice none 0 0] 26):=⟨_,rfl⟩;have hs2:V0.heap.size=w.heap.size+2:=by rw[CE];simp
 have HB0:Hid (Below w.heap.size w V0):=zH (by rw[CE];exact(az w (.cells #[.int .i64 next,.slice a m.length cap] 26)).alloc (by simp) (.cells #[.int .i64 0,.slice none 0 0] 26));have zM:Hid (Cs V0 w.heap.size [.int .i64 next,.slice a m.length cap]):=zH (by rw[CE];exact(ar w 26 #[.int .i64 next,.slice a m.length cap]).alloc (.cells #[.int .i64 0,.slice none 0 0] 26));have wC:Hid (Cs V0 (w.heap.size+1) [.int .i64 0,.slice none 0 0]):=zH (by rw[CE];have:=ar (w.alloc (.cells #[.int .i64 next,.slice a m.length cap] 26)) 26 #[.int .i64 0,.slice none 0 0];simpa using this);have HX0:=zH (ar V0 26 #[.int .i64 next,.slice none 0 0]);have HA1:=zH (zM.out.alloc (.cells #[.int .i64 next,.slice none 0 0] 26));have HR1:=zH (wC.out.alloc (.cells #[.int .i64 next,.slice none 0 0] 26));have HB1:=zH (HB0.out.alloc HB0.out.size (.cells #[.int .i64 next,.slice none 0 0] 26));have hs3:(V0.alloc (.cells #[.int .i64 next,.slice none 0 0] 26)).heap.size=w.heap.size+3:=by simp[hs2]
 rw[hs2] at HX0;clear h yg hel zM wC;go_enter Tryz.func75,Tryz.ntmps75
 go_wp2;rw[←CE];generalize V0.alloc (.cells #[.int .i64 next,.slice none 0 0] 26)=V1 at *;go_loopg [4] m.length (fun gg i wr => ∃(k:Nat) (g:Option Addr) (c:Nat) (m':List InoP),k+gg=m.length/\i=.int .i64 (k:Int)/\Hid (m'.length=k/\xs m'=(xs m).take k)/\Hid (VolOwn (w.heap.size+3) wr g c m' wr)/\Hid (Cs wr (w.heap.size+2) [.int .i64 next,.slice g k c])/\Hid (Cs wr (w.heap.size+1) [.int .i64 0,.slice none 0 0])/\Hid (Cs wr w.heap.size [.int .i64 next,.slice a m.length cap])/\Hid (Below w.heap.size w wr))
 case atStart=>exact⟨0,none,0,[],by omega,rfl,zH ⟨rfl,rfl⟩,zH (i7 _ _ _ zB (by omega)),HX0,HR1,HA1,HB1⟩
 case round =>
  clear HX0 HR1 HA1 HB1 HB0;obtain⟨k,g,c,m',hk,rfl,HL,HV,HX,HR,HA,HB⟩:=hrel;have NF:w.heap.size+3<=wr.heap.size:=HV.out.top.base;have hmx:=HM.out;have v0:=HA.out.two;have x0:=HX.out.two;by_cases hlt:k<m.length
  ·obtain⟨b,off,rfl,hbb,d0,d1,d2,d3,d4,hrd⟩:=aC (H.out.step HB.out) (List.getElem?_eq_getElem hlt);have hi:(k:Int)<(m.length:Int):=by omega
   have hi0:(0:Int)<=(k:Int):=by omega
   have Qj:=IY.out m[k] (List.getElem_mem hlt);have O0:Hid ((xs m).take (k+1)=(xs m).take k ++ [m[k].x]):=zH (by rw[List.take_succ_eq_append_getElem (by rw[cy];exact hlt),fH m k hlt]);generalize m[k]=y at *;obtain⟨⟨y0,y1,y2,y3,y4⟩,yad,ycap⟩:=y;try simp only at d0 d1 d2 d3 d4 hrd Qj O0
   have HI:=zH (ar wr 45 #[.int .i64 y0,.int .i64 y1,.int .i64 y2,.string y3,.slice yad y4.length ycap]);have uY:=zH (az wr (.cells #[.int .i64 y0,.int .i64 y1,.int .i64 y2,.string y3,.slice yad y4.length ycap] 45));have yQ:=zH (hrd.below uY.out zN);clear hrd;go_wp2_with fail
   generalize hw1:wr.alloc (.cells #[.int .i64 y0,.int .i64 y1,.int .i64 y2,.string y3,.slice yad y4.length ycap] 45)=wr1 at *;have BK:wr1.heap.size=wr.heap.size+1:=by rw[←hw1];simp
   clear hw1;refine(kH yad ycap y4 _ yQ.out (by omega)).mono ?_;rintro e w5 ⟨g5,c5,rfl,hO⟩;have wy:=zH (ac uY.out hO.below);have O1:=zH (HI.out.below hO.below);have yS:=zH (HX.out.below wy.out);have Am:=zH (HR.out.below wy.out);have Qk:=zH (HA.out.below wy.out);have HV5:=zH (HV.out.kept wy.out);have vg:=zH (ac HB.out wy.out);have xY:=zH hO;have y9:wr.heap.size<w5.heap.size:=O1.out.lt;have xO:=zH (fun q hq=>HV.out.bl q hq);clear hO HI uY HX HR HA HV HB yQ x0 v0 d0 d1 d2 d3 d4;have i0:=O1.out.five;have x0:=yS.out.two;have Rn:w.heap.size+2<wr.heap.size:=by omega
   have Ro:w.heap.size+2<w5.heap.size:=by omega
   have Bc:=zH (HV5.out.low (ae w5 wr.heap.size 4 (.slice g5 y4.length c5)) (fun q hq e=>by have:=(xO.out q hq).2;have:=Option.some.inj e;omega));have yA:Hid (Own 74 4 (w.heap.size+3) (w5.setCell ⟨wr.heap.size,4,none⟩ (.slice g5 y4.length c5)) (.slice g5 y4.length c5) y4.length (ens y4) (w5.setCell ⟨wr.heap.size,4,none⟩ (.slice g5 y4.length c5))):=zH (by
    have h:=xY.out.otherLow (ae w5 wr.heap.size 4 (.slice g5 y4.length c5)) (fun q hq e=>by have:=(xY.out.blk q hq).1;have:=Option.some.inj e;omega);exact⟨d7 h.row (by omega),zB,by have:=h.base;omega⟩)
   have wM:=zH (yS.out.far (g:=wr.heap.size) (j:=4) (u:=.slice g5 y4.length c5) (by omega));have zJ:=zH (Am.out.far (g:=wr.heap.size) (j:=4) (u:=.slice g5 y4.length c5) (by omega));have O3:=zH (Qk.out.far (g:=wr.heap.size) (j:=4) (u:=.slice g5 y4.length c5) (by omega));have wu:=zH (vg.out.setCell (p:=⟨wr.heap.size,4,none⟩) (by dsimp only;omega) (.slice g5 y4.length c5));have DF:Hid (Own 45 5 (w.heap.size+3) (w5.setCell ⟨wr.heap.size,4,none⟩ (.slice g5 y4.length c5)) (.slice g k c) k (ins m') (w5.setCell ⟨wr.heap.size,4,none⟩ (.slice g5 y4.length c5))):=zH (by have h:=Bc.out.top;rw[HL.out.1] at h;exact h);have xq:Hid (∀q,(Value.slice g k c).ownBlock=some q->w.heap.size+3<=q/\q<wr.heap.size):=zH (fun q hq=>xO.out q (.inl (by rw[HL.out.1];exact hq)));have zK:Hid (∀W a9 c9,Own 45 5 (w.heap.size+3) (w5.setCell ⟨wr.heap.size,4,none⟩ (.slice g5 y4.length c5)) (.slice a9 (k+1) c9) (k+1) (ins m' ++ #[.int .i64 y0,.int .i64 y1,.int .i64 y2,.string y3,.slice g5 y4.length c5].toList) W->(w5.setCell ⟨wr.heap.size,4,none⟩ (.slice g5 y4.length c5)).grownBy W (Value.slice g k c).ownBlock ->
     Cs W (w.heap.size+2) [.int .i64 next,.slice g k c]/\Cs W (w.heap.size+1) [.int .i64 0,.slice none 0 0]/\Cs W w.heap.size [.int .i64 next,.slice (some ⟨b,off,none⟩) m.length cap]/\Below w.heap.size w W/\VolOwn (w.heap.size+3) (w5.setCell ⟨wr.heap.size,4,none⟩ (.slice g5 y4.length c5)) a9 c9 (m' ++ [⟨⟨y0,y1,y2,y3,y4⟩,g5,c5⟩]) W):=zH (fun W a9 c9 ho hg=>⟨wM.out.grown hg (fun e=>by have:=(xq.out _ e).1;omega),zJ.out.grown hg (fun e=>by have:=(xq.out _ e).1;omega),O3.out.grown hg (fun e=>by have:=(xq.out _ e).1;omega),wu.out.grown hg wu.out.size (fun q hq=>by have:=(xq.out q hq).1;omega),by
      refine VolOwn.app Bc.out ⟨⟨y0,y1,y2,y3,y4⟩,g5,c5⟩ ?_ ?_ ?_ ?_
      ·exact yA.out.other hg (fun q hq=>(xq.out q hq).1) (fun q hq e=>by have h1:=(xq.out q e).2;have h2:=(xY.out.blk q hq).1;omega)
      ·rw[HL.out.1];exact ho
      ·rw[HL.out.1];exact hg
      ·intro z hz q hq e;have h1:=(xO.out q (.inr ⟨z,hz,hq⟩)).2;have h2:=(xY.out.blk q e).1;omega⟩)
   clear Bc yA wM zJ O3 wu;go_wp2_with (at_builtin;go_loud (refine d6 rfl _ _ 24 rfl 45 (.agg #[.int .i64 0,.int .i64 0,.int .i64 0,.string ByteArray.empty,.slice none 0 0]) 5 64 Tryz.underlying24 fa rfl (by decide) _ _ _ _ _ (by rfl) (by exact DF.out) _ _ _ (by rfl) (by first|rfl|simp) (by rfl) (by intro u hu;simp at hu;rcases hu with rfl|rfl|rfl|rfl|rfl <;> rfl) (by omega) (by unfold maxLen;omega) ?_);intro a9 c9 w9 vQ vZ wO;have HQ:=zH (zK.out _ _ _ vQ vZ);obtain⟨⟨q0,q1⟩,g0,g1⟩:=HQ.out.1.two;have Fp:=HQ.out.1.lt;clear vZ wO vQ)
   go_roundg (gk - 1)
   case measure=>omega
   case rel =>
    refine⟨k+1,_,_,m' ++ [⟨⟨y0,y1,y2,y3,y4⟩,g5,c5⟩],by omega,by go_num,zH ⟨by rw[List.length_append,HL.out.1];rfl,by rw[O0.out,←HL.out.2];unfold xs;rw[List.map_append];rfl⟩,zH (HQ.out.2.2.2.2.low (ae _ (w.heap.size+2) 1 _) (fun q hq e=>by have:=(HQ.out.2.2.2.2.bl q hq).1;have:=Option.some.inj e;omega)),zH (HQ.out.1.set 1 _),zH (HQ.out.2.1.far (by omega)),zH (HQ.out.2.2.1.far (by omega)),zH (HQ.out.2.2.2.1.setCell (by dsimp only;omega) _)⟩
  ·have hkl:k=m.length:=by omega
   subst hkl;have r0:=HR.out.two;have Ez:Hid (m'.length=m.length/\xs m'=xs m):=zH ⟨HL.out.1,by rw[HL.out.2,List.take_of_length_le (by rw[cy];omega)]⟩;have wX:=zH ((HR.out.set 0 (.int .i64 next)).set 1 (.slice g m.length c));have HF:=zH (cf (B':=w.heap.size) (W1:=w) (HV.out.res2l (w.heap.size+1) (fun q hq=>by have:=(HV.out.bl q hq).1;omega) (.int .i64 next) (.slice g m.length c)) (by omega) (fG HB.out (w.heap.size+1) (by omega) _ _) (by simp[World.setCell];omega));clear HL HX HA;go_wp2;exact oW wX.out (by rfl) (by rfl) ⟨g,c,m',rfl,Ez.out.1,Ez.out.2,HF.out⟩
theorem cj (m:List InoP)(k:Nat)(y:InoP)(hy:m[k]? = some y)(j:Nat)(hj:j<5)(u:Value)(hu:(in1 y)[j]? = some u):(ins m).set (k*5+j) u=ins m:=by
 obtain⟨hk,rfl⟩:=List.getElem?_eq_some_iff.1 hy;obtain⟨h1,rfl⟩:=List.getElem?_eq_some_iff.1 hu;have hl:k*5+j<(ins m).length:=by simp;omega
 rw[←jS m k hk j hj,List.set_getElem_self]
theorem iD (m:List InoP)(k:Nat)(y:InoP)(hy:m[k]? = some y)(z:Int):(ins m).set (k*5+2) (.int .i64 z)=ins (m.set k ⟨{ y.x with links:=z },y.ad,y.cap⟩):=by
 have hk:=(List.getElem?_eq_some_iff.1 hy).1;rw[←iV m k hk ⟨{ y.x with links:=z },y.ad,y.cap⟩];have e0:(ins m).set (k*5) (.int .i64 y.x.id)=ins m:=cj m k y hy 0 (by omega) _ rfl;have e1:(ins m).set (k*5+1) (.int .i64 y.x.kind)=ins m:=cj m k y hy 1 (by omega) _ rfl;have e3:(ins m).set (k*5+3) (.string y.x.data)=ins m:=cj m k y hy 3 (by omega) _ rfl;have e4:(ins m).set (k*5+4) (.slice y.ad y.x.ents.length y.cap)=ins m:=cj m k y hy 4 (by omega) _ rfl;simp only[e0,e1];rw[List.set_comm _ _ (show k*5+2≠k*5+3 by omega),e3,List.set_comm _ _ (show k*5+2≠k*5+4 by omega),e4]
theorem mO (m:List InoP)(k:Nat)(y:InoP)(hy:m[k]? = some y)(s:ByteArray):(ins m).set (k*5+3) (.string s)=ins (m.set k ⟨{ y.x with data:=s },y.ad,y.cap⟩):=by
 have hk:=(List.getElem?_eq_some_iff.1 hy).1;rw[←iV m k hk ⟨{ y.x with data:=s },y.ad,y.cap⟩];have e0:(ins m).set (k*5) (.int .i64 y.x.id)=ins m:=cj m k y hy 0 (by omega) _ rfl;have e1:(ins m).set (k*5+1) (.int .i64 y.x.kind)=ins m:=cj m k y hy 1 (by omega) _ rfl;have e2:(ins m).set (k*5+2) (.int .i64 y.x.links)=ins m:=cj m k y hy 2 (by omega) _ rfl;have e4:(ins m).set (k*5+4) (.slice y.ad y.x.ents.length y.cap)=ins m:=cj m k y hy 4 (by omega) _ rfl;simp only[e0,e1,e2];rw[List.set_comm _ _ (show k*5+3≠k*5+4 by omega),e4]
theorem VolOwn.field {B:Nat}{W0 w:World}{g cap:Nat}{m:List InoP}(h:VolOwn B W0 (some ⟨g,0,none⟩) cap m w)(k:Nat)(y y':InoP)(hy:m[k]? = some y)(j:Nat)(u:Value)(he:y'.x.ents=y.x.ents)(ha:y'.ad=y.ad)(hc:y'.cap=y.cap)(hs:(ins m).set j u=ins (m.set k y')) :
  VolOwn B W0 (some ⟨g,0,none⟩) cap (m.set k y') (w.setCell ⟨g,j,none⟩ u):=by
 have hg:=ae w g j u;have hmem:y∈m:=List.mem_of_getElem? hy;refine VolOwn.put h k y' ?_ hg ?_ ?_
 ·rw[←hs];exact h.top.set j u
 ·rw[ha,hc,he];exact(h.sub y hmem).other hg (fun q hq=>by cases hq;exact(h.top.blk g rfl).1) (fun q hq e=>h.side y hmem q hq e)
 ·intro i hi hne q hq;have:=dU h k hy i hi hne q hq;unfold InoP.blk;rw[ha,hc,he];exact this
def i4 (B:Nat)(W0:World)(next:Int)(m:List InoP)(k:Nat)(y:InoP)(g:Nat)(w:World)(e:Ending)(w':World):Prop:=
 ∃(a:Option Addr) (c:Nat) (m':List InoP),e=.returned (.agg #[.int .i64 next,.slice a m'.length c])/\VolOwn B W0 a c m' w'/\w.grownBy w' (some g) /\
  ((y.x.links + -1≠0/\xs m'=(xs m).set k { y.x with links:=y.x.links + -1 })∨(y.x.links + -1=0/\xs m'=((xs m).set k { y.x with links:=y.x.links + -1 }).filter (fun x => !(x.id==y.x.id))))
theorem kg {Post:Ending->World->Prop}{a:Act}{wf:World}{R:Nat}{u0:Int}{u1:Value}(hc:Cs wf R [.int .i64 u0,u1])(h2:a.tmps[4]?.getD undef=.pointer (some ⟨R,0,none⟩))(hd:a.defers = [])
  (hp:Post (.returned (.agg #[.int .i64 u0,u1])) wf):bodyPost Tryz.prog Tryz.f126 Post Exit.ret a wf:=by
 obtain⟨⟨r0,r1⟩,-⟩:=hc.two;exact bodyPost_ret (v:=.agg #[.int .i64 u0,u1]) (by simp[results,Tryz.results126,go_sem,h2,r0,r1]) hd hp
theorem fQ (B:Nat)(W0:World)(next:Int)(g cap:Nat)(m:List InoP)(k:Nat)(y:InoP)(w:World)(h:VolOwn B W0 (some ⟨g,0,none⟩) cap m w)(hy:m[k]? = some y)(hat:atF (xs m) y.x.id=(k:Int))(yg:m.length<=100000)(hl0 : -1000000<=y.x.links)(hl1:y.x.links<=1000000) :
  Calls Tryz.prog 126 #[.agg #[.int .i64 next,.slice (some ⟨g,0,none⟩) m.length cap],.int .i64 y.x.id] w (i4 B W0 next m k y g w):=by
 have hkl:k<m.length:=(List.getElem?_eq_some_iff.1 hy).1;have hm:=bj h.p;have hgB:=(h.top.blk g rfl);have hBw:=h.top.base;have HAT:Hid (∀W,Below w.heap.size w W->Calls Tryz.prog 69 #[.agg #[.int .i64 next,.slice (some ⟨g,0,none⟩) m.length cap],.int .i64 y.x.id] W fun e w'=>e=.returned (.int .i64 (k:Int))/\Below W.heap.size W w'):=zH (fun W hW=>by rw[←hat];exact aT next (some ⟨g,0,none⟩) m.length cap (xs m) y.x.id W (h.kept hW).p.rd);obtain⟨m2,hm2⟩:∃m2,m2=m.set k ⟨{ y.x with links:=y.x.links + -1 },y.ad,y.cap⟩:=⟨_,rfl⟩;have zy:Hid (m2.length=m.length):=zH (by rw[hm2,List.length_set]);have zD:Hid (xs m2=(xs m).set k { y.x with links:=y.x.links + -1 }):=zH (by rw[hm2,fX]);have vv:Hid (∀W,Below w.heap.size w W->VolOwn B W0 (some ⟨g,0,none⟩) cap m2 (W.setCell ⟨g,k*5+2,none⟩ (.int .i64 (y.x.links + -1)))):=zH (fun W hW=>by
  rw[hm2];exact(h.kept hW).field k y ⟨{ y.x with links:=y.x.links + -1 },y.ad,y.cap⟩ hy (k*5+2) _ rfl rfl rfl (iD m k y hy _))
 have O4:Hid (∀W,VolOwn B W0 (some ⟨g,0,none⟩) cap m2 W->Calls Tryz.prog 141 #[.agg #[.int .i64 next,.slice (some ⟨g,0,none⟩) m.length cap],.int .i64 y.x.id] W (np B next (m2.filter (fun z => !(z.x.id==y.x.id))) W)):=zH (fun W hW=>by
  rw[←zy.out];exact pm B W0 next _ cap m2 y.x.id W hW (by rw[zy.out];exact yg))
 have MP:Hid (xs (m2.filter (fun z => !(z.x.id==y.x.id)))=(xs m2).filter (fun x => !(x.id==y.x.id))):=zH (ri m2 (fun x => !(x.id==y.x.id)));have IZ:Hid (∀q,au (some ⟨g,0,none⟩) cap m2 q->q<w.heap.size):=zH (fun q hq=>by
  rw[hm2] at hq;rcases bx hq with hq|hq
  ·exact(h.bl q hq).2
  ·exact((h.sub y (List.mem_of_getElem? hy)).blk q hq).2)
 have MN:Hid (∀W,Below w.heap.size w W->W.cell? ⟨g,k*5+2,none⟩=some (.int .i64 y.x.links)/\W.frozen? ⟨g,k*5+2,none⟩=false/\g<W.heap.size):=zH (fun W hW=>by
  have hv:=h.kept hW;obtain⟨b,off,e,_,_,_,d2,_⟩:=aC hv.p hy;cases e;refine⟨by simpa using d2,hv.top.free _,((hv.top.blk g rfl).2)⟩)
 have hi:(k:Int)<(m.length:Int):=by omega
 have hi0:(0:Int)<=(k:Int):=by omega
 unfold i4;have Fq:=zH (fun (W:World) (m':List InoP) (a:Option Addr) (c:Nat) (hv:VolOwn B W0 a c m' W) (hgr:w.grownBy W (some g)) (hx:(y.x.links + -1≠0/\xs m'=(xs m).set k { y.x with links:=y.x.links + -1 })∨(y.x.links + -1=0/\xs m'=((xs m).set k { y.x with links:=y.x.links + -1 }).filter (fun x => !(x.id==y.x.id))))=>(show i4 B W0 next m k y g w (.returned (.agg #[.int .i64 next,.slice a m'.length c])) W from ⟨a,c,m',rfl,hv,hgr,hx⟩));change Calls Tryz.prog 126 #[.agg #[.int .i64 next,.slice (some ⟨g,0,none⟩) m.length cap],.int .i64 y.x.id] w (i4 B W0 next m k y g w);clear hat h;obtain⟨lk,hlk⟩:∃lk,lk=y.x.links:=⟨_,rfl⟩;rw[←hlk] at vv MN zD hl0 hl1;have Dh:=zH hlk;have hwr:IntKind.i64.wrap (lk - 1)=lk + -1:=by rw[IntWalk.i64_in _ ⟨by omega,by omega⟩];omega
 clear hlk hm2 hy;generalize y.x.id=id at *;generalize hnn:m.length=n at *;have wC:=zH ((ar w 26 #[.int .i64 next,.slice (some ⟨g,0,none⟩) n cap]).alloc (.cells #[.int .i64 0,.slice none 0 0] 26));have HR1:=zH (ar (w.alloc (.cells #[.int .i64 next,.slice (some ⟨g,0,none⟩) n cap] 26)) 26 #[.int .i64 0,.slice none 0 0]);have HB:=zH ((az w (.cells #[.int .i64 next,.slice (some ⟨g,0,none⟩) n cap] 26)).alloc (by simp) (.cells #[.int .i64 0,.slice none 0 0] 26));have hs1:(w.alloc (.cells #[.int .i64 next,.slice (some ⟨g,0,none⟩) n cap] 26)).heap.size=w.heap.size+1:=by simp
 rw[hs1] at HR1;go_enter Tryz.func126,Tryz.ntmps126
 go_wp2_with fail
 generalize (w.alloc (.cells #[.int .i64 next,.slice (some ⟨g,0,none⟩) n cap] 26)).alloc (.cells #[.int .i64 0,.slice none 0 0] 26)=w1 at *;refine(HAT.out _ HB.out).mono ?_;rintro e w2 ⟨rfl,hb⟩;have hgw:=hgB.2;have hne0:w.heap.size≠g:=by omega
 have hne1:w.heap.size+1≠g:=by omega
 have HB2:=zH (ac HB.out hb);have yT:=zH (wC.out.below hb);have HR2:=zH (HR1.out.below hb);clear hb wC HR1 HB;have v0:=yT.out.two;obtain⟨hl2,hf2,hg2⟩:=MN.out _ HB2.out;go_wp2;go_region;have Ao:=zH (vv.out _ HB2.out).drew;have xI:Hid (w.grownBy (w2.setCell ⟨g,k*5+2,none⟩ (.int .i64 (lk + -1))).drew (some g)):=zH (aS (aq (aA (some g) HB2.out) (ae w2 g (k*5+2) (.int .i64 (lk + -1))) (fun q hq => .inl hq)));have Bn:Hid (Cs (w2.setCell ⟨g,k*5+2,none⟩ (.int .i64 (lk + -1))).drew w.heap.size [.int .i64 next,.slice (some ⟨g,0,none⟩) n cap]):=zH ((yT.out.far hne0).drew);have HR3:Hid (Cs (w2.setCell ⟨g,k*5+2,none⟩ (.int .i64 (lk + -1))).drew (w.heap.size+1) [.int .i64 0,.slice none 0 0]):=zH ((HR2.out.far hne1).drew);have hl3:(w2.setCell ⟨g,k*5+2,none⟩ (.int .i64 (lk + -1))).drew.cell? ⟨g,k*5+2,none⟩=some (.int .i64 (lk + -1)):=by go_simp
 clear v0 hl2 hf2 yT HR2;generalize (w2.setCell ⟨g,k*5+2,none⟩ (.int .i64 (lk + -1))).drew=w3 at *;have v0:=Bn.out.two;have r0:=HR3.out.two;by_cases hz:lk + -1=0
 ·have hz2:(lk + -1==0)=true:=by simp[hz]
  have HZ:=zH hz;clear hz;go_wp2_with fail
  refine(O4.out _ Ao.out).mono ?_;rintro e w4 ⟨a',c',rfl,hv,hb,hq⟩;have HR4:=zH (HR3.out.below hb);have hz3:=HR3.out.lt;have Bl:=hb.size;have xO:Hid (∀q,au a' c' (m2.filter (fun z => !(z.x.id==id))) q->q≠w.heap.size+1):=zH (fun q hq2=>by
   rcases hq2 with hq2|⟨z,hz,hq2⟩
   ·have:=hq q hq2;omega
   ·have:=IZ.out q (.inr ⟨z,(List.mem_filter.1 hz).1,hq2⟩);omega)
  have wy:Hid (Below B W0 w4):=zH (Ao.out.below.trans (hb.mono Ao.out.top.base));have wX:=zH ((HR4.out.set 0 (.int .i64 next)).set 1 (.slice a' (m2.filter (fun z => !(z.x.id==id))).length c'));have Fs:=zH (cf (W1:=W0) (hv.res2l (w.heap.size+1) xO.out (.int .i64 next) (.slice a' (m2.filter (fun z => !(z.x.id==id))).length c')) zN (fG wy.out (w.heap.size+1) (by omega) _ _) (by simp[World.setCell];omega));have Bo:=zH (Fq.out _ (m2.filter (fun z => !(z.x.id==id))) _ _ Fs.out (dd (aq xI.out (aA none hb) (fun q hq=>by cases hq)) (w.heap.size+1) (by omega) _ _) (.inr ⟨by rw[←Dh.out];exact HZ.out,by rw[MP.out,←Dh.out,zD.out]⟩));have r0:=HR4.out.two;clear hq hb hv HZ Fs xO MP O4;generalize (m2.filter (fun z => !(z.x.id==id))).length=nf at *;go_wp2;exact kg wX.out (by rfl) (by rfl) Bo.out
 ·have hz2:(lk + -1==0)=false:=by simp[hz]
  have HZ:=zH hz;clear hz;have wX:=zH ((HR3.out.set 0 (.int .i64 next)).set 1 (.slice (some ⟨g,0,none⟩) n cap));have Fs:=zH (Ao.out.res2 (w.heap.size+1) (by omega) (fun q hq=>by have:=IZ.out q hq;omega) (.int .i64 next) (.slice (some ⟨g,0,none⟩) n cap));go_wp2;refine kg wX.out (by rfl) (by rfl) ?_;have:=Fq.out _ m2 _ _ Fs.out (dd xI.out (w.heap.size+1) (by omega) _ _) (.inl ⟨by rw[←Dh.out];exact HZ.out,by rw[←Dh.out];exact zD.out⟩);rw[zy.out] at this;exact this
end Go.Proofs.YtlkfabkkjfmnmaaGreatDoor
