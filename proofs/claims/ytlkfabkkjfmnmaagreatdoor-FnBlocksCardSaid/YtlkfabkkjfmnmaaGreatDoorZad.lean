import Derived.Test.YtlkfabkkjfmnmaaGreatDoorZac
namespace Go.Proofs.YtlkfabkkjfmnmaaGreatDoor
open Go.RowKit
set_option linter.all false
set_option maxRecDepth 1000000
set_option maxHeartbeats 6000000
def pZ:List (Int × List Int):=gY greekF greekL 769++nL
theorem o6 (i:Nat)(r:lc)(h:tabS[i]? = some r)(c:Int):asc (eX (tabS.drop i)++pZ) c=(asc (gY r.1 r.2.1 r.2.2) c).or (asc (eX (tabS.drop (i+1))++pZ) c):=by
 rw[eQ,lW tabS i r h,eQ,Option.or_assoc]
theorem kZ (c:Int)(w:World) :
  Calls Tryz.prog 143 #[.int .i64 c] w fun e w' => ∃g cp,e=.returned (.slice (some ⟨g,0,none⟩) (ap c).length cp)/\Own 3 1 w.heap.size w (.slice (some ⟨g,0,none⟩) (ap c).length cp) (ap c).length (aE (ap c)) w':=by
 have L0:Hid (∀(W:World),Below w.heap.size w W->Own 3 1 w.heap.size w (.slice (some ⟨W.heap.size,0,none⟩) 0 0) 0 (aE []) (W.alloc (.cells #[] 3))):=zH fun W hb=>Own.lit hb hb.size #[] rfl (by decide)
 have L1:Hid (∀(W:World) (x:Int),Below w.heap.size w W->Own 3 1 w.heap.size w (.slice (some ⟨W.heap.size,0,none⟩) 1 1) 1 (aE [x]) (W.alloc (.cells #[.int .i64 x] 3))):=zH fun W x hb=>Own.lit hb hb.size #[.int .i64 x] rfl (by decide)
 have L2:Hid (∀(W:World) (x y:Int),Below w.heap.size w W->Own 3 1 w.heap.size w (.slice (some ⟨W.heap.size,0,none⟩) 2 2) 2 (aE [x,y]) (W.alloc (.cells #[.int .i64 x,.int .i64 y] 3))):=zH fun W x y hb=>Own.lit hb hb.size #[.int .i64 x,.int .i64 y] rfl (by decide)
 go_enter Tryz.func143,Tryz.ntmps143
 go_wp2;refine rR (fun W=>Laid w W (w.heap.size+1+1+1+1+1+1+1+1) (w.heap.size+1+1+1+1+1+1+1+1+1) (w.heap.size+1+1+1+1+1+1+1+1+1+1)) (by exact tk w _ _ _ _ _ _ _ _ _ _ _ rfl rfl rfl rfl rfl rfl rfl rfl rfl rfl rfl) ?_;generalize w.heap.size+1+1+1+1+1+1+1+1+1+1=b10;generalize w.heap.size+1+1+1+1+1+1+1+1+1=b9;generalize w.heap.size+1+1+1+1+1+1+1+1=b8;intro W hL;have HB:=zH hL.below;have HL:=zH hL.row;clear hL;go_loopg [6,7] 8 (fun gg i l wr => ∃k:Nat,k+gg=8/\i=.int .i64 k/\asc (eX (tabS.drop k)++pZ) c=asc nM c/\Below W.heap.size W wr)
 case atStart=>exact⟨0,by omega,rfl,rfl,zB⟩
 case round =>
  obtain⟨k,hk,rfl,Dm,hB⟩:=hrel;have HA:=zH Dm;clear Dm;by_cases hlt:k<8
  ·obtain⟨r,hrr⟩:∃r,tabS[k]? = some r:=⟨_,List.getElem?_eq_getElem (by exact hlt)⟩;have hD:=zH (o6 k r hrr c);have hT:=tg k r hrr;obtain⟨b,cp,hc1,hR,hc2,hc3⟩:=HL.out k r hrr;obtain⟨f,l,m⟩:=r;generalize strS.getD k ⟨#[]⟩=s at *;simp only at hT hD hc1 hR hc3;obtain⟨hT1,MH,M6,PN,Rc⟩:=hT;have HT1:=zH hT1;subst MH;rw[←hB.cell (World.block_lt_of_cell? _ _ hc1)] at hc1;rw[←hB.cell (World.block_lt_of_cell? _ _ hc2)] at hc2;rw[←hB.cell (World.block_lt_of_cell? _ _ hc3)] at hc3;replace hR:=hR.below hB zN;replace hc1:wr.drew.cell? ⟨b8,k,none⟩=_:=hc1;replace hc2:wr.drew.cell? ⟨b9,k,none⟩=_:=hc2;replace hc3:wr.drew.cell? ⟨b10,k,none⟩=_:=hc3;have HB2:Hid (Below w.heap.size w wr):=zH (HB.out.trans (hB.mono HB.out.size));have wy:=zH hB;clear hrr hB;have hD2:=hD.out;rcases hv:asc (gY f (lR s.data.toList) m) c with _|v
   ·have HV:Hid (io c f s m = []):=zH (by unfold io;rw[hv];rfl);have HN:Hid (asc (eX (tabS.drop (k+1))++pZ) c=asc nM c):=zH (by rw[←HA.out,hD2,hv];rfl);clear hD2 hD HA hv hT1;go_wp2;refine wp_region_any (by kernel_rfl) ?_;try (change wpAny _ _ _ _ _ _ _ (World.drew _))
    refine wpAny_take (i:=0) (v:=?_) rfl (by kernel_rfl) (by kernel_rfl) (by kernel_rfl) (fun _ _ _ h=>h) (Or.inl ⟨by rfl,?hy⟩) ?_;(case hy=>(intro w;go_simp;try with_reducible rfl));refine wpAny_take (i:=1) (v:=?_) rfl (by kernel_rfl) (by kernel_rfl) (by kernel_rfl) (fun _ _ _ h=>h) (Or.inl ⟨by rfl,?hy⟩) ?_;(case hy=>(intro w;go_simp;try with_reducible rfl));refine wpAny_take (i:=2) (v:=?_) rfl (by kernel_rfl) (by kernel_rfl) (by kernel_rfl) (fun _ _ _ h=>h) (Or.inl ⟨by rfl,?hy⟩) ?_;(case hy=>(intro w;go_simp;try with_reducible rfl));refine wpAny_take (i:=3) (v:=?_) rfl (by kernel_rfl) (by kernel_rfl) (by kernel_rfl) (fun _ _ _ h=>h) (Or.inl ⟨by rfl,?hy⟩) ?_;(case hy=>(intro w;go_simp;try with_reducible rfl));refine wpAny_take (i:=5) (v:=?_) rfl (by kernel_rfl) (by kernel_rfl) (by kernel_rfl) (fun _ _ _ h=>h) (Or.inl ⟨by rfl,?hy⟩) ?_;(case hy=>(intro w;go_simp;try with_reducible rfl));refine wpAny_take (i:=6) (v:=?_) rfl (by kernel_rfl) (by kernel_rfl) (by kernel_rfl) (fun _ _ _ h=>h) (Or.inl ⟨by rfl,?hy⟩) ?_;(case hy=>(intro w;go_simp;try with_reducible rfl));refine wpAny_take (i:=7) (v:=?_) rfl (by kernel_rfl) (by kernel_rfl) (by kernel_rfl) (fun _ _ _ h=>h) (Or.inl ⟨by rfl,?hy⟩) ?_;(case hy=>(intro w;go_simp;try with_reducible rfl));refine wpAny_take (i:=9) (v:=?_) rfl (by kernel_rfl) (by kernel_rfl) (by kernel_rfl) (fun _ _ _ h=>h) (Or.inl ⟨by rfl,?hy⟩) ?_;(case hy=>(intro w;go_simp;try with_reducible rfl));refine wpAny_take (i:=10) (v:=?_) rfl (by kernel_rfl) (by kernel_rfl) (by kernel_rfl) (fun _ _ _ h=>h) (Or.inl ⟨by rfl,?hy⟩) ?_;(case hy=>(intro w;go_simp;try with_reducible rfl));refine wpAny_take (i:=11) (v:=?_) rfl (by kernel_rfl) (by kernel_rfl) (by kernel_rfl) (fun _ _ _ h=>h) (Or.inl ⟨by rfl,?hy⟩) ?_;(case hy=>(intro w;go_simp;try with_reducible rfl));refine wpAny_ready (rs:=[4,8,12]) (by kernel_rfl) (by simp) ?_;refine AllReady.cons rfl (fun K hK=>?_) (AllReady.cons rfl (fun K hK=>?_) (AllReady.cons rfl (fun K hK=>?_) AllReady.nil))
    ·go_simp;refine hK _ _ ?_;clear hK K;refine wpAny_ready (rs:=[8,12]) (by kernel_rfl) (by simp) ?_;refine AllReady.cons rfl (fun K hK=>?_) (AllReady.cons rfl (fun K hK=>?_) AllReady.nil)
     ·go_simp;refine hK _ _ ?_;clear hK K;refine wpAny_ready (rs:=[12]) (by kernel_rfl) (by simp) ?_;refine AllReady.cons rfl (fun K hK=>?_) AllReady.nil;go_simp;refine hK _ _ ?_;clear hK K;refine wpAny_ready (rs:=[13]) (by kernel_rfl) (by simp) ?_;refine AllReady.cons rfl (fun K hK=>?_) AllReady.nil;(go_simp;refine(cF c m _ _ _ f s _ hR.drew (by omega) HT1.out (by omega)).mono ?_;rintro e w2 ⟨g2,c2,rfl,hO⟩;rw[HV.out] at hO ⊢;simp only[List.length_nil] at hO ⊢;refine hK _ _ ?_;clear hK K)
      refine wpAny_ready (rs:=[14]) (by kernel_rfl) (by simp) ?_;refine AllReady.cons rfl (fun K hK=>?_) AllReady.nil;(go_simp;refine hK _ _ ?_;clear hK K)
      refine wpAny_done (by kernel_rfl) ?_ _;go_wp2;go_roundg (gk - 1)
      case measure=>omega
      case rel=>exact⟨k+1,by omega,by go_num,HN.out,wy.out.drew.trans (hO.below.mono wy.out.size)⟩
     ·go_simp;refine hK _ _ ?_;clear hK K;refine wpAny_ready (rs:=[8]) (by kernel_rfl) (by simp) ?_;refine AllReady.cons rfl (fun K hK=>?_) AllReady.nil;go_simp;refine hK _ _ ?_;clear hK K;refine wpAny_ready (rs:=[13]) (by kernel_rfl) (by simp) ?_;refine AllReady.cons rfl (fun K hK=>?_) AllReady.nil;(go_simp;refine(cF c m _ _ _ f s _ hR.drew (by omega) HT1.out (by omega)).mono ?_;rintro e w2 ⟨g2,c2,rfl,hO⟩;rw[HV.out] at hO ⊢;simp only[List.length_nil] at hO ⊢;refine hK _ _ ?_;clear hK K)
      refine wpAny_ready (rs:=[14]) (by kernel_rfl) (by simp) ?_;refine AllReady.cons rfl (fun K hK=>?_) AllReady.nil;(go_simp;refine hK _ _ ?_;clear hK K)
      refine wpAny_done (by kernel_rfl) ?_ _;go_wp2;go_roundg (gk - 1)
      case measure=>omega
      case rel=>exact⟨k+1,by omega,by go_num,HN.out,wy.out.drew.trans (hO.below.mono wy.out.size)⟩
    ·go_simp;refine hK _ _ ?_;clear hK K;refine wpAny_ready (rs:=[4,12]) (by kernel_rfl) (by simp) ?_;refine AllReady.cons rfl (fun K hK=>?_) (AllReady.cons rfl (fun K hK=>?_) AllReady.nil)
     ·go_simp;refine hK _ _ ?_;clear hK K;refine wpAny_ready (rs:=[12]) (by kernel_rfl) (by simp) ?_;refine AllReady.cons rfl (fun K hK=>?_) AllReady.nil;go_simp;refine hK _ _ ?_;clear hK K;refine wpAny_ready (rs:=[13]) (by kernel_rfl) (by simp) ?_;refine AllReady.cons rfl (fun K hK=>?_) AllReady.nil;(go_simp;refine(cF c m _ _ _ f s _ hR.drew (by omega) HT1.out (by omega)).mono ?_;rintro e w2 ⟨g2,c2,rfl,hO⟩;rw[HV.out] at hO ⊢;simp only[List.length_nil] at hO ⊢;refine hK _ _ ?_;clear hK K)
      refine wpAny_ready (rs:=[14]) (by kernel_rfl) (by simp) ?_;refine AllReady.cons rfl (fun K hK=>?_) AllReady.nil;(go_simp;refine hK _ _ ?_;clear hK K)
      refine wpAny_done (by kernel_rfl) ?_ _;go_wp2;go_roundg (gk - 1)
      case measure=>omega
      case rel=>exact⟨k+1,by omega,by go_num,HN.out,wy.out.drew.trans (hO.below.mono wy.out.size)⟩
     ·go_simp;refine hK _ _ ?_;clear hK K;refine wpAny_ready (rs:=[4]) (by kernel_rfl) (by simp) ?_;refine AllReady.cons rfl (fun K hK=>?_) AllReady.nil;go_simp;refine hK _ _ ?_;clear hK K;refine wpAny_ready (rs:=[13]) (by kernel_rfl) (by simp) ?_;refine AllReady.cons rfl (fun K hK=>?_) AllReady.nil;(go_simp;refine(cF c m _ _ _ f s _ hR.drew (by omega) HT1.out (by omega)).mono ?_;rintro e w2 ⟨g2,c2,rfl,hO⟩;rw[HV.out] at hO ⊢;simp only[List.length_nil] at hO ⊢;refine hK _ _ ?_;clear hK K)
      refine wpAny_ready (rs:=[14]) (by kernel_rfl) (by simp) ?_;refine AllReady.cons rfl (fun K hK=>?_) AllReady.nil;(go_simp;refine hK _ _ ?_;clear hK K)
      refine wpAny_done (by kernel_rfl) ?_ _;go_wp2;go_roundg (gk - 1)
      case measure=>omega
      case rel=>exact⟨k+1,by omega,by go_num,HN.out,wy.out.drew.trans (hO.below.mono wy.out.size)⟩
    ·go_simp;refine hK _ _ ?_;clear hK K;refine wpAny_ready (rs:=[4,8]) (by kernel_rfl) (by simp) ?_;refine AllReady.cons rfl (fun K hK=>?_) (AllReady.cons rfl (fun K hK=>?_) AllReady.nil)
     ·go_simp;refine hK _ _ ?_;clear hK K;refine wpAny_ready (rs:=[8]) (by kernel_rfl) (by simp) ?_;refine AllReady.cons rfl (fun K hK=>?_) AllReady.nil;go_simp;refine hK _ _ ?_;clear hK K;refine wpAny_ready (rs:=[13]) (by kernel_rfl) (by simp) ?_;refine AllReady.cons rfl (fun K hK=>?_) AllReady.nil;(go_simp;refine(cF c m _ _ _ f s _ hR.drew (by omega) HT1.out (by omega)).mono ?_;rintro e w2 ⟨g2,c2,rfl,hO⟩;rw[HV.out] at hO ⊢;simp only[List.length_nil] at hO ⊢;refine hK _ _ ?_;clear hK K)
      refine wpAny_ready (rs:=[14]) (by kernel_rfl) (by simp) ?_;refine AllReady.cons rfl (fun K hK=>?_) AllReady.nil;(go_simp;refine hK _ _ ?_;clear hK K)
      refine wpAny_done (by kernel_rfl) ?_ _;go_wp2;go_roundg (gk - 1)
      case measure=>omega
      case rel=>exact⟨k+1,by omega,by go_num,HN.out,wy.out.drew.trans (hO.below.mono wy.out.size)⟩
     ·go_simp;refine hK _ _ ?_;clear hK K;refine wpAny_ready (rs:=[4]) (by kernel_rfl) (by simp) ?_;refine AllReady.cons rfl (fun K hK=>?_) AllReady.nil;go_simp;refine hK _ _ ?_;clear hK K;refine wpAny_ready (rs:=[13]) (by kernel_rfl) (by simp) ?_;refine AllReady.cons rfl (fun K hK=>?_) AllReady.nil;(go_simp;refine(cF c m _ _ _ f s _ hR.drew (by omega) HT1.out (by omega)).mono ?_;rintro e w2 ⟨g2,c2,rfl,hO⟩;rw[HV.out] at hO ⊢;simp only[List.length_nil] at hO ⊢;refine hK _ _ ?_;clear hK K)
      refine wpAny_ready (rs:=[14]) (by kernel_rfl) (by simp) ?_;refine AllReady.cons rfl (fun K hK=>?_) AllReady.nil;(go_simp;refine hK _ _ ?_;clear hK K)
      refine wpAny_done (by kernel_rfl) ?_ _;go_wp2;go_roundg (gk - 1)
      case measure=>omega
      case rel=>exact⟨k+1,by omega,by go_num,HN.out,wy.out.drew.trans (hO.below.mono wy.out.size)⟩
   ·have HV:Hid (ap c=io c f s m):=zH (by
     rw[dQ c v (by rw[←HA.out,hD2,hv];rfl)];unfold io;rw[hv];rfl)
    have hvl:0<(io c f s m).length/\(io c f s m).length<=2:=by
     unfold io;rw[hv];exact tq _ _ _ _ _ hv
    obtain⟨PO,PP⟩:=hvl;clear hD2 hD HA hv hT1;go_wp2;refine wp_region_any (by kernel_rfl) ?_;try (change wpAny _ _ _ _ _ _ _ (World.drew _))
    refine wpAny_take (i:=0) (v:=?_) rfl (by kernel_rfl) (by kernel_rfl) (by kernel_rfl) (fun _ _ _ h=>h) (Or.inl ⟨by rfl,?hy⟩) ?_;(case hy=>(intro w;go_simp;try with_reducible rfl));refine wpAny_take (i:=1) (v:=?_) rfl (by kernel_rfl) (by kernel_rfl) (by kernel_rfl) (fun _ _ _ h=>h) (Or.inl ⟨by rfl,?hy⟩) ?_;(case hy=>(intro w;go_simp;try with_reducible rfl));refine wpAny_take (i:=2) (v:=?_) rfl (by kernel_rfl) (by kernel_rfl) (by kernel_rfl) (fun _ _ _ h=>h) (Or.inl ⟨by rfl,?hy⟩) ?_;(case hy=>(intro w;go_simp;try with_reducible rfl));refine wpAny_take (i:=3) (v:=?_) rfl (by kernel_rfl) (by kernel_rfl) (by kernel_rfl) (fun _ _ _ h=>h) (Or.inl ⟨by rfl,?hy⟩) ?_;(case hy=>(intro w;go_simp;try with_reducible rfl));refine wpAny_take (i:=5) (v:=?_) rfl (by kernel_rfl) (by kernel_rfl) (by kernel_rfl) (fun _ _ _ h=>h) (Or.inl ⟨by rfl,?hy⟩) ?_;(case hy=>(intro w;go_simp;try with_reducible rfl));refine wpAny_take (i:=6) (v:=?_) rfl (by kernel_rfl) (by kernel_rfl) (by kernel_rfl) (fun _ _ _ h=>h) (Or.inl ⟨by rfl,?hy⟩) ?_;(case hy=>(intro w;go_simp;try with_reducible rfl));refine wpAny_take (i:=7) (v:=?_) rfl (by kernel_rfl) (by kernel_rfl) (by kernel_rfl) (fun _ _ _ h=>h) (Or.inl ⟨by rfl,?hy⟩) ?_;(case hy=>(intro w;go_simp;try with_reducible rfl));refine wpAny_take (i:=9) (v:=?_) rfl (by kernel_rfl) (by kernel_rfl) (by kernel_rfl) (fun _ _ _ h=>h) (Or.inl ⟨by rfl,?hy⟩) ?_;(case hy=>(intro w;go_simp;try with_reducible rfl));refine wpAny_take (i:=10) (v:=?_) rfl (by kernel_rfl) (by kernel_rfl) (by kernel_rfl) (fun _ _ _ h=>h) (Or.inl ⟨by rfl,?hy⟩) ?_;(case hy=>(intro w;go_simp;try with_reducible rfl));refine wpAny_take (i:=11) (v:=?_) rfl (by kernel_rfl) (by kernel_rfl) (by kernel_rfl) (fun _ _ _ h=>h) (Or.inl ⟨by rfl,?hy⟩) ?_;(case hy=>(intro w;go_simp;try with_reducible rfl));refine wpAny_ready (rs:=[4,8,12]) (by kernel_rfl) (by simp) ?_;refine AllReady.cons rfl (fun K hK=>?_) (AllReady.cons rfl (fun K hK=>?_) (AllReady.cons rfl (fun K hK=>?_) AllReady.nil))
    ·go_simp;refine hK _ _ ?_;clear hK K;refine wpAny_ready (rs:=[8,12]) (by kernel_rfl) (by simp) ?_;refine AllReady.cons rfl (fun K hK=>?_) (AllReady.cons rfl (fun K hK=>?_) AllReady.nil)
     ·go_simp;refine hK _ _ ?_;clear hK K;refine wpAny_ready (rs:=[12]) (by kernel_rfl) (by simp) ?_;refine AllReady.cons rfl (fun K hK=>?_) AllReady.nil;go_simp;refine hK _ _ ?_;clear hK K;refine wpAny_ready (rs:=[13]) (by kernel_rfl) (by simp) ?_;refine AllReady.cons rfl (fun K hK=>?_) AllReady.nil;(go_simp;refine(cF c m _ _ _ f s _ hR.drew (by omega) HT1.out (by omega)).mono ?_;rintro e w2 ⟨g2,c2,rfl,hO⟩;refine hK _ _ ?_;clear hK K)
      refine wpAny_ready (rs:=[14]) (by kernel_rfl) (by simp) ?_;refine AllReady.cons rfl (fun K hK=>?_) AllReady.nil;(go_simp;refine hK _ _ ?_;clear hK K)
      refine wpAny_done (by kernel_rfl) ?_ _;go_wp2;go_ret;(rw[HV.out];exact⟨_,_,rfl,hO.rebase HB2.out.drew HB2.out.size⟩)
     ·go_simp;refine hK _ _ ?_;clear hK K;refine wpAny_ready (rs:=[8]) (by kernel_rfl) (by simp) ?_;refine AllReady.cons rfl (fun K hK=>?_) AllReady.nil;go_simp;refine hK _ _ ?_;clear hK K;refine wpAny_ready (rs:=[13]) (by kernel_rfl) (by simp) ?_;refine AllReady.cons rfl (fun K hK=>?_) AllReady.nil;(go_simp;refine(cF c m _ _ _ f s _ hR.drew (by omega) HT1.out (by omega)).mono ?_;rintro e w2 ⟨g2,c2,rfl,hO⟩;refine hK _ _ ?_;clear hK K)
      refine wpAny_ready (rs:=[14]) (by kernel_rfl) (by simp) ?_;refine AllReady.cons rfl (fun K hK=>?_) AllReady.nil;(go_simp;refine hK _ _ ?_;clear hK K)
      refine wpAny_done (by kernel_rfl) ?_ _;go_wp2;go_ret;(rw[HV.out];exact⟨_,_,rfl,hO.rebase HB2.out.drew HB2.out.size⟩)
    ·go_simp;refine hK _ _ ?_;clear hK K;refine wpAny_ready (rs:=[4,12]) (by kernel_rfl) (by simp) ?_;refine AllReady.cons rfl (fun K hK=>?_) (AllReady.cons rfl (fun K hK=>?_) AllReady.nil)
     ·go_simp;refine hK _ _ ?_;clear hK K;refine wpAny_ready (rs:=[12]) (by kernel_rfl) (by simp) ?_;refine AllReady.cons rfl (fun K hK=>?_) AllReady.nil;go_simp;refine hK _ _ ?_;clear hK K;refine wpAny_ready (rs:=[13]) (by kernel_rfl) (by simp) ?_;refine AllReady.cons rfl (fun K hK=>?_) AllReady.nil;(go_simp;refine(cF c m _ _ _ f s _ hR.drew (by omega) HT1.out (by omega)).mono ?_;rintro e w2 ⟨g2,c2,rfl,hO⟩;refine hK _ _ ?_;clear hK K)
      refine wpAny_ready (rs:=[14]) (by kernel_rfl) (by simp) ?_;refine AllReady.cons rfl (fun K hK=>?_) AllReady.nil;(go_simp;refine hK _ _ ?_;clear hK K)
      refine wpAny_done (by kernel_rfl) ?_ _;go_wp2;go_ret;(rw[HV.out];exact⟨_,_,rfl,hO.rebase HB2.out.drew HB2.out.size⟩)
     ·go_simp;refine hK _ _ ?_;clear hK K;refine wpAny_ready (rs:=[4]) (by kernel_rfl) (by simp) ?_;refine AllReady.cons rfl (fun K hK=>?_) AllReady.nil;go_simp;refine hK _ _ ?_;clear hK K;refine wpAny_ready (rs:=[13]) (by kernel_rfl) (by simp) ?_;refine AllReady.cons rfl (fun K hK=>?_) AllReady.nil;(go_simp;refine(cF c m _ _ _ f s _ hR.drew (by omega) HT1.out (by omega)).mono ?_;rintro e w2 ⟨g2,c2,rfl,hO⟩;refine hK _ _ ?_;clear hK K)
      refine wpAny_ready (rs:=[14]) (by kernel_rfl) (by simp) ?_;refine AllReady.cons rfl (fun K hK=>?_) AllReady.nil;(go_simp;refine hK _ _ ?_;clear hK K)
      refine wpAny_done (by kernel_rfl) ?_ _;go_wp2;go_ret;(rw[HV.out];exact⟨_,_,rfl,hO.rebase HB2.out.drew HB2.out.size⟩)
    ·go_simp;refine hK _ _ ?_;clear hK K;refine wpAny_ready (rs:=[4,8]) (by kernel_rfl) (by simp) ?_;refine AllReady.cons rfl (fun K hK=>?_) (AllReady.cons rfl (fun K hK=>?_) AllReady.nil)
     ·go_simp;refine hK _ _ ?_;clear hK K;refine wpAny_ready (rs:=[8]) (by kernel_rfl) (by simp) ?_;refine AllReady.cons rfl (fun K hK=>?_) AllReady.nil;go_simp;refine hK _ _ ?_;clear hK K;refine wpAny_ready (rs:=[13]) (by kernel_rfl) (by simp) ?_;refine AllReady.cons rfl (fun K hK=>?_) AllReady.nil;(go_simp;refine(cF c m _ _ _ f s _ hR.drew (by omega) HT1.out (by omega)).mono ?_;rintro e w2 ⟨g2,c2,rfl,hO⟩;refine hK _ _ ?_;clear hK K)
      refine wpAny_ready (rs:=[14]) (by kernel_rfl) (by simp) ?_;refine AllReady.cons rfl (fun K hK=>?_) AllReady.nil;(go_simp;refine hK _ _ ?_;clear hK K)
      refine wpAny_done (by kernel_rfl) ?_ _;go_wp2;go_ret;(rw[HV.out];exact⟨_,_,rfl,hO.rebase HB2.out.drew HB2.out.size⟩)
     ·go_simp;refine hK _ _ ?_;clear hK K;refine wpAny_ready (rs:=[4]) (by kernel_rfl) (by simp) ?_;refine AllReady.cons rfl (fun K hK=>?_) AllReady.nil;go_simp;refine hK _ _ ?_;clear hK K;refine wpAny_ready (rs:=[13]) (by kernel_rfl) (by simp) ?_;refine AllReady.cons rfl (fun K hK=>?_) AllReady.nil;(go_simp;refine(cF c m _ _ _ f s _ hR.drew (by omega) HT1.out (by omega)).mono ?_;rintro e w2 ⟨g2,c2,rfl,hO⟩;refine hK _ _ ?_;clear hK K)
      refine wpAny_ready (rs:=[14]) (by kernel_rfl) (by simp) ?_;refine AllReady.cons rfl (fun K hK=>?_) AllReady.nil;(go_simp;refine hK _ _ ?_;clear hK K)
      refine wpAny_done (by kernel_rfl) ?_ _;go_wp2;go_ret;(rw[HV.out];exact⟨_,_,rfl,hO.rebase HB2.out.drew HB2.out.size⟩)
  ·have hkl:k=8:=by omega
   subst hkl;have HG:Hid (asc (gY greekF greekL 769++nL) c=asc nM c):=zH (by rw[←HA.out];rfl);have HB2:Hid (Below w.heap.size w wr):=zH (HB.out.trans (hB.mono HB.out.size));clear HA HL HB hB;go_wp2;refine rR (fun W=>Below w.heap.size w W/\Rd W (some ⟨wr.heap.size,0,none⟩) 14 14 1 (aE greekF)/\Rd W (some ⟨wr.heap.size+1,0,none⟩) 14 14 1 (aE greekL)) (by exact⟨(HB2.out.alloc HB2.out.size _).alloc (by have:=HB2.out.size;simp;omega) _,(c6 (news:=#[.int .i64 902,.int .i64 904,.int .i64 905,.int .i64 906,.int .i64 908,.int .i64 910,.int .i64 911,.int .i64 940,.int .i64 941,.int .i64 942,.int .i64 943,.int .i64 972,.int .i64 973,.int .i64 974]) rfl rfl (by decide)).alloc _,c6 (news:=#[.int .i64 913,.int .i64 917,.int .i64 919,.int .i64 921,.int .i64 927,.int .i64 933,.int .i64 937,.int .i64 945,.int .i64 949,.int .i64 951,.int .i64 953,.int .i64 959,.int .i64 965,.int .i64 969]) (by simp) rfl (by decide)⟩) ?_;generalize wr.heap.size+1=bl;generalize wr.heap.size=bg;clear HB2;intro W2 hW2;have HW:=zH hW2;clear hW2;go_loopg [10] 14 (fun gg i w3 => ∃k:Nat,k+gg=14/\i=.int .i64 k/\(∀j (hj:j<k) (hf:j<greekF.length),greekF[j]≠c)/\w3=W2)
   case atStart=>exact⟨0,by omega,rfl,(fun j hj=>by omega),rfl⟩
   case round =>
    obtain⟨k,hk,rfl,hno,rfl⟩:=hrel;have HN:=zH hno;clear hno;by_cases hlt:k<14
    ·have hk1:k<greekF.length:=hlt;have hk2:k<greekL.length:=hlt;have hc1:=bW HW.out.2.1 (by omega) k (by simpa using hk1);have hc2:=bW HW.out.2.2 (by omega) k (by simpa using hk2);rw[br _ k hk1] at hc1;rw[br _ k hk2] at hc2;by_cases he:greekF[k]=c
     ·have he':(greekF[k]==c)=true:=by simpa using he
      have HR:Hid (ap c = [greekL[k],769]):=zH (by
       refine dQ c _ ?_;rw[←HG.out,eQ,mu greekF greekL 769 c k hk1 rfl he (fun j hj=>HN.out j hj (by omega))];rfl)
      clear he;go_wp2;go_ret;rw[HR.out];exact⟨_,_,rfl,L2.out _ _ _ HW.out.1⟩
     ·have he':(greekF[k]==c)=false:=by simpa using he
      have HE:=zH he;clear he;go_wp2;go_roundg (gk - 1)
      case measure=>omega
      case rel=>exact⟨k+1,by omega,by go_num,(fun j hj hf=>by
       by_cases e:j=k
       ·subst e;exact HE.out
       ·exact HN.out j (by omega) hf),rfl⟩
    ·have hkl:k=14:=by omega
     subst hkl;have HR:Hid (asc nL c=asc nM c):=zH (by
      rw[←HG.out,eQ,kf greekF _ 769 c (fun hm=>by obtain⟨j,hj,e⟩:=List.getElem_of_mem hm;exact HN.out j (by exact hj) hj e)];rfl)
     have HW1:Hid (Below w.heap.size w wr):=zH HW.out.1;clear HG HN HW;by_cases e1:c=469
     ·have F1:(c==469)=true:=by simp[e1]
      have HP:Hid (ap c = [220,772]):=zH (dQ c _ (by rw[←HR.out,e1];rfl));clear e1 HR;go_wp2;go_ret;rw[HP.out];exact⟨_,_,rfl,L2.out _ _ _ HW1.out⟩
     ·have F1:(c==469)=false:=by simpa using e1
      have E1:=zH e1;clear e1;by_cases e2:c=470
      ·have F2:(c==470)=true:=by simp[e2]
       have HP:Hid (ap c = [252,772]):=zH (dQ c _ (by rw[←HR.out,e2];rfl));clear e2 HR;go_wp2;go_ret;rw[HP.out];exact⟨_,_,rfl,L2.out _ _ _ HW1.out⟩
      ·have F2:(c==470)=false:=by simpa using e2
       have E2:=zH e2;clear e2;by_cases e3:c=7852
       ·have F3:(c==7852)=true:=by simp[e3]
        have HP:Hid (ap c = [7840,770]):=zH (dQ c _ (by rw[←HR.out,e3];rfl));clear e3 HR;go_wp2;go_ret;rw[HP.out];exact⟨_,_,rfl,L2.out _ _ _ HW1.out⟩
       ·have F3:(c==7852)=false:=by simpa using e3
        have E3:=zH e3;clear e3;by_cases e4:c=7853
        ·have F4:(c==7853)=true:=by simp[e4]
         have HP:Hid (ap c = [7841,770]):=zH (dQ c _ (by rw[←HR.out,e4];rfl));clear e4 HR;go_wp2;go_ret;rw[HP.out];exact⟨_,_,rfl,L2.out _ _ _ HW1.out⟩
        ·have F4:(c==7853)=false:=by simpa using e4
         have E4:=zH e4;clear e4;by_cases e5:c=8486
         ·have F5:(c==8486)=true:=by simp[e5]
          have HP:Hid (ap c = [937]):=zH (dQ c _ (by rw[←HR.out,e5];rfl));clear e5 HR;go_wp2;go_ret;rw[HP.out];exact⟨_,_,rfl,L1.out _ _ HW1.out⟩
         ·have F5:(c==8486)=false:=by simpa using e5
          have E5:=zH e5;clear e5;by_cases e6:c=8491
          ·have F6:(c==8491)=true:=by simp[e6]
           have HP:Hid (ap c = [197]):=zH (dQ c _ (by rw[←HR.out,e6];rfl));clear e6 HR;go_wp2;go_ret;rw[HP.out];exact⟨_,_,rfl,L1.out _ _ HW1.out⟩
          ·have F6:(c==8491)=false:=by simpa using e6
           have E6:=zH e6;clear e6;have HN:Hid (asc nM c=none):=zH (by rw[←HR.out];simp only[nL,asc,if_neg (fun e:(469:Int)=c=>E1.out e.symm),if_neg (fun e:(470:Int)=c=>E2.out e.symm),if_neg (fun e:(7852:Int)=c=>E3.out e.symm),if_neg (fun e:(7853:Int)=c=>E4.out e.symm),if_neg (fun e:(8486:Int)=c=>E5.out e.symm),if_neg (fun e:(8491:Int)=c=>E6.out e.symm)]);clear HR E1 E2 E3 E4 E5 E6;by_cases hh:44032<=c/\c<=55203
           ·have H:Hid (ap c=gX c):=zH (by rw[lQ c HN.out,if_pos hh]);obtain⟨ha,hb⟩:=hh;obtain⟨n,hn⟩:∃n,n=c - 44032:=⟨_,rfl⟩;have hc:c=n+44032:=by omega
            clear HN;by_cases ED:0<(c - 44032) % 28
            ·have H2:Hid (gX c = [4352+(c - 44032) / 588,4449+(c - 44032) % 588 / 28] ++ [4519+(c - 44032) % 28]):=zH (by unfold gX;rw[if_pos ED]);rw[←hn] at ED H2;subst hc;clear hn;have hq:0<=n / 588/\n / 588<=18:=by omega
             have hr:0<=n % 588/\n % 588<=587:=by omega
             have hx:=(L2.out wr (4352+n / 588) (4449+n % 588 / 28) HW1.out).alloc (.cells #[.int .i64 (4519+n % 28)] 3);have hR2:Rd ((wr.alloc (.cells #[.int .i64 (4352+n / 588),.int .i64 (4449+n % 588 / 28)] 3)).alloc (.cells #[.int .i64 (4519+n % 28)] 3)) (some ⟨wr.heap.size+1,0,none⟩) 1 1 1 (aE [4519+n % 28]):=c6 (by simp) rfl (by decide);go_wp2_with (first|(go_at_call 39;(first|refine(ao _ _ _ _ (by omega) (by omega)).mono ?_|refine(aG _ _ _ _ (by omega)).mono ?_);rintro e w' ⟨rfl,rfl⟩)|(at_builtin;go_loud (refine eu rfl _ _ 40 rfl 3 (.int .i64 0) 1 8 Tryz.underlying40 cA rfl (by decide) w.heap.size w _ _ _ (by rfl) (by exact hx) _ _ _ _ (by rfl) (by exact hR2) (e8 _) (by omega) (by unfold maxLen;omega) ?_);intro a2 c2 w2 hO2))
             go_ret;rw[H.out,H2.out];obtain⟨g,cp,he,_⟩:=hO2.shape1 (by omega);cases he;exact⟨_,_,rfl,hO2⟩
            ·have H2:Hid (gX c = [4352+(c - 44032) / 588,4449+(c - 44032) % 588 / 28]):=zH (by unfold gX;rw[if_neg ED];rfl);rw[←hn] at ED H2;subst hc;clear hn;have hq:0<=n / 588/\n / 588<=18:=by omega
             have hr:0<=n % 588/\n % 588<=587:=by omega
             have hx:=L2.out wr (4352+n / 588) (4449+n % 588 / 28) HW1.out;go_wp2_with (go_at_call 39;(first|refine(ao _ _ _ _ (by omega) (by omega)).mono ?_|refine(aG _ _ _ _ (by omega)).mono ?_);rintro e w' ⟨rfl,rfl⟩)
             go_ret;rw[H.out,H2.out];exact⟨_,_,rfl,hx⟩
           ·have H:Hid (ap c = []):=zH (by rw[lQ c HN.out,if_neg hh]);have hh':c<44032∨55203<c:=by omega
            have hx:=L0.out wr HW1.out;clear HN hh;go_wp2_with (go_at_call 39;(first|refine(ao _ _ _ _ (by omega) (by omega)).mono ?_|refine(aG _ _ _ _ (by omega)).mono ?_);rintro e w' ⟨rfl,rfl⟩)
            go_ret;rw[H.out];exact⟨_,_,rfl,hx⟩
end Go.Proofs.YtlkfabkkjfmnmaaGreatDoor
