import Derived.Test.YtlkfabkkjfmnmaaKac
namespace Go.Proofs.Ytlkfabkkjfmnmaa
open Go.RowKit
set_option linter.all false
def restG : List (Int × List Int) := rowT greekF greekL 769 ++ restS
theorem flatS_drop (i : Nat) (r : PRow) (h : tabS[i]? = some r) (c : Int) : asc (flat (tabS.drop i) ++ restG) c = (asc (rowT r.1 r.2.1 r.2.2) c).or (asc (flat (tabS.drop (i + 1)) ++ restG) c) := by
 rw [asc_append, flat_drop tabS i r h, asc_append, Option.or_assoc]
set_option maxRecDepth 1000000 in
set_option maxHeartbeats 6000000 in
theorem specParts_any (c : Int) (w : World) :
  Calls Try.prog 62 #[.int .i64 c] w fun e w' => ∃ g cp, e = .returned (.slice (some ⟨g, 0, none⟩) (partsF c).length cp) ∧ Own 3 1 w.heap.size w (.slice (some ⟨g, 0, none⟩) (partsF c).length cp) (partsF c).length (ints (partsF c)) w' := by
 have L0 : Hid (∀ (W : World), Below w.heap.size w W → Own 3 1 w.heap.size w (.slice (some ⟨W.heap.size, 0, none⟩) 0 0) 0 (ints []) (W.alloc (.cells #[] 3))) := Lib.hid fun W hb => Own.lit hb hb.size #[] rfl (by decide)
 have L1 : Hid (∀ (W : World) (x : Int), Below w.heap.size w W → Own 3 1 w.heap.size w (.slice (some ⟨W.heap.size, 0, none⟩) 1 1) 1 (ints [x]) (W.alloc (.cells #[.int .i64 x] 3))) := Lib.hid fun W x hb => Own.lit hb hb.size #[.int .i64 x] rfl (by decide)
 have L2 : Hid (∀ (W : World) (x y : Int), Below w.heap.size w W → Own 3 1 w.heap.size w (.slice (some ⟨W.heap.size, 0, none⟩) 2 2) 2 (ints [x, y]) (W.alloc (.cells #[.int .i64 x, .int .i64 y] 3))) := Lib.hid fun W x y hb => Own.lit hb hb.size #[.int .i64 x, .int .i64 y] rfl (by decide)
 go_enter Try.func62, Try.ntmps62
 go_wp2
 refine wp_gen (fun W => Laid w W (w.heap.size + 1 + 1 + 1 + 1 + 1 + 1 + 1 + 1) (w.heap.size + 1 + 1 + 1 + 1 + 1 + 1 + 1 + 1 + 1) (w.heap.size + 1 + 1 + 1 + 1 + 1 + 1 + 1 + 1 + 1 + 1)) (by exact laid_ok w _ _ _ _ _ _ _ _ _ _ _ rfl rfl rfl rfl rfl rfl rfl rfl rfl rfl rfl) ?_
 generalize w.heap.size + 1 + 1 + 1 + 1 + 1 + 1 + 1 + 1 + 1 + 1 = b10
 generalize w.heap.size + 1 + 1 + 1 + 1 + 1 + 1 + 1 + 1 + 1 = b9
 generalize w.heap.size + 1 + 1 + 1 + 1 + 1 + 1 + 1 + 1 = b8
 intro W hL
 have HB := Lib.hid hL.below
 have HL := Lib.hid hL.row
 clear hL
 go_loopg [6, 7] 8 (fun gg i l wr => ∃ k : Nat, k + gg = 8 ∧ i = .int .i64 k ∧ asc (flat (tabS.drop k) ++ restG) c = asc allS c ∧ Below W.heap.size W wr)
 case atStart => exact ⟨0, by omega, rfl, rfl, Below.refl _ _⟩
 case round =>
  obtain ⟨k, hk, rfl, hAsc, hB⟩ := hrel
  have HA := Lib.hid hAsc
  clear hAsc
  by_cases hlt : k < 8
  ·obtain ⟨r, hrr⟩ : ∃ r, tabS[k]? = some r := ⟨_, List.getElem?_eq_getElem (by exact hlt)⟩
   have hD := Lib.hid (flatS_drop k r hrr c)
   have hT := strS_ok k r hrr
   obtain ⟨b, cp, hc1, hR, hc2, hc3⟩ := HL.out k r hrr
   obtain ⟨f, l, m⟩ := r
   generalize strS.getD k ⟨#[]⟩ = s at *
   simp only at hT hD hc1 hR hc3
   obtain ⟨hT1, hT2, hT3, hT4, hT5⟩ := hT
   have HT1 := Lib.hid hT1
   subst hT2
   rw [← hB.cell (World.block_lt_of_cell? _ _ hc1)] at hc1
   rw [← hB.cell (World.block_lt_of_cell? _ _ hc2)] at hc2
   rw [← hB.cell (World.block_lt_of_cell? _ _ hc3)] at hc3
   replace hR := hR.below hB (Nat.le_refl _)
   replace hc1 : wr.drew.cell? ⟨b8, k, none⟩ = _ := hc1
   replace hc2 : wr.drew.cell? ⟨b9, k, none⟩ = _ := hc2
   replace hc3 : wr.drew.cell? ⟨b10, k, none⟩ = _ := hc3
   have HB2 : Hid (Below w.heap.size w wr) := Lib.hid (HB.out.trans (hB.mono HB.out.size))
   have HBW := Lib.hid hB
   clear hrr hB
   have hD2 := hD.out
   rcases hv : asc (rowT f (numsS s.data.toList) m) c with _ | v
   ·have HV : Hid (rowV c f s m = []) := Lib.hid (by unfold rowV; rw [hv]; rfl)
    have HN : Hid (asc (flat (tabS.drop (k + 1)) ++ restG) c = asc allS c) := Lib.hid (by rw [← HA.out, hD2, hv]; rfl)
    clear hD2 hD HA hv hT1
    go_wp2
    refine wp_region_any (by kernel_rfl) ?_
    try (change wpAny _ _ _ _ _ _ _ (World.drew _))
    refine wpAny_take (i := 0) (v := ?_) rfl (by kernel_rfl) (by kernel_rfl) (by kernel_rfl) (fun _ _ _ h => h) (Or.inl ⟨by rfl, ?hy⟩) ?_; (case hy => (intro w; go_simp; try with_reducible rfl))
    refine wpAny_take (i := 1) (v := ?_) rfl (by kernel_rfl) (by kernel_rfl) (by kernel_rfl) (fun _ _ _ h => h) (Or.inl ⟨by rfl, ?hy⟩) ?_; (case hy => (intro w; go_simp; try with_reducible rfl))
    refine wpAny_take (i := 2) (v := ?_) rfl (by kernel_rfl) (by kernel_rfl) (by kernel_rfl) (fun _ _ _ h => h) (Or.inl ⟨by rfl, ?hy⟩) ?_; (case hy => (intro w; go_simp; try with_reducible rfl))
    refine wpAny_take (i := 3) (v := ?_) rfl (by kernel_rfl) (by kernel_rfl) (by kernel_rfl) (fun _ _ _ h => h) (Or.inl ⟨by rfl, ?hy⟩) ?_; (case hy => (intro w; go_simp; try with_reducible rfl))
    refine wpAny_take (i := 5) (v := ?_) rfl (by kernel_rfl) (by kernel_rfl) (by kernel_rfl) (fun _ _ _ h => h) (Or.inl ⟨by rfl, ?hy⟩) ?_; (case hy => (intro w; go_simp; try with_reducible rfl))
    refine wpAny_take (i := 6) (v := ?_) rfl (by kernel_rfl) (by kernel_rfl) (by kernel_rfl) (fun _ _ _ h => h) (Or.inl ⟨by rfl, ?hy⟩) ?_; (case hy => (intro w; go_simp; try with_reducible rfl))
    refine wpAny_take (i := 7) (v := ?_) rfl (by kernel_rfl) (by kernel_rfl) (by kernel_rfl) (fun _ _ _ h => h) (Or.inl ⟨by rfl, ?hy⟩) ?_; (case hy => (intro w; go_simp; try with_reducible rfl))
    refine wpAny_take (i := 9) (v := ?_) rfl (by kernel_rfl) (by kernel_rfl) (by kernel_rfl) (fun _ _ _ h => h) (Or.inl ⟨by rfl, ?hy⟩) ?_; (case hy => (intro w; go_simp; try with_reducible rfl))
    refine wpAny_take (i := 10) (v := ?_) rfl (by kernel_rfl) (by kernel_rfl) (by kernel_rfl) (fun _ _ _ h => h) (Or.inl ⟨by rfl, ?hy⟩) ?_; (case hy => (intro w; go_simp; try with_reducible rfl))
    refine wpAny_take (i := 11) (v := ?_) rfl (by kernel_rfl) (by kernel_rfl) (by kernel_rfl) (fun _ _ _ h => h) (Or.inl ⟨by rfl, ?hy⟩) ?_; (case hy => (intro w; go_simp; try with_reducible rfl))
    refine wpAny_ready (rs := [4, 8, 12]) (by kernel_rfl) (by simp) ?_
    refine AllReady.cons rfl (fun K hK => ?_) (AllReady.cons rfl (fun K hK => ?_) (AllReady.cons rfl (fun K hK => ?_) AllReady.nil))
    ·go_simp
     refine hK _ _ ?_
     clear hK K
     refine wpAny_ready (rs := [8, 12]) (by kernel_rfl) (by simp) ?_
     refine AllReady.cons rfl (fun K hK => ?_) (AllReady.cons rfl (fun K hK => ?_) AllReady.nil)
     ·go_simp
      refine hK _ _ ?_
      clear hK K
      refine wpAny_ready (rs := [12]) (by kernel_rfl) (by simp) ?_
      refine AllReady.cons rfl (fun K hK => ?_) AllReady.nil
      go_simp
      refine hK _ _ ?_
      clear hK K
      refine wpAny_ready (rs := [13]) (by kernel_rfl) (by simp) ?_
      refine AllReady.cons rfl (fun K hK => ?_) AllReady.nil
      (go_simp; refine (l3Row_any c m _ _ _ f s _ hR.drew (by omega) HT1.out (by omega)).mono ?_; rintro e w2 ⟨g2, c2, rfl, hO⟩; rw [HV.out] at hO ⊢; simp only [List.length_nil] at hO ⊢; refine hK _ _ ?_; clear hK K)
      refine wpAny_ready (rs := [14]) (by kernel_rfl) (by simp) ?_
      refine AllReady.cons rfl (fun K hK => ?_) AllReady.nil
      (go_simp; refine hK _ _ ?_; clear hK K)
      refine wpAny_done (by kernel_rfl) ?_ _
      go_wp2
      go_roundg (gk - 1)
      case measure => omega
      case rel => exact ⟨k + 1, by omega, by go_num, HN.out, HBW.out.drew.trans (hO.below.mono HBW.out.size)⟩
     ·go_simp
      refine hK _ _ ?_
      clear hK K
      refine wpAny_ready (rs := [8]) (by kernel_rfl) (by simp) ?_
      refine AllReady.cons rfl (fun K hK => ?_) AllReady.nil
      go_simp
      refine hK _ _ ?_
      clear hK K
      refine wpAny_ready (rs := [13]) (by kernel_rfl) (by simp) ?_
      refine AllReady.cons rfl (fun K hK => ?_) AllReady.nil
      (go_simp; refine (l3Row_any c m _ _ _ f s _ hR.drew (by omega) HT1.out (by omega)).mono ?_; rintro e w2 ⟨g2, c2, rfl, hO⟩; rw [HV.out] at hO ⊢; simp only [List.length_nil] at hO ⊢; refine hK _ _ ?_; clear hK K)
      refine wpAny_ready (rs := [14]) (by kernel_rfl) (by simp) ?_
      refine AllReady.cons rfl (fun K hK => ?_) AllReady.nil
      (go_simp; refine hK _ _ ?_; clear hK K)
      refine wpAny_done (by kernel_rfl) ?_ _
      go_wp2
      go_roundg (gk - 1)
      case measure => omega
      case rel => exact ⟨k + 1, by omega, by go_num, HN.out, HBW.out.drew.trans (hO.below.mono HBW.out.size)⟩
    ·go_simp
     refine hK _ _ ?_
     clear hK K
     refine wpAny_ready (rs := [4, 12]) (by kernel_rfl) (by simp) ?_
     refine AllReady.cons rfl (fun K hK => ?_) (AllReady.cons rfl (fun K hK => ?_) AllReady.nil)
     ·go_simp
      refine hK _ _ ?_
      clear hK K
      refine wpAny_ready (rs := [12]) (by kernel_rfl) (by simp) ?_
      refine AllReady.cons rfl (fun K hK => ?_) AllReady.nil
      go_simp
      refine hK _ _ ?_
      clear hK K
      refine wpAny_ready (rs := [13]) (by kernel_rfl) (by simp) ?_
      refine AllReady.cons rfl (fun K hK => ?_) AllReady.nil
      (go_simp; refine (l3Row_any c m _ _ _ f s _ hR.drew (by omega) HT1.out (by omega)).mono ?_; rintro e w2 ⟨g2, c2, rfl, hO⟩; rw [HV.out] at hO ⊢; simp only [List.length_nil] at hO ⊢; refine hK _ _ ?_; clear hK K)
      refine wpAny_ready (rs := [14]) (by kernel_rfl) (by simp) ?_
      refine AllReady.cons rfl (fun K hK => ?_) AllReady.nil
      (go_simp; refine hK _ _ ?_; clear hK K)
      refine wpAny_done (by kernel_rfl) ?_ _
      go_wp2
      go_roundg (gk - 1)
      case measure => omega
      case rel => exact ⟨k + 1, by omega, by go_num, HN.out, HBW.out.drew.trans (hO.below.mono HBW.out.size)⟩
     ·go_simp
      refine hK _ _ ?_
      clear hK K
      refine wpAny_ready (rs := [4]) (by kernel_rfl) (by simp) ?_
      refine AllReady.cons rfl (fun K hK => ?_) AllReady.nil
      go_simp
      refine hK _ _ ?_
      clear hK K
      refine wpAny_ready (rs := [13]) (by kernel_rfl) (by simp) ?_
      refine AllReady.cons rfl (fun K hK => ?_) AllReady.nil
      (go_simp; refine (l3Row_any c m _ _ _ f s _ hR.drew (by omega) HT1.out (by omega)).mono ?_; rintro e w2 ⟨g2, c2, rfl, hO⟩; rw [HV.out] at hO ⊢; simp only [List.length_nil] at hO ⊢; refine hK _ _ ?_; clear hK K)
      refine wpAny_ready (rs := [14]) (by kernel_rfl) (by simp) ?_
      refine AllReady.cons rfl (fun K hK => ?_) AllReady.nil
      (go_simp; refine hK _ _ ?_; clear hK K)
      refine wpAny_done (by kernel_rfl) ?_ _
      go_wp2
      go_roundg (gk - 1)
      case measure => omega
      case rel => exact ⟨k + 1, by omega, by go_num, HN.out, HBW.out.drew.trans (hO.below.mono HBW.out.size)⟩
    ·go_simp
     refine hK _ _ ?_
     clear hK K
     refine wpAny_ready (rs := [4, 8]) (by kernel_rfl) (by simp) ?_
     refine AllReady.cons rfl (fun K hK => ?_) (AllReady.cons rfl (fun K hK => ?_) AllReady.nil)
     ·go_simp
      refine hK _ _ ?_
      clear hK K
      refine wpAny_ready (rs := [8]) (by kernel_rfl) (by simp) ?_
      refine AllReady.cons rfl (fun K hK => ?_) AllReady.nil
      go_simp
      refine hK _ _ ?_
      clear hK K
      refine wpAny_ready (rs := [13]) (by kernel_rfl) (by simp) ?_
      refine AllReady.cons rfl (fun K hK => ?_) AllReady.nil
      (go_simp; refine (l3Row_any c m _ _ _ f s _ hR.drew (by omega) HT1.out (by omega)).mono ?_; rintro e w2 ⟨g2, c2, rfl, hO⟩; rw [HV.out] at hO ⊢; simp only [List.length_nil] at hO ⊢; refine hK _ _ ?_; clear hK K)
      refine wpAny_ready (rs := [14]) (by kernel_rfl) (by simp) ?_
      refine AllReady.cons rfl (fun K hK => ?_) AllReady.nil
      (go_simp; refine hK _ _ ?_; clear hK K)
      refine wpAny_done (by kernel_rfl) ?_ _
      go_wp2
      go_roundg (gk - 1)
      case measure => omega
      case rel => exact ⟨k + 1, by omega, by go_num, HN.out, HBW.out.drew.trans (hO.below.mono HBW.out.size)⟩
     ·go_simp
      refine hK _ _ ?_
      clear hK K
      refine wpAny_ready (rs := [4]) (by kernel_rfl) (by simp) ?_
      refine AllReady.cons rfl (fun K hK => ?_) AllReady.nil
      go_simp
      refine hK _ _ ?_
      clear hK K
      refine wpAny_ready (rs := [13]) (by kernel_rfl) (by simp) ?_
      refine AllReady.cons rfl (fun K hK => ?_) AllReady.nil
      (go_simp; refine (l3Row_any c m _ _ _ f s _ hR.drew (by omega) HT1.out (by omega)).mono ?_; rintro e w2 ⟨g2, c2, rfl, hO⟩; rw [HV.out] at hO ⊢; simp only [List.length_nil] at hO ⊢; refine hK _ _ ?_; clear hK K)
      refine wpAny_ready (rs := [14]) (by kernel_rfl) (by simp) ?_
      refine AllReady.cons rfl (fun K hK => ?_) AllReady.nil
      (go_simp; refine hK _ _ ?_; clear hK K)
      refine wpAny_done (by kernel_rfl) ?_ _
      go_wp2
      go_roundg (gk - 1)
      case measure => omega
      case rel => exact ⟨k + 1, by omega, by go_num, HN.out, HBW.out.drew.trans (hO.below.mono HBW.out.size)⟩
   ·have HV : Hid (partsF c = rowV c f s m) := Lib.hid (by
     rw [allS_some c v (by rw [← HA.out, hD2, hv]; rfl)]
     unfold rowV; rw [hv]; rfl)
    have hvl : 0 < (rowV c f s m).length ∧ (rowV c f s m).length ≤ 2 := by
     unfold rowV; rw [hv]; exact row_len _ _ _ _ _ hv
    obtain ⟨hvl1, hvl2⟩ := hvl
    clear hD2 hD HA hv hT1
    go_wp2
    refine wp_region_any (by kernel_rfl) ?_
    try (change wpAny _ _ _ _ _ _ _ (World.drew _))
    refine wpAny_take (i := 0) (v := ?_) rfl (by kernel_rfl) (by kernel_rfl) (by kernel_rfl) (fun _ _ _ h => h) (Or.inl ⟨by rfl, ?hy⟩) ?_; (case hy => (intro w; go_simp; try with_reducible rfl))
    refine wpAny_take (i := 1) (v := ?_) rfl (by kernel_rfl) (by kernel_rfl) (by kernel_rfl) (fun _ _ _ h => h) (Or.inl ⟨by rfl, ?hy⟩) ?_; (case hy => (intro w; go_simp; try with_reducible rfl))
    refine wpAny_take (i := 2) (v := ?_) rfl (by kernel_rfl) (by kernel_rfl) (by kernel_rfl) (fun _ _ _ h => h) (Or.inl ⟨by rfl, ?hy⟩) ?_; (case hy => (intro w; go_simp; try with_reducible rfl))
    refine wpAny_take (i := 3) (v := ?_) rfl (by kernel_rfl) (by kernel_rfl) (by kernel_rfl) (fun _ _ _ h => h) (Or.inl ⟨by rfl, ?hy⟩) ?_; (case hy => (intro w; go_simp; try with_reducible rfl))
    refine wpAny_take (i := 5) (v := ?_) rfl (by kernel_rfl) (by kernel_rfl) (by kernel_rfl) (fun _ _ _ h => h) (Or.inl ⟨by rfl, ?hy⟩) ?_; (case hy => (intro w; go_simp; try with_reducible rfl))
    refine wpAny_take (i := 6) (v := ?_) rfl (by kernel_rfl) (by kernel_rfl) (by kernel_rfl) (fun _ _ _ h => h) (Or.inl ⟨by rfl, ?hy⟩) ?_; (case hy => (intro w; go_simp; try with_reducible rfl))
    refine wpAny_take (i := 7) (v := ?_) rfl (by kernel_rfl) (by kernel_rfl) (by kernel_rfl) (fun _ _ _ h => h) (Or.inl ⟨by rfl, ?hy⟩) ?_; (case hy => (intro w; go_simp; try with_reducible rfl))
    refine wpAny_take (i := 9) (v := ?_) rfl (by kernel_rfl) (by kernel_rfl) (by kernel_rfl) (fun _ _ _ h => h) (Or.inl ⟨by rfl, ?hy⟩) ?_; (case hy => (intro w; go_simp; try with_reducible rfl))
    refine wpAny_take (i := 10) (v := ?_) rfl (by kernel_rfl) (by kernel_rfl) (by kernel_rfl) (fun _ _ _ h => h) (Or.inl ⟨by rfl, ?hy⟩) ?_; (case hy => (intro w; go_simp; try with_reducible rfl))
    refine wpAny_take (i := 11) (v := ?_) rfl (by kernel_rfl) (by kernel_rfl) (by kernel_rfl) (fun _ _ _ h => h) (Or.inl ⟨by rfl, ?hy⟩) ?_; (case hy => (intro w; go_simp; try with_reducible rfl))
    refine wpAny_ready (rs := [4, 8, 12]) (by kernel_rfl) (by simp) ?_
    refine AllReady.cons rfl (fun K hK => ?_) (AllReady.cons rfl (fun K hK => ?_) (AllReady.cons rfl (fun K hK => ?_) AllReady.nil))
    ·go_simp
     refine hK _ _ ?_
     clear hK K
     refine wpAny_ready (rs := [8, 12]) (by kernel_rfl) (by simp) ?_
     refine AllReady.cons rfl (fun K hK => ?_) (AllReady.cons rfl (fun K hK => ?_) AllReady.nil)
     ·go_simp
      refine hK _ _ ?_
      clear hK K
      refine wpAny_ready (rs := [12]) (by kernel_rfl) (by simp) ?_
      refine AllReady.cons rfl (fun K hK => ?_) AllReady.nil
      go_simp
      refine hK _ _ ?_
      clear hK K
      refine wpAny_ready (rs := [13]) (by kernel_rfl) (by simp) ?_
      refine AllReady.cons rfl (fun K hK => ?_) AllReady.nil
      (go_simp; refine (l3Row_any c m _ _ _ f s _ hR.drew (by omega) HT1.out (by omega)).mono ?_; rintro e w2 ⟨g2, c2, rfl, hO⟩; refine hK _ _ ?_; clear hK K)
      refine wpAny_ready (rs := [14]) (by kernel_rfl) (by simp) ?_
      refine AllReady.cons rfl (fun K hK => ?_) AllReady.nil
      (go_simp; refine hK _ _ ?_; clear hK K)
      refine wpAny_done (by kernel_rfl) ?_ _
      go_wp2
      go_ret
      (rw [HV.out]; exact ⟨_, _, rfl, hO.rebase HB2.out.drew HB2.out.size⟩)
     ·go_simp
      refine hK _ _ ?_
      clear hK K
      refine wpAny_ready (rs := [8]) (by kernel_rfl) (by simp) ?_
      refine AllReady.cons rfl (fun K hK => ?_) AllReady.nil
      go_simp
      refine hK _ _ ?_
      clear hK K
      refine wpAny_ready (rs := [13]) (by kernel_rfl) (by simp) ?_
      refine AllReady.cons rfl (fun K hK => ?_) AllReady.nil
      (go_simp; refine (l3Row_any c m _ _ _ f s _ hR.drew (by omega) HT1.out (by omega)).mono ?_; rintro e w2 ⟨g2, c2, rfl, hO⟩; refine hK _ _ ?_; clear hK K)
      refine wpAny_ready (rs := [14]) (by kernel_rfl) (by simp) ?_
      refine AllReady.cons rfl (fun K hK => ?_) AllReady.nil
      (go_simp; refine hK _ _ ?_; clear hK K)
      refine wpAny_done (by kernel_rfl) ?_ _
      go_wp2
      go_ret
      (rw [HV.out]; exact ⟨_, _, rfl, hO.rebase HB2.out.drew HB2.out.size⟩)
    ·go_simp
     refine hK _ _ ?_
     clear hK K
     refine wpAny_ready (rs := [4, 12]) (by kernel_rfl) (by simp) ?_
     refine AllReady.cons rfl (fun K hK => ?_) (AllReady.cons rfl (fun K hK => ?_) AllReady.nil)
     ·go_simp
      refine hK _ _ ?_
      clear hK K
      refine wpAny_ready (rs := [12]) (by kernel_rfl) (by simp) ?_
      refine AllReady.cons rfl (fun K hK => ?_) AllReady.nil
      go_simp
      refine hK _ _ ?_
      clear hK K
      refine wpAny_ready (rs := [13]) (by kernel_rfl) (by simp) ?_
      refine AllReady.cons rfl (fun K hK => ?_) AllReady.nil
      (go_simp; refine (l3Row_any c m _ _ _ f s _ hR.drew (by omega) HT1.out (by omega)).mono ?_; rintro e w2 ⟨g2, c2, rfl, hO⟩; refine hK _ _ ?_; clear hK K)
      refine wpAny_ready (rs := [14]) (by kernel_rfl) (by simp) ?_
      refine AllReady.cons rfl (fun K hK => ?_) AllReady.nil
      (go_simp; refine hK _ _ ?_; clear hK K)
      refine wpAny_done (by kernel_rfl) ?_ _
      go_wp2
      go_ret
      (rw [HV.out]; exact ⟨_, _, rfl, hO.rebase HB2.out.drew HB2.out.size⟩)
     ·go_simp
      refine hK _ _ ?_
      clear hK K
      refine wpAny_ready (rs := [4]) (by kernel_rfl) (by simp) ?_
      refine AllReady.cons rfl (fun K hK => ?_) AllReady.nil
      go_simp
      refine hK _ _ ?_
      clear hK K
      refine wpAny_ready (rs := [13]) (by kernel_rfl) (by simp) ?_
      refine AllReady.cons rfl (fun K hK => ?_) AllReady.nil
      (go_simp; refine (l3Row_any c m _ _ _ f s _ hR.drew (by omega) HT1.out (by omega)).mono ?_; rintro e w2 ⟨g2, c2, rfl, hO⟩; refine hK _ _ ?_; clear hK K)
      refine wpAny_ready (rs := [14]) (by kernel_rfl) (by simp) ?_
      refine AllReady.cons rfl (fun K hK => ?_) AllReady.nil
      (go_simp; refine hK _ _ ?_; clear hK K)
      refine wpAny_done (by kernel_rfl) ?_ _
      go_wp2
      go_ret
      (rw [HV.out]; exact ⟨_, _, rfl, hO.rebase HB2.out.drew HB2.out.size⟩)
    ·go_simp
     refine hK _ _ ?_
     clear hK K
     refine wpAny_ready (rs := [4, 8]) (by kernel_rfl) (by simp) ?_
     refine AllReady.cons rfl (fun K hK => ?_) (AllReady.cons rfl (fun K hK => ?_) AllReady.nil)
     ·go_simp
      refine hK _ _ ?_
      clear hK K
      refine wpAny_ready (rs := [8]) (by kernel_rfl) (by simp) ?_
      refine AllReady.cons rfl (fun K hK => ?_) AllReady.nil
      go_simp
      refine hK _ _ ?_
      clear hK K
      refine wpAny_ready (rs := [13]) (by kernel_rfl) (by simp) ?_
      refine AllReady.cons rfl (fun K hK => ?_) AllReady.nil
      (go_simp; refine (l3Row_any c m _ _ _ f s _ hR.drew (by omega) HT1.out (by omega)).mono ?_; rintro e w2 ⟨g2, c2, rfl, hO⟩; refine hK _ _ ?_; clear hK K)
      refine wpAny_ready (rs := [14]) (by kernel_rfl) (by simp) ?_
      refine AllReady.cons rfl (fun K hK => ?_) AllReady.nil
      (go_simp; refine hK _ _ ?_; clear hK K)
      refine wpAny_done (by kernel_rfl) ?_ _
      go_wp2
      go_ret
      (rw [HV.out]; exact ⟨_, _, rfl, hO.rebase HB2.out.drew HB2.out.size⟩)
     ·go_simp
      refine hK _ _ ?_
      clear hK K
      refine wpAny_ready (rs := [4]) (by kernel_rfl) (by simp) ?_
      refine AllReady.cons rfl (fun K hK => ?_) AllReady.nil
      go_simp
      refine hK _ _ ?_
      clear hK K
      refine wpAny_ready (rs := [13]) (by kernel_rfl) (by simp) ?_
      refine AllReady.cons rfl (fun K hK => ?_) AllReady.nil
      (go_simp; refine (l3Row_any c m _ _ _ f s _ hR.drew (by omega) HT1.out (by omega)).mono ?_; rintro e w2 ⟨g2, c2, rfl, hO⟩; refine hK _ _ ?_; clear hK K)
      refine wpAny_ready (rs := [14]) (by kernel_rfl) (by simp) ?_
      refine AllReady.cons rfl (fun K hK => ?_) AllReady.nil
      (go_simp; refine hK _ _ ?_; clear hK K)
      refine wpAny_done (by kernel_rfl) ?_ _
      go_wp2
      go_ret
      (rw [HV.out]; exact ⟨_, _, rfl, hO.rebase HB2.out.drew HB2.out.size⟩)
  ·have hkl : k = 8 := by omega
   subst hkl
   have HG : Hid (asc (rowT greekF greekL 769 ++ restS) c = asc allS c) := Lib.hid (by rw [← HA.out]; rfl)
   have HB2 : Hid (Below w.heap.size w wr) := Lib.hid (HB.out.trans (hB.mono HB.out.size))
   clear HA HL HB hB
   go_wp2
   refine wp_gen (fun W => Below w.heap.size w W ∧ Rd W (some ⟨wr.heap.size, 0, none⟩) 14 14 1 (ints greekF) ∧ Rd W (some ⟨wr.heap.size + 1, 0, none⟩) 14 14 1 (ints greekL)) (by exact ⟨(HB2.out.alloc HB2.out.size _).alloc (by have := HB2.out.size; simp; omega) _, (lit_rdS (news := #[.int .i64 902, .int .i64 904, .int .i64 905, .int .i64 906, .int .i64 908, .int .i64 910, .int .i64 911, .int .i64 940, .int .i64 941, .int .i64 942, .int .i64 943, .int .i64 972, .int .i64 973, .int .i64 974]) rfl rfl (by decide)).alloc _, lit_rdS (news := #[.int .i64 913, .int .i64 917, .int .i64 919, .int .i64 921, .int .i64 927, .int .i64 933, .int .i64 937, .int .i64 945, .int .i64 949, .int .i64 951, .int .i64 953, .int .i64 959, .int .i64 965, .int .i64 969]) (by simp) rfl (by decide)⟩) ?_
   generalize wr.heap.size + 1 = bl
   generalize wr.heap.size = bg
   clear HB2
   intro W2 hW2
   have HW := Lib.hid hW2
   clear hW2
   go_loopg [10] 14 (fun gg i w3 => ∃ k : Nat, k + gg = 14 ∧ i = .int .i64 k ∧ (∀ j (hj : j < k) (hf : j < greekF.length), greekF[j] ≠ c) ∧ w3 = W2)
   case atStart => exact ⟨0, by omega, rfl, (fun j hj => by omega), rfl⟩
   case round =>
    obtain ⟨k, hk, rfl, hno, rfl⟩ := hrel
    have HN := Lib.hid hno
    clear hno
    by_cases hlt : k < 14
    ·have hk1 : k < greekF.length := hlt
     have hk2 : k < greekL.length := hlt
     have hc1 := rdcell HW.out.2.1 (by omega) k (by simpa using hk1)
     have hc2 := rdcell HW.out.2.2 (by omega) k (by simpa using hk2)
     rw [ints_get _ k hk1] at hc1
     rw [ints_get _ k hk2] at hc2
     by_cases he : greekF[k] = c
     ·have he' : (greekF[k] == c) = true := by simpa using he
      have HR : Hid (partsF c = [greekL[k], 769]) := Lib.hid (by
       refine allS_some c _ ?_
       rw [← HG.out, asc_append, row_hit greekF greekL 769 c k hk1 rfl he (fun j hj => HN.out j hj (by omega))]
       rfl)
      clear he
      go_wp2
      go_ret
      rw [HR.out]
      exact ⟨_, _, rfl, L2.out _ _ _ HW.out.1⟩
     ·have he' : (greekF[k] == c) = false := by simpa using he
      have HE := Lib.hid he
      clear he
      go_wp2
      go_roundg (gk - 1)
      case measure => omega
      case rel => exact ⟨k + 1, by omega, by go_num, (fun j hj hf => by
       by_cases e : j = k
       ·subst e; exact HE.out
       ·exact HN.out j (by omega) hf), rfl⟩
    ·have hkl : k = 14 := by omega
     subst hkl
     have HR : Hid (asc restS c = asc allS c) := Lib.hid (by
      rw [← HG.out, asc_append, row_miss greekF _ 769 c (fun hm => by obtain ⟨j, hj, e⟩ := List.getElem_of_mem hm; exact HN.out j (by exact hj) hj e)]
      rfl)
     have HW1 : Hid (Below w.heap.size w wr) := Lib.hid HW.out.1
     clear HG HN HW
     by_cases e1 : c = 469
     ·have F1 : (c == 469) = true := by simp [e1]
      have HP : Hid (partsF c = [220, 772]) := Lib.hid (allS_some c _ (by rw [← HR.out, e1]; rfl))
      clear e1 HR
      go_wp2
      go_ret
      rw [HP.out]
      exact ⟨_, _, rfl, L2.out _ _ _ HW1.out⟩
     ·have F1 : (c == 469) = false := by simpa using e1
      have E1 := Lib.hid e1
      clear e1
      by_cases e2 : c = 470
      ·have F2 : (c == 470) = true := by simp [e2]
       have HP : Hid (partsF c = [252, 772]) := Lib.hid (allS_some c _ (by rw [← HR.out, e2]; rfl))
       clear e2 HR
       go_wp2
       go_ret
       rw [HP.out]
       exact ⟨_, _, rfl, L2.out _ _ _ HW1.out⟩
      ·have F2 : (c == 470) = false := by simpa using e2
       have E2 := Lib.hid e2
       clear e2
       by_cases e3 : c = 7852
       ·have F3 : (c == 7852) = true := by simp [e3]
        have HP : Hid (partsF c = [7840, 770]) := Lib.hid (allS_some c _ (by rw [← HR.out, e3]; rfl))
        clear e3 HR
        go_wp2
        go_ret
        rw [HP.out]
        exact ⟨_, _, rfl, L2.out _ _ _ HW1.out⟩
       ·have F3 : (c == 7852) = false := by simpa using e3
        have E3 := Lib.hid e3
        clear e3
        by_cases e4 : c = 7853
        ·have F4 : (c == 7853) = true := by simp [e4]
         have HP : Hid (partsF c = [7841, 770]) := Lib.hid (allS_some c _ (by rw [← HR.out, e4]; rfl))
         clear e4 HR
         go_wp2
         go_ret
         rw [HP.out]
         exact ⟨_, _, rfl, L2.out _ _ _ HW1.out⟩
        ·have F4 : (c == 7853) = false := by simpa using e4
         have E4 := Lib.hid e4
         clear e4
         by_cases e5 : c = 8486
         ·have F5 : (c == 8486) = true := by simp [e5]
          have HP : Hid (partsF c = [937]) := Lib.hid (allS_some c _ (by rw [← HR.out, e5]; rfl))
          clear e5 HR
          go_wp2
          go_ret
          rw [HP.out]
          exact ⟨_, _, rfl, L1.out _ _ HW1.out⟩
         ·have F5 : (c == 8486) = false := by simpa using e5
          have E5 := Lib.hid e5
          clear e5
          by_cases e6 : c = 8491
          ·have F6 : (c == 8491) = true := by simp [e6]
           have HP : Hid (partsF c = [197]) := Lib.hid (allS_some c _ (by rw [← HR.out, e6]; rfl))
           clear e6 HR
           go_wp2
           go_ret
           rw [HP.out]
           exact ⟨_, _, rfl, L1.out _ _ HW1.out⟩
          ·have F6 : (c == 8491) = false := by simpa using e6
           have E6 := Lib.hid e6
           clear e6
           have HN : Hid (asc allS c = none) := Lib.hid (by rw [← HR.out]; simp only [restS, asc, if_neg (fun e : (469 : Int) = c => E1.out e.symm), if_neg (fun e : (470 : Int) = c => E2.out e.symm), if_neg (fun e : (7852 : Int) = c => E3.out e.symm), if_neg (fun e : (7853 : Int) = c => E4.out e.symm), if_neg (fun e : (8486 : Int) = c => E5.out e.symm), if_neg (fun e : (8491 : Int) = c => E6.out e.symm)])
           clear HR E1 E2 E3 E4 E5 E6
           by_cases hh : 44032 ≤ c ∧ c ≤ 55203
           ·have H : Hid (partsF c = hang c) := Lib.hid (by rw [allS_none c HN.out, if_pos hh])
            obtain ⟨ha, hb⟩ := hh
            obtain ⟨n, hn⟩ : ∃ n, n = c - 44032 := ⟨_, rfl⟩
            have hc : c = n + 44032 := by omega
            clear HN
            by_cases h28 : 0 < (c - 44032) % 28
            ·have H2 : Hid (hang c = [4352 + (c - 44032) / 588, 4449 + (c - 44032) % 588 / 28] ++ [4519 + (c - 44032) % 28]) := Lib.hid (by unfold hang; rw [if_pos h28])
             rw [← hn] at h28 H2
             subst hc
             clear hn
             have hq : 0 ≤ n / 588 ∧ n / 588 ≤ 18 := by omega
             have hr : 0 ≤ n % 588 ∧ n % 588 ≤ 587 := by omega
             have hx := (L2.out wr (4352 + n / 588) (4449 + n % 588 / 28) HW1.out).alloc (.cells #[.int .i64 (4519 + n % 28)] 3)
             have hR2 : Rd ((wr.alloc (.cells #[.int .i64 (4352 + n / 588), .int .i64 (4449 + n % 588 / 28)] 3)).alloc (.cells #[.int .i64 (4519 + n % 28)] 3)) (some ⟨wr.heap.size + 1, 0, none⟩) 1 1 1 (ints [4519 + n % 28]) := lit_rdS (by simp) rfl (by decide)
             go_wp2_with (first | (go_at_call 22; (first | refine (l1In_yes _ _ _ _ (by omega) (by omega)).mono ?_ | refine (l1In_no _ _ _ _ (by omega)).mono ?_); rintro e w' ⟨rfl, rfl⟩) | (at_builtin; go_loud (refine wp_app rfl _ _ 69 rfl 3 (.int .i64 0) 1 8 Try.underlying69 info_i64 rfl (by decide) w.heap.size w _ _ _ (by rfl) (by exact hx) _ _ _ _ (by rfl) (by exact hR2) (ints_one _) (by omega) (by unfold maxLen; omega) ?_); intro a2 c2 w2 hO2))
             go_ret
             rw [H.out, H2.out]
             obtain ⟨g, cp, he, _⟩ := hO2.shape1 (by omega)
             cases he
             exact ⟨_, _, rfl, hO2⟩
            ·have H2 : Hid (hang c = [4352 + (c - 44032) / 588, 4449 + (c - 44032) % 588 / 28]) := Lib.hid (by unfold hang; rw [if_neg h28]; rfl)
             rw [← hn] at h28 H2
             subst hc
             clear hn
             have hq : 0 ≤ n / 588 ∧ n / 588 ≤ 18 := by omega
             have hr : 0 ≤ n % 588 ∧ n % 588 ≤ 587 := by omega
             have hx := L2.out wr (4352 + n / 588) (4449 + n % 588 / 28) HW1.out
             go_wp2_with (go_at_call 22; (first | refine (l1In_yes _ _ _ _ (by omega) (by omega)).mono ?_ | refine (l1In_no _ _ _ _ (by omega)).mono ?_); rintro e w' ⟨rfl, rfl⟩)
             go_ret
             rw [H.out, H2.out]
             exact ⟨_, _, rfl, hx⟩
           ·have H : Hid (partsF c = []) := Lib.hid (by rw [allS_none c HN.out, if_neg hh])
            have hh' : c < 44032 ∨ 55203 < c := by omega
            have hx := L0.out wr HW1.out
            clear HN hh
            go_wp2_with (go_at_call 22; (first | refine (l1In_yes _ _ _ _ (by omega) (by omega)).mono ?_ | refine (l1In_no _ _ _ _ (by omega)).mono ?_); rintro e w' ⟨rfl, rfl⟩)
            go_ret
            rw [H.out]
            exact ⟨_, _, rfl, hx⟩
end Go.Proofs.Ytlkfabkkjfmnmaa
