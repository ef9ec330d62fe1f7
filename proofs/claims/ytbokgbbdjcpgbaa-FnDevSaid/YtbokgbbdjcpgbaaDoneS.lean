/- The reference's l8Done: the writes that are taken, done in place. -/
import Derived.Test.YtbokgbbdjcpgbaaDone
namespace Go.Proofs.Ytbokgbbdjcpgbaa
open Go.RowKit

theorem cell_far {w : World} {b j g i : Nat} {v u : Value} (h : w.cell? ⟨b, j, none⟩ = some v) (hne : b ≠ g) : (w.setCell ⟨g, i, none⟩ u).cell? ⟨b, j, none⟩ = some v :=
  cell_block h ((setCell_grownD w g i u).block b (World.block_lt_of_cell? w _ h) (fun e => hne (Option.some.inj e)))
set_option maxRecDepth 1000000 in
set_option maxHeartbeats 6000000 in
theorem specDoneM_any (a b : Option Addr) (c d : Nat) (ss : List ByteArray) (us : List (Int × ByteArray)) (mask : Int) (B : Nat) (w : World) (h : DevOwn B w (dvV a 18 c b us.length d) ss us) (hss : ss.length = 18) (hus : ∀ u ∈ us, 0 ≤ u.1 ∧ u.1 < 18) (hm : us.length ≤ 40) (hmr : -9223372036854775808 ≤ mask ∧ mask ≤ 9223372036854775807) :
    Calls Try.prog 71 #[dvV a 18 c b us.length d, .int .i64 mask, .bool false] w fun e w' => ∃ v, e = .returned v ∧ DevOwn B w' v (doneN (tkM mask) ss us us.length) [] ∧ Below B w w' := by
  obtain ⟨a', c', b', d', he, h1, h2, h3⟩ := h.ex
  rw [hss] at he h1 h3
  simp only [dvV, Value.agg.injEq, Array.mk.injEq, List.cons.injEq, Value.slice.injEq, and_true, true_and] at he
  obtain ⟨⟨rfl, rfl⟩, rfl, rfl⟩ := he
  obtain ⟨g, d0, he, hg0⟩ := h1.shape1 (by omega)
  cases he
  have HS := Lib.hid hss
  have HU := Lib.hid hus
  have hgl : g < w.heap.size := (h1.blk g rfl).2
  have HBX : Hid (Below w.heap.size w ((w.alloc (.cells #[.slice (some ⟨g, 0, none⟩) 18 c, .slice b us.length d] 32)).alloc (.cells #[.slice none 0 0, .slice none 0 0] 32))) := Lib.hid ((box_alloc w _).alloc (by simp) _)
  have H1 := Lib.hid (h1.stay HBX.out)
  have H2 := Lib.hid (h2.stay HBX.out)
  have H3 := Lib.hid h3
  have hBs := h1.base
  clear h h1 h2 h3 hss hus
  unfold dvV
  go_enter Try.func71, Try.ntmps71
  go_wp2
  have hW0 : ((w.alloc (.cells #[.slice (some ⟨g, 0, none⟩) 18 c, .slice b us.length d] 32)).alloc (.cells #[.slice none 0 0, .slice none 0 0] 32)).heap.size = w.heap.size + 2 := by simp
  have b0 := box_below (box0 w 32 (.slice (some ⟨g, 0, none⟩) 18 c) (.slice b us.length d)) (box_alloc _ (.cells #[.slice none 0 0, .slice none 0 0] 32))
  have b1 := box_below (box1 w 32 (.slice (some ⟨g, 0, none⟩) 18 c) (.slice b us.length d)) (box_alloc _ (.cells #[.slice none 0 0, .slice none 0 0] 32))
  have HBB := Lib.hid (And.intro b0 b1)
  clear b0 b1
  go_loopg [7] us.length (fun gg i wr => ∃ k : Nat, k + gg = us.length ∧ i = .int .i64 (k : Int) ∧ Hid (Own 9 1 B ((w.alloc (.cells #[.slice (some ⟨g, 0, none⟩) 18 c, .slice b us.length d] 32)).alloc (.cells #[.slice none 0 0, .slice none 0 0] 32)) (.slice (some ⟨g, 0, none⟩) 18 c) 18 (strs (doneN (tkM mask) ss us k)) wr) ∧ Hid (((w.alloc (.cells #[.slice (some ⟨g, 0, none⟩) 18 c, .slice b us.length d] 32)).alloc (.cells #[.slice none 0 0, .slice none 0 0] 32)).grownBy wr (some g)))
  case atStart => exact ⟨0, by omega, rfl, Lib.hid H1.out, Lib.hid (grown_of_below _ (Below.refl _ _))⟩
  case round =>
    obtain ⟨k, hk, rfl, HO2, HG⟩ := hrel
    have hwr : w.heap.size + 1 < wr.heap.size := by have := HG.out.size; omega
    have hwr0 : w.heap.size < wr.heap.size := by omega
    have q0 := cell_block HBB.out.1 (HG.out.block w.heap.size (by omega) (by simp; omega))
    have q1 := cell_block HBB.out.2 (HG.out.block w.heap.size (by omega) (by simp; omega))
    by_cases hlt : k < us.length
    · have HU2 := Lib.hid (H2.out.otherLow HG.out H3.out)
      obtain ⟨g2, d2, he, -⟩ := HU2.out.shape1 (by omega)
      simp only [Value.slice.injEq, true_and] at he
      obtain ⟨rfl, rfl⟩ := he
      have hg2 : g2 ≠ g := fun e => H3.out g2 rfl (by rw [e]; rfl)
      obtain ⟨bb, off, he, hbs, hc0, hc1⟩ := wrs_cells HU2.out.rd k hlt
      cases he
      have hu := HU.out us[k] (List.getElem_mem hlt)
      have hi : (k : Int) < (us.length : Int) := by omega
      obtain ⟨q, hq⟩ := Int.eq_ofNat_of_zero_le hu.1
      have hq18 : q < 18 := by omega
      have hq18' : (q : Int) < 18 := by omega
      have HY : Hid (tkM mask k = true → doneN (tkM mask) ss us (k + 1) = (doneN (tkM mask) ss us k).set q us[k].2) := Lib.hid (fun ht => by rw [doneN_yes _ _ _ _ hlt ht, hq]; rfl)
      rw [hq] at hc0
      obtain ⟨s, hs⟩ : ∃ s, s = us[k].2 := ⟨_, rfl⟩
      rw [← hs] at hc1 HY
      have hcg := HO2.out.cell q (by simp [doneN_len, HS.out]; omega)
      have hfg := HO2.out.free q
      generalize (strs (doneN (tkM mask) ss us k))[q]'_ = old at hcg
      have hgw : g < wr.heap.size := by omega
      have HAS := Lib.hid (HO2.out.set q (.string s))
      have HGS := Lib.hid (grown_trans HG.out (setCell_grownD wr g q (.string s)) (fun x hx => .inl hx))
      clear hs hu hq HU2
      have hk40 : (k : Int) < 40 := by omega
      by_cases hmk : 0 ≤ mask
      · by_cases ht : (bits BinOp.and IntKind.i64 (mask / 2 ^ k) 1 == 1) = true
        · have HT : Hid (tkM mask k = true) := Lib.hid (by rw [tkM, ht, decide_eq_true hmk]; rfl)
          have hne0 : w.heap.size ≠ g := by omega
          rw [Nat.zero_add] at hc0 hc1
          go_wp2
          refine wp_region_held_drew (S := (fun W => W.cell? ⟨w.heap.size, 0, none⟩ = some (.slice (some ⟨g, 0, none⟩) 18 c) ∧ W.cell? ⟨w.heap.size, 1, none⟩ = some (.slice (some ⟨g2, 0, none⟩) us.length d) ∧ W.cell? ⟨g2, k * 2, none⟩ = some (.int .i64 (q : Int)) ∧ W.cell? ⟨g2, k * 2 + 1, none⟩ = some (.string s))) (by kernel_rfl) ?_ (fun hHeld => ?_)
          · try dsimp only
            (first | exact ⟨q0, q1, hc0, hc1⟩ | exact ⟨cell_far q0 hne0, cell_far q1 hne0, cell_far hc0 hg2, cell_far hc1 hg2⟩)
          change wpAnyH _ _ _ _ _ 16 #[false, false, false, false, false, false, false, false, false, false, false, false, false, false, false, false] _ _
          refine wpH_take (i := 0) (v := ?_) rfl (by kernel_rfl) (by kernel_rfl) (by kernel_rfl) (fun _ _ _ h => h) (by rfl) ?_ (by assumption) ?_; rotate_left; (focus (intro w hSw; (try dsimp only at hSw); go_simp; try with_reducible rfl)); try simp only [Act.put, List.setIfInBounds_toArray, List.set_cons_zero, List.set_cons_succ]
          refine wpH_take (i := 1) (v := ?_) rfl (by kernel_rfl) (by kernel_rfl) (by kernel_rfl) (fun _ _ _ h => h) (by rfl) ?_ (by assumption) ?_; rotate_left; (focus (intro w hSw; (try dsimp only at hSw); go_simp; try with_reducible rfl)); try simp only [Act.put, List.setIfInBounds_toArray, List.set_cons_zero, List.set_cons_succ]
          refine wpH_take (i := 2) (v := ?_) rfl (by kernel_rfl) (by kernel_rfl) (by kernel_rfl) (fun _ _ _ h => h) (by rfl) ?_ (by assumption) ?_; rotate_left; (focus (intro w hSw; (try dsimp only at hSw); go_simp; try with_reducible rfl)); try simp only [Act.put, List.setIfInBounds_toArray, List.set_cons_zero, List.set_cons_succ]
          refine wpH_take (i := 3) (v := ?_) rfl (by kernel_rfl) (by kernel_rfl) (by kernel_rfl) (fun _ _ _ h => h) (by rfl) ?_ (by assumption) ?_; rotate_left; (focus (intro w hSw; (try dsimp only at hSw); go_simp; try with_reducible rfl)); try simp only [Act.put, List.setIfInBounds_toArray, List.set_cons_zero, List.set_cons_succ]
          refine wpH_take (i := 4) (v := ?_) rfl (by kernel_rfl) (by kernel_rfl) (by kernel_rfl) (fun _ _ _ h => h) (by rfl) ?_ (by assumption) ?_; rotate_left; (focus (intro w hSw; (try dsimp only at hSw); go_simp; try with_reducible rfl)); try simp only [Act.put, List.setIfInBounds_toArray, List.set_cons_zero, List.set_cons_succ]
          refine wpH_take (i := 5) (v := ?_) rfl (by kernel_rfl) (by kernel_rfl) (by kernel_rfl) (fun _ _ _ h => h) (by rfl) ?_ (by assumption) ?_; rotate_left; (focus (intro w hSw; (try dsimp only at hSw); go_simp; try with_reducible rfl)); try simp only [Act.put, List.setIfInBounds_toArray, List.set_cons_zero, List.set_cons_succ]
          refine wpH_take (i := 6) (v := ?_) rfl (by kernel_rfl) (by kernel_rfl) (by kernel_rfl) (fun _ _ _ h => h) (by rfl) ?_ (by assumption) ?_; rotate_left; (focus (intro w hSw; (try dsimp only at hSw); go_simp; try with_reducible rfl)); try simp only [Act.put, List.setIfInBounds_toArray, List.set_cons_zero, List.set_cons_succ]
          refine wpH_take (i := 7) (v := ?_) rfl (by kernel_rfl) (by kernel_rfl) (by kernel_rfl) (fun _ _ _ h => h) (by rfl) ?_ (by assumption) ?_; rotate_left; (focus (intro w hSw; (try dsimp only at hSw); go_simp; try with_reducible rfl)); try simp only [Act.put, List.setIfInBounds_toArray, List.set_cons_zero, List.set_cons_succ]
          refine wpH_take (i := 8) (v := ?_) rfl (by kernel_rfl) (by kernel_rfl) (by kernel_rfl) (fun _ _ _ h => h) (by rfl) ?_ (by assumption) ?_; rotate_left; (focus (intro w hSw; (try dsimp only at hSw); go_simp; try with_reducible rfl)); try simp only [Act.put, List.setIfInBounds_toArray, List.set_cons_zero, List.set_cons_succ]
          refine wpH_take (i := 9) (v := ?_) rfl (by kernel_rfl) (by kernel_rfl) (by kernel_rfl) (fun _ _ _ h => h) (by rfl) ?_ (by assumption) ?_; rotate_left; (focus (intro w hSw; (try dsimp only at hSw); go_simp; try with_reducible rfl)); try simp only [Act.put, List.setIfInBounds_toArray, List.set_cons_zero, List.set_cons_succ]
          refine wpH_take (i := 10) (v := ?_) rfl (by kernel_rfl) (by kernel_rfl) (by kernel_rfl) (fun _ _ _ h => h) (by rfl) ?_ (by assumption) ?_; rotate_left; (focus (intro w hSw; (try dsimp only at hSw); go_simp; try with_reducible rfl)); try simp only [Act.put, List.setIfInBounds_toArray, List.set_cons_zero, List.set_cons_succ]
          refine wpH_take (i := 11) (v := ?_) rfl (by kernel_rfl) (by kernel_rfl) (by kernel_rfl) (fun _ _ _ h => h) (by rfl) ?_ (by assumption) ?_; rotate_left; (focus (intro w hSw; (try dsimp only at hSw); go_simp; try with_reducible rfl)); try simp only [Act.put, List.setIfInBounds_toArray, List.set_cons_zero, List.set_cons_succ]
          refine wpH_take (i := 12) (v := ?_) rfl (by kernel_rfl) (by kernel_rfl) (by kernel_rfl) (fun _ _ _ h => h) (by rfl) ?_ (by assumption) ?_; rotate_left; (focus (intro w hSw; (try dsimp only at hSw); go_simp; try with_reducible rfl)); try simp only [Act.put, List.setIfInBounds_toArray, List.set_cons_zero, List.set_cons_succ]
          refine wpH_take (i := 13) (v := ?_) rfl (by kernel_rfl) (by kernel_rfl) (by kernel_rfl) (fun _ _ _ h => h) (by rfl) ?_ (by assumption) ?_; rotate_left; (focus (intro w hSw; (try dsimp only at hSw); go_simp; try with_reducible rfl)); try simp only [Act.put, List.setIfInBounds_toArray, List.set_cons_zero, List.set_cons_succ]
          refine wpH_take (i := 14) (v := ?_) rfl (by kernel_rfl) (by kernel_rfl) (by kernel_rfl) (fun _ _ _ h => h) (by rfl) ?_ (by assumption) ?_; rotate_left; (focus (intro w hSw; (try dsimp only at hSw); go_simp; try with_reducible rfl)); try simp only [Act.put, List.setIfInBounds_toArray, List.set_cons_zero, List.set_cons_succ]
          refine wpAnyH_ready (rs := [15]) (by kernel_rfl) (by simp) ?_
          refine AllReadyH.cons rfl (fun K hK => ?_) AllReadyH.nil
          try dsimp only at hHeld
          go_simp
          skip
          refine hK.out _ _ ?_ (fun hHeld2 => ?_)
          · try dsimp only
            (first | exact ⟨q0, q1, hc0, hc1⟩ | exact ⟨cell_far q0 hne0, cell_far q1 hne0, cell_far hc0 hg2, cell_far hc1 hg2⟩)
          clear hK K hHeld
          have hHeld := hHeld2
          clear hHeld2
          refine wpAnyH_done (by kernel_rfl) ?_ _
          try dsimp only at hHeld
          clear hHeld
          have HAD := Lib.hid HAS.out.drew
          have HGD := Lib.hid (grown_drew HGS.out)
          go_wp2
          go_roundg (gk - 1)
          case measure => omega
          case rel => exact ⟨k + 1, by omega, by go_num, Lib.hid (by rw [HY.out HT.out, ← strs_set]; exact HAD.out), HGD⟩
        · have ht : (bits BinOp.and IntKind.i64 (mask / 2 ^ k) 1 == 1) = false := by simpa using ht
          have HN : Hid (doneN (tkM mask) ss us (k + 1) = doneN (tkM mask) ss us k) := Lib.hid (doneN_no _ _ _ _ (by rw [tkM, ht, Bool.and_false]))
          go_wp2
          go_roundg (gk - 1)
          case measure => omega
          case rel => exact ⟨k + 1, by omega, by go_num, Lib.hid (by rw [HN.out]; exact HO2.out), HG⟩
      · have HN : Hid (doneN (tkM mask) ss us (k + 1) = doneN (tkM mask) ss us k) := Lib.hid (doneN_no _ _ _ _ (by rw [tkM, decide_eq_false hmk, Bool.false_and]))
        go_wp2
        go_roundg (gk - 1)
        case measure => omega
        case rel => exact ⟨k + 1, by omega, by go_num, Lib.hid (by rw [HN.out]; exact HO2.out), HG⟩
    · have hkl : k = us.length := by omega
      subst hkl
      have hq10 : wr.cell? ⟨w.heap.size + 1, 0, none⟩ = some (.slice none 0 0) := cell_block (by go_simp) (HG.out.block (w.heap.size + 1) (by omega) (by simp; omega))
      have hq11 : wr.cell? ⟨w.heap.size + 1, 1, none⟩ = some (.slice none 0 0) := cell_block (by go_simp) (HG.out.block (w.heap.size + 1) (by omega) (by simp; omega))
      have hz10 : wr.frozen? ⟨w.heap.size + 1, 0, none⟩ = false := (World.frozen?_of_block (a := ⟨w.heap.size + 1, 0, none⟩) (HG.out.block (w.heap.size + 1) (by omega) (by simp; omega))).trans (by go_simp)
      have hz11 : wr.frozen? ⟨w.heap.size + 1, 1, none⟩ = false := (World.frozen?_of_block (a := ⟨w.heap.size + 1, 1, none⟩) (HG.out.block (w.heap.size + 1) (by omega) (by simp; omega))).trans (by go_simp)
      have hz00 : wr.frozen? ⟨w.heap.size, 0, none⟩ = false := (World.frozen?_of_block (a := ⟨w.heap.size, 0, none⟩) (HG.out.block w.heap.size (by omega) (by simp; omega))).trans (by go_simp)
      have hz01 : wr.frozen? ⟨w.heap.size, 1, none⟩ = false := (World.frozen?_of_block (a := ⟨w.heap.size, 1, none⟩) (HG.out.block w.heap.size (by omega) (by simp; omega))).trans (by go_simp)
      have hO3 := (((HO2.out.setFar w.heap.size 1 (.slice (some ⟨wr.heap.size, 0, none⟩) 0 0) (fun x hx => by cases hx; dsimp only; omega)).setFar (w.heap.size + 1) 0 (.slice (some ⟨g, 0, none⟩) 18 c) (fun x hx => by cases hx; dsimp only; omega)).setFar (w.heap.size + 1) 1 (.slice (some ⟨wr.heap.size, 0, none⟩) 0 0) (fun x hx => by cases hx; dsimp only; omega)).alloc (.cells #[] 53)
      have hBW : Below B w wr := (HBX.out.mono hBs).trans (HO2.out.below.mono (by omega))
      have hB3 := ((hBW.setCell (p := ⟨w.heap.size, 1, none⟩) hBs (.slice (some ⟨wr.heap.size, 0, none⟩) 0 0)).setCell (p := ⟨w.heap.size + 1, 0, none⟩) (by dsimp only; omega) (.slice (some ⟨g, 0, none⟩) 18 c)).setCell (p := ⟨w.heap.size + 1, 1, none⟩) (by dsimp only; omega) (.slice (some ⟨wr.heap.size, 0, none⟩) 0 0)
      have hlit := Own.lit (e := 53) (size := 2) (n := 0) (Below.refl ((((wr.setCell ⟨w.heap.size, 1, none⟩ (.slice (some ⟨wr.heap.size, 0, none⟩) 0 0)).setCell ⟨w.heap.size + 1, 0, none⟩ (.slice (some ⟨g, 0, none⟩) 18 c)).setCell ⟨w.heap.size + 1, 1, none⟩ (.slice (some ⟨wr.heap.size, 0, none⟩) 0 0))).heap.size _) (Nat.le_refl _) #[] rfl (by decide)
      have hsz3 : ((((wr.setCell ⟨w.heap.size, 1, none⟩ (.slice (some ⟨wr.heap.size, 0, none⟩) 0 0)).setCell ⟨w.heap.size + 1, 0, none⟩ (.slice (some ⟨g, 0, none⟩) 18 c)).setCell ⟨w.heap.size + 1, 1, none⟩ (.slice (some ⟨wr.heap.size, 0, none⟩) 0 0))).heap.size = wr.heap.size := by simp
      rw [hsz3] at hlit
      have HO3 := Lib.hid hO3
      have HB3 := Lib.hid (hB3.alloc (by rw [hsz3]; omega) (.cells #[] 53))
      have HLIT := Lib.hid hlit
      have hlen : (doneN (tkM mask) ss us us.length).length = 18 := (doneN_len _ _ _ _).trans HS.out
      have HL := Lib.hid hlen
      clear hO3 hB3 hlit hsz3 hlen
      go_wp2
      refine bodyPost_ret (v := .agg #[.slice (some ⟨g, 0, none⟩) 18 c, .slice (some ⟨wr.heap.size, 0, none⟩) 0 0]) (by simp [results, Try.results71, go_sem, hq10, hq11, hwr, hwr0]) rfl ?_
      refine ⟨_, rfl, ⟨⟨some ⟨g, 0, none⟩, c, some ⟨wr.heap.size, 0, none⟩, 0, by rw [HL.out]; rfl, by rw [HL.out]; exact HO3.out.self, ⟨row_mono1 HLIT.out.row (by omega), Below.refl _ _, Nat.le_trans (by omega) HB3.out.size⟩, fun x hx => ?_⟩⟩, HB3.out⟩
      cases hx
      rw [HL.out]
      simp only [Value.ownBlock, ne_eq, Option.some.injEq]
      omega
set_option maxRecDepth 1000000 in
set_option maxHeartbeats 6000000 in
theorem specDoneF_any (a b : Option Addr) (c d : Nat) (ss : List ByteArray) (us : List (Int × ByteArray)) (mask : Int) (B : Nat) (w : World) (h : DevOwn B w (dvV a 18 c b us.length d) ss us) (hss : ss.length = 18) (hus : ∀ u ∈ us, 0 ≤ u.1 ∧ u.1 < 18) (hm : us.length ≤ 40) :
    Calls Try.prog 71 #[dvV a 18 c b us.length d, .int .i64 mask, .bool true] w fun e w' => ∃ v, e = .returned v ∧ DevOwn B w' v (doneN (fun _ => true) ss us us.length) [] ∧ Below B w w' := by
  obtain ⟨a', c', b', d', he, h1, h2, h3⟩ := h.ex
  rw [hss] at he h1 h3
  simp only [dvV, Value.agg.injEq, Array.mk.injEq, List.cons.injEq, Value.slice.injEq, and_true, true_and] at he
  obtain ⟨⟨rfl, rfl⟩, rfl, rfl⟩ := he
  obtain ⟨g, d0, he, hg0⟩ := h1.shape1 (by omega)
  cases he
  have HS := Lib.hid hss
  have HU := Lib.hid hus
  have hgl : g < w.heap.size := (h1.blk g rfl).2
  have HBX : Hid (Below w.heap.size w ((w.alloc (.cells #[.slice (some ⟨g, 0, none⟩) 18 c, .slice b us.length d] 32)).alloc (.cells #[.slice none 0 0, .slice none 0 0] 32))) := Lib.hid ((box_alloc w _).alloc (by simp) _)
  have H1 := Lib.hid (h1.stay HBX.out)
  have H2 := Lib.hid (h2.stay HBX.out)
  have H3 := Lib.hid h3
  have hBs := h1.base
  clear h h1 h2 h3 hss hus
  unfold dvV
  go_enter Try.func71, Try.ntmps71
  go_wp2
  have hW0 : ((w.alloc (.cells #[.slice (some ⟨g, 0, none⟩) 18 c, .slice b us.length d] 32)).alloc (.cells #[.slice none 0 0, .slice none 0 0] 32)).heap.size = w.heap.size + 2 := by simp
  have b0 := box_below (box0 w 32 (.slice (some ⟨g, 0, none⟩) 18 c) (.slice b us.length d)) (box_alloc _ (.cells #[.slice none 0 0, .slice none 0 0] 32))
  have b1 := box_below (box1 w 32 (.slice (some ⟨g, 0, none⟩) 18 c) (.slice b us.length d)) (box_alloc _ (.cells #[.slice none 0 0, .slice none 0 0] 32))
  have HBB := Lib.hid (And.intro b0 b1)
  clear b0 b1
  go_loopg [7] us.length (fun gg i wr => ∃ k : Nat, k + gg = us.length ∧ i = .int .i64 (k : Int) ∧ Hid (Own 9 1 B ((w.alloc (.cells #[.slice (some ⟨g, 0, none⟩) 18 c, .slice b us.length d] 32)).alloc (.cells #[.slice none 0 0, .slice none 0 0] 32)) (.slice (some ⟨g, 0, none⟩) 18 c) 18 (strs (doneN (fun _ => true) ss us k)) wr) ∧ Hid (((w.alloc (.cells #[.slice (some ⟨g, 0, none⟩) 18 c, .slice b us.length d] 32)).alloc (.cells #[.slice none 0 0, .slice none 0 0] 32)).grownBy wr (some g)))
  case atStart => exact ⟨0, by omega, rfl, Lib.hid H1.out, Lib.hid (grown_of_below _ (Below.refl _ _))⟩
  case round =>
    obtain ⟨k, hk, rfl, HO2, HG⟩ := hrel
    have hwr : w.heap.size + 1 < wr.heap.size := by have := HG.out.size; omega
    have hwr0 : w.heap.size < wr.heap.size := by omega
    have q0 := cell_block HBB.out.1 (HG.out.block w.heap.size (by omega) (by simp; omega))
    have q1 := cell_block HBB.out.2 (HG.out.block w.heap.size (by omega) (by simp; omega))
    by_cases hlt : k < us.length
    · have HU2 := Lib.hid (H2.out.otherLow HG.out H3.out)
      obtain ⟨g2, d2, he, -⟩ := HU2.out.shape1 (by omega)
      simp only [Value.slice.injEq, true_and] at he
      obtain ⟨rfl, rfl⟩ := he
      have hg2 : g2 ≠ g := fun e => H3.out g2 rfl (by rw [e]; rfl)
      obtain ⟨bb, off, he, hbs, hc0, hc1⟩ := wrs_cells HU2.out.rd k hlt
      cases he
      have hu := HU.out us[k] (List.getElem_mem hlt)
      have hi : (k : Int) < (us.length : Int) := by omega
      obtain ⟨q, hq⟩ := Int.eq_ofNat_of_zero_le hu.1
      have hq18 : q < 18 := by omega
      have hq18' : (q : Int) < 18 := by omega
      have HY : Hid (True → doneN (fun _ => true) ss us (k + 1) = (doneN (fun _ => true) ss us k).set q us[k].2) := Lib.hid (fun _ => by rw [doneN_yes _ _ _ _ hlt rfl, hq]; rfl)
      rw [hq] at hc0
      obtain ⟨s, hs⟩ : ∃ s, s = us[k].2 := ⟨_, rfl⟩
      rw [← hs] at hc1 HY
      have hcg := HO2.out.cell q (by simp [doneN_len, HS.out]; omega)
      have hfg := HO2.out.free q
      generalize (strs (doneN (fun _ => true) ss us k))[q]'_ = old at hcg
      have hgw : g < wr.heap.size := by omega
      have HAS := Lib.hid (HO2.out.set q (.string s))
      have HGS := Lib.hid (grown_trans HG.out (setCell_grownD wr g q (.string s)) (fun x hx => .inl hx))
      clear hs hu hq HU2
      have hk40 : (k : Int) < 40 := by omega
      have hne0 : w.heap.size ≠ g := by omega
      rw [Nat.zero_add] at hc0 hc1
      go_wp2
      refine wp_region_held_drew (S := (fun W => W.cell? ⟨w.heap.size, 0, none⟩ = some (.slice (some ⟨g, 0, none⟩) 18 c) ∧ W.cell? ⟨w.heap.size, 1, none⟩ = some (.slice (some ⟨g2, 0, none⟩) us.length d) ∧ W.cell? ⟨g2, k * 2, none⟩ = some (.int .i64 (q : Int)) ∧ W.cell? ⟨g2, k * 2 + 1, none⟩ = some (.string s))) (by kernel_rfl) ?_ (fun hHeld => ?_)
      · try dsimp only
        (first | exact ⟨q0, q1, hc0, hc1⟩ | exact ⟨cell_far q0 hne0, cell_far q1 hne0, cell_far hc0 hg2, cell_far hc1 hg2⟩)
      change wpAnyH _ _ _ _ _ 16 #[false, false, false, false, false, false, false, false, false, false, false, false, false, false, false, false] _ _
      refine wpH_take (i := 0) (v := ?_) rfl (by kernel_rfl) (by kernel_rfl) (by kernel_rfl) (fun _ _ _ h => h) (by rfl) ?_ (by assumption) ?_; rotate_left; (focus (intro w hSw; (try dsimp only at hSw); go_simp; try with_reducible rfl)); try simp only [Act.put, List.setIfInBounds_toArray, List.set_cons_zero, List.set_cons_succ]
      refine wpH_take (i := 1) (v := ?_) rfl (by kernel_rfl) (by kernel_rfl) (by kernel_rfl) (fun _ _ _ h => h) (by rfl) ?_ (by assumption) ?_; rotate_left; (focus (intro w hSw; (try dsimp only at hSw); go_simp; try with_reducible rfl)); try simp only [Act.put, List.setIfInBounds_toArray, List.set_cons_zero, List.set_cons_succ]
      refine wpH_take (i := 2) (v := ?_) rfl (by kernel_rfl) (by kernel_rfl) (by kernel_rfl) (fun _ _ _ h => h) (by rfl) ?_ (by assumption) ?_; rotate_left; (focus (intro w hSw; (try dsimp only at hSw); go_simp; try with_reducible rfl)); try simp only [Act.put, List.setIfInBounds_toArray, List.set_cons_zero, List.set_cons_succ]
      refine wpH_take (i := 3) (v := ?_) rfl (by kernel_rfl) (by kernel_rfl) (by kernel_rfl) (fun _ _ _ h => h) (by rfl) ?_ (by assumption) ?_; rotate_left; (focus (intro w hSw; (try dsimp only at hSw); go_simp; try with_reducible rfl)); try simp only [Act.put, List.setIfInBounds_toArray, List.set_cons_zero, List.set_cons_succ]
      refine wpH_take (i := 4) (v := ?_) rfl (by kernel_rfl) (by kernel_rfl) (by kernel_rfl) (fun _ _ _ h => h) (by rfl) ?_ (by assumption) ?_; rotate_left; (focus (intro w hSw; (try dsimp only at hSw); go_simp; try with_reducible rfl)); try simp only [Act.put, List.setIfInBounds_toArray, List.set_cons_zero, List.set_cons_succ]
      refine wpH_take (i := 5) (v := ?_) rfl (by kernel_rfl) (by kernel_rfl) (by kernel_rfl) (fun _ _ _ h => h) (by rfl) ?_ (by assumption) ?_; rotate_left; (focus (intro w hSw; (try dsimp only at hSw); go_simp; try with_reducible rfl)); try simp only [Act.put, List.setIfInBounds_toArray, List.set_cons_zero, List.set_cons_succ]
      refine wpH_take (i := 6) (v := ?_) rfl (by kernel_rfl) (by kernel_rfl) (by kernel_rfl) (fun _ _ _ h => h) (by rfl) ?_ (by assumption) ?_; rotate_left; (focus (intro w hSw; (try dsimp only at hSw); go_simp; try with_reducible rfl)); try simp only [Act.put, List.setIfInBounds_toArray, List.set_cons_zero, List.set_cons_succ]
      refine wpH_take (i := 7) (v := ?_) rfl (by kernel_rfl) (by kernel_rfl) (by kernel_rfl) (fun _ _ _ h => h) (by rfl) ?_ (by assumption) ?_; rotate_left; (focus (intro w hSw; (try dsimp only at hSw); go_simp; try with_reducible rfl)); try simp only [Act.put, List.setIfInBounds_toArray, List.set_cons_zero, List.set_cons_succ]
      refine wpH_take (i := 8) (v := ?_) rfl (by kernel_rfl) (by kernel_rfl) (by kernel_rfl) (fun _ _ _ h => h) (by rfl) ?_ (by assumption) ?_; rotate_left; (focus (intro w hSw; (try dsimp only at hSw); go_simp; try with_reducible rfl)); try simp only [Act.put, List.setIfInBounds_toArray, List.set_cons_zero, List.set_cons_succ]
      refine wpH_take (i := 9) (v := ?_) rfl (by kernel_rfl) (by kernel_rfl) (by kernel_rfl) (fun _ _ _ h => h) (by rfl) ?_ (by assumption) ?_; rotate_left; (focus (intro w hSw; (try dsimp only at hSw); go_simp; try with_reducible rfl)); try simp only [Act.put, List.setIfInBounds_toArray, List.set_cons_zero, List.set_cons_succ]
      refine wpH_take (i := 10) (v := ?_) rfl (by kernel_rfl) (by kernel_rfl) (by kernel_rfl) (fun _ _ _ h => h) (by rfl) ?_ (by assumption) ?_; rotate_left; (focus (intro w hSw; (try dsimp only at hSw); go_simp; try with_reducible rfl)); try simp only [Act.put, List.setIfInBounds_toArray, List.set_cons_zero, List.set_cons_succ]
      refine wpH_take (i := 11) (v := ?_) rfl (by kernel_rfl) (by kernel_rfl) (by kernel_rfl) (fun _ _ _ h => h) (by rfl) ?_ (by assumption) ?_; rotate_left; (focus (intro w hSw; (try dsimp only at hSw); go_simp; try with_reducible rfl)); try simp only [Act.put, List.setIfInBounds_toArray, List.set_cons_zero, List.set_cons_succ]
      refine wpH_take (i := 12) (v := ?_) rfl (by kernel_rfl) (by kernel_rfl) (by kernel_rfl) (fun _ _ _ h => h) (by rfl) ?_ (by assumption) ?_; rotate_left; (focus (intro w hSw; (try dsimp only at hSw); go_simp; try with_reducible rfl)); try simp only [Act.put, List.setIfInBounds_toArray, List.set_cons_zero, List.set_cons_succ]
      refine wpH_take (i := 13) (v := ?_) rfl (by kernel_rfl) (by kernel_rfl) (by kernel_rfl) (fun _ _ _ h => h) (by rfl) ?_ (by assumption) ?_; rotate_left; (focus (intro w hSw; (try dsimp only at hSw); go_simp; try with_reducible rfl)); try simp only [Act.put, List.setIfInBounds_toArray, List.set_cons_zero, List.set_cons_succ]
      refine wpH_take (i := 14) (v := ?_) rfl (by kernel_rfl) (by kernel_rfl) (by kernel_rfl) (fun _ _ _ h => h) (by rfl) ?_ (by assumption) ?_; rotate_left; (focus (intro w hSw; (try dsimp only at hSw); go_simp; try with_reducible rfl)); try simp only [Act.put, List.setIfInBounds_toArray, List.set_cons_zero, List.set_cons_succ]
      refine wpAnyH_ready (rs := [15]) (by kernel_rfl) (by simp) ?_
      refine AllReadyH.cons rfl (fun K hK => ?_) AllReadyH.nil
      try dsimp only at hHeld
      go_simp
      skip
      refine hK.out _ _ ?_ (fun hHeld2 => ?_)
      · try dsimp only
        (first | exact ⟨q0, q1, hc0, hc1⟩ | exact ⟨cell_far q0 hne0, cell_far q1 hne0, cell_far hc0 hg2, cell_far hc1 hg2⟩)
      clear hK K hHeld
      have hHeld := hHeld2
      clear hHeld2
      refine wpAnyH_done (by kernel_rfl) ?_ _
      try dsimp only at hHeld
      clear hHeld
      have HAD := Lib.hid HAS.out.drew
      have HGD := Lib.hid (grown_drew HGS.out)
      go_wp2
      go_roundg (gk - 1)
      case measure => omega
      case rel => exact ⟨k + 1, by omega, by go_num, Lib.hid (by rw [HY.out trivial, ← strs_set]; exact HAD.out), HGD⟩
    · have hkl : k = us.length := by omega
      subst hkl
      have hq10 : wr.cell? ⟨w.heap.size + 1, 0, none⟩ = some (.slice none 0 0) := cell_block (by go_simp) (HG.out.block (w.heap.size + 1) (by omega) (by simp; omega))
      have hq11 : wr.cell? ⟨w.heap.size + 1, 1, none⟩ = some (.slice none 0 0) := cell_block (by go_simp) (HG.out.block (w.heap.size + 1) (by omega) (by simp; omega))
      have hz10 : wr.frozen? ⟨w.heap.size + 1, 0, none⟩ = false := (World.frozen?_of_block (a := ⟨w.heap.size + 1, 0, none⟩) (HG.out.block (w.heap.size + 1) (by omega) (by simp; omega))).trans (by go_simp)
      have hz11 : wr.frozen? ⟨w.heap.size + 1, 1, none⟩ = false := (World.frozen?_of_block (a := ⟨w.heap.size + 1, 1, none⟩) (HG.out.block (w.heap.size + 1) (by omega) (by simp; omega))).trans (by go_simp)
      have hz00 : wr.frozen? ⟨w.heap.size, 0, none⟩ = false := (World.frozen?_of_block (a := ⟨w.heap.size, 0, none⟩) (HG.out.block w.heap.size (by omega) (by simp; omega))).trans (by go_simp)
      have hz01 : wr.frozen? ⟨w.heap.size, 1, none⟩ = false := (World.frozen?_of_block (a := ⟨w.heap.size, 1, none⟩) (HG.out.block w.heap.size (by omega) (by simp; omega))).trans (by go_simp)
      have hO3 := (((HO2.out.setFar w.heap.size 1 (.slice (some ⟨wr.heap.size, 0, none⟩) 0 0) (fun x hx => by cases hx; dsimp only; omega)).setFar (w.heap.size + 1) 0 (.slice (some ⟨g, 0, none⟩) 18 c) (fun x hx => by cases hx; dsimp only; omega)).setFar (w.heap.size + 1) 1 (.slice (some ⟨wr.heap.size, 0, none⟩) 0 0) (fun x hx => by cases hx; dsimp only; omega)).alloc (.cells #[] 53)
      have hBW : Below B w wr := (HBX.out.mono hBs).trans (HO2.out.below.mono (by omega))
      have hB3 := ((hBW.setCell (p := ⟨w.heap.size, 1, none⟩) hBs (.slice (some ⟨wr.heap.size, 0, none⟩) 0 0)).setCell (p := ⟨w.heap.size + 1, 0, none⟩) (by dsimp only; omega) (.slice (some ⟨g, 0, none⟩) 18 c)).setCell (p := ⟨w.heap.size + 1, 1, none⟩) (by dsimp only; omega) (.slice (some ⟨wr.heap.size, 0, none⟩) 0 0)
      have hlit := Own.lit (e := 53) (size := 2) (n := 0) (Below.refl ((((wr.setCell ⟨w.heap.size, 1, none⟩ (.slice (some ⟨wr.heap.size, 0, none⟩) 0 0)).setCell ⟨w.heap.size + 1, 0, none⟩ (.slice (some ⟨g, 0, none⟩) 18 c)).setCell ⟨w.heap.size + 1, 1, none⟩ (.slice (some ⟨wr.heap.size, 0, none⟩) 0 0))).heap.size _) (Nat.le_refl _) #[] rfl (by decide)
      have hsz3 : ((((wr.setCell ⟨w.heap.size, 1, none⟩ (.slice (some ⟨wr.heap.size, 0, none⟩) 0 0)).setCell ⟨w.heap.size + 1, 0, none⟩ (.slice (some ⟨g, 0, none⟩) 18 c)).setCell ⟨w.heap.size + 1, 1, none⟩ (.slice (some ⟨wr.heap.size, 0, none⟩) 0 0))).heap.size = wr.heap.size := by simp
      rw [hsz3] at hlit
      have HO3 := Lib.hid hO3
      have HB3 := Lib.hid (hB3.alloc (by rw [hsz3]; omega) (.cells #[] 53))
      have HLIT := Lib.hid hlit
      have hlen : (doneN (fun _ => true) ss us us.length).length = 18 := (doneN_len _ _ _ _).trans HS.out
      have HL := Lib.hid hlen
      clear hO3 hB3 hlit hsz3 hlen
      go_wp2
      refine bodyPost_ret (v := .agg #[.slice (some ⟨g, 0, none⟩) 18 c, .slice (some ⟨wr.heap.size, 0, none⟩) 0 0]) (by simp [results, Try.results71, go_sem, hq10, hq11, hwr, hwr0]) rfl ?_
      refine ⟨_, rfl, ⟨⟨some ⟨g, 0, none⟩, c, some ⟨wr.heap.size, 0, none⟩, 0, by rw [HL.out]; rfl, by rw [HL.out]; exact HO3.out.self, ⟨row_mono1 HLIT.out.row (by omega), Below.refl _ _, Nat.le_trans (by omega) HB3.out.size⟩, fun x hx => ?_⟩⟩, HB3.out⟩
      cases hx
      rw [HL.out]
      simp only [Value.ownBlock, ne_eq, Option.some.injEq]
      omega
end Go.Proofs.Ytbokgbbdjcpgbaa
