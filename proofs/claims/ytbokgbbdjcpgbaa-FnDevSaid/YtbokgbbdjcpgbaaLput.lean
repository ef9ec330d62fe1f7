/- The reference's l8Copy, Flush, Crash; words for a device that stays while another one is marked. -/
import Derived.Test.YtbokgbbdjcpgbaaDoneS
import Derived.Test.YtbokgbbdjcpgbaaLdevok
namespace Go.Proofs.Ytbokgbbdjcpgbaa
open Go.RowKit

theorem wf_b {n : Int} (wf : (Lit.int .i64 n).wf = true) : -9223372036854775808 ≤ n ∧ n ≤ 9223372036854775807 := by simpa [Lit.wf, IntKind.min, IntKind.max, IntKind.signed, IntKind.bits] using wf
theorem Own.far {e : TypeId} {size B : Nat} {W0 w w' : World} {v : Value} {n : Nat} {xs : List Value} (h : Own e size B W0 v n xs w) (hs : w.heap.size ≤ w'.heap.size) (hf : ∀ k, v.ownBlock = some k → w'.heap[k]? = w.heap[k]?) : Own e size B w' v n xs w' := by
  refine ⟨⟨h.row.1, ?_⟩, Below.refl _ _, Nat.le_trans h.base hs⟩
  rcases h.row.2 with hn | ⟨g, cap, cur, rfl, hg, hgg, rest⟩
  · exact .inl hn
  · exact .inr ⟨g, cap, cur, rfl, hg, (hf g rfl).trans hgg, rest⟩
theorem DevOwn.far {B : Nat} {w w' : World} {v : Value} {ss : List ByteArray} {us : List (Int × ByteArray)} (h : DevOwn B w v ss us) (hs : w.heap.size ≤ w'.heap.size) (hf : ∀ k, B ≤ k → k < w.heap.size → w'.heap[k]? = w.heap[k]?) : DevOwn B w' v ss us := by
  obtain ⟨a, c, b, d, e, h1, h2, h3⟩ := h.ex
  exact ⟨a, c, b, d, e, h1.far hs (fun k hk => hf k (h1.blk k hk).1 (h1.blk k hk).2), h2.far hs (fun k hk => hf k (h2.blk k hk).1 (h2.blk k hk).2), h3⟩
theorem DevOwn.blk2 {B : Nat} {w : World} {p r : Option Addr} {n q m s : Nat} {ss : List ByteArray} {us : List (Int × ByteArray)} (h : DevOwn B w (.agg #[.slice p n q, .slice r m s]) ss us) :
    ∀ k, ((Value.slice p n q).ownBlock = some k ∨ (Value.slice r m s).ownBlock = some k) → B ≤ k ∧ k < w.heap.size := by
  intro k hk
  obtain ⟨a, c, b, d, e, h1, h2, _⟩ := h.ex
  simp only [dvV, Value.agg.injEq, Array.mk.injEq, List.cons.injEq, and_true] at e
  obtain ⟨e1, e2⟩ := e
  rw [e1, e2] at hk
  rcases hk with hk | hk
  · exact h1.blk k hk
  · exact h2.blk k hk
theorem far_of {W w' : World} {p r : Option Addr} {q s lo hi : Nat} {ss : List ByteArray} {us : List (Int × ByteArray)}
    (hfar : ∀ k, k < W.heap.size → (∀ a c b d, (Value.agg #[.slice p ss.length q, .slice r us.length s]) = dvV a ss.length c b us.length d → (Value.slice a ss.length c).ownBlock ≠ some k ∧ (Value.slice b us.length d).ownBlock ≠ some k) → w'.heap[k]? = W.heap[k]?)
    (hK : ∀ k, ((Value.slice p ss.length q).ownBlock = some k ∨ (Value.slice r us.length s).ownBlock = some k) → lo ≤ k ∧ k < hi) : ∀ k, k < W.heap.size → (k < lo ∨ hi ≤ k) → w'.heap[k]? = W.heap[k]? := by
  intro k h1 h2
  refine hfar k h1 fun a c b d e => ?_
  simp only [dvV, Value.agg.injEq, Array.mk.injEq, List.cons.injEq, and_true] at e
  obtain ⟨e1, e2⟩ := e
  rw [← e1, ← e2]
  constructor
  · intro hk; have := hK k (.inl hk); omega
  · intro hk; have := hK k (.inr hk); omega
-- the rest is printed by gen_lput.py
section
variable {P : Program}
theorem step_appg {w : World} {ops : Array Oper} {o : Oper} {a : Act} {K : Act → World → Prop} {Q : Exit → Act → World → Prop} {E : Prop} (hgd : o.guard = none) (s x : Operand) (t : TypeId)
    (ho : o.op = .call { callee := .builtin .append, args := #[s, x], argTypes := #[t, t] })
    (e : TypeId) (z : Value) (size bytes : Nat) (ht : P.underlying t = some (.slice e)) (hi : (P.info? e).map (fun i => (i.zero, i.size, i.bytes)) = some (some z, size, bytes)) (hzs : z.cells.size = size) (hsz : 0 < size)
    (B : Nat) (W0 : World) (v : Value) (n : Nat) (xs : List Value) (hs : a.eval s = v) (hown : Own e size B W0 v n xs w)
    (ad : Option Addr) (m c : Nat) (news : List Value) (hx : a.eval x = .slice ad m c) (hr : Rd w ad m c size news) (h1 : ∀ u ∈ news, u.oneCell' = true)
    (hlim : (n + m) * bytes ≤ 140737488355328) (hmax : n + m ≤ maxLen)
    (h : ∀ a' cap' w', Own e size B W0 (.slice a' (n + m) cap') (n + m) (xs ++ news) w' → w.grownBy w' v.ownBlock → K (a.put o.dst (.slice a' (n + m) cap')) w') :
    if Region.wanted o (yielded ops a.tmps) = true then Oper.wp P o a w K Q else E := by
  rw [if_pos (by simp [Region.wanted, hgd])]
  exact oper_appg s x t ho e z size bytes ht hi hzs hsz B W0 v n xs hs hown ad m c news hx hr h1 hlim hmax h
end
/-- A literal with no elements. -/
theorem lit_empty (w : World) (e : TypeId) (size : Nat) : Own e size w.heap.size w (.slice (some ⟨w.heap.size, 0, none⟩) 0 0) 0 [] (w.alloc (.cells #[] e)) := Own.lit (Below.refl _ _) (Nat.le_refl _) #[] (by simp) (by decide)

theorem below_lit {w W : World} (hb : Below w.heap.size w W) (e : TypeId) (size : Nat) : Own e size w.heap.size w (.slice (some ⟨W.heap.size, 0, none⟩) 0 0) 0 [] (W.alloc (.cells #[] e)) := Own.lit hb hb.size #[] (by simp) (by decide)
/-- What is owned stays while a row of other elements is added to. -/
theorem lit_at {W0 W : World} {B : Nat} (hb : Below B W0 W) (hB : B ≤ W.heap.size) (e : TypeId) (size b : Nat) (h : b = W.heap.size) : Own e size B W0 (.slice (some ⟨b, 0, none⟩) 0 0) 0 [] (W.alloc (.cells #[] e)) := by
  subst h
  exact Own.lit hb hB #[] (by simp) (by decide)
theorem keep_beside {W0 W W' : World} {B size size' n n' : Nat} {e e' : TypeId} {v v' : Value} {xs xs' : List Value} (h : Own e size B W0 v n xs W) (h' : Own e' size' B W0 v' n' xs' W) (hne : e ≠ e') (hg : W.grownBy W' v'.ownBlock) (hb : Below B W0 W') : Own e size B W0 v n xs W' :=
  ⟨(h.otherLow hg (fun k hk e => own_apart h h' hne k e hk)).row, hb, Nat.le_trans h.base hg.size⟩
set_option maxRecDepth 1000000 in
set_option maxHeartbeats 6000000 in
theorem l8Copy_any (v : Value) (ss : List ByteArray) (us : List (Int × ByteArray)) (w : World) (h : DevRd w v ss us) (hn : ss.length ≤ 1048576) (hm : us.length ≤ 1048576) :
    Calls Try.prog 72 #[v] w (DevPost ss us w) := by
  obtain ⟨a, c, b, d, rfl, h1, h2⟩ := h.ex
  clear h
  unfold dvV
  have HB0 := Lib.hid ((box_alloc w (.cells #[.slice a ss.length c, .slice b us.length d] 32)).alloc (by simp) (.cells #[.slice none 0 0, .slice none 0 0] 32))
  have H1 := Lib.hid h1
  have H2 := Lib.hid h2
  clear h1 h2
  go_enter Try.func72, Try.ntmps72
  go_wp2
  have hsz0 : ((w.alloc (.cells #[.slice a ss.length c, .slice b us.length d] 32)).alloc (.cells #[.slice none 0 0, .slice none 0 0] 32)).heap.size = w.heap.size + 2 := by simp
  have q0 : ((w.alloc (.cells #[.slice a ss.length c, .slice b us.length d] 32)).alloc (.cells #[.slice none 0 0, .slice none 0 0] 32)).cell? ⟨w.heap.size, 0, none⟩ = some (.slice a ss.length c) := by go_simp
  have q1 : ((w.alloc (.cells #[.slice a ss.length c, .slice b us.length d] 32)).alloc (.cells #[.slice none 0 0, .slice none 0 0] 32)).cell? ⟨w.heap.size, 1, none⟩ = some (.slice b us.length d) := by go_simp
  have q2 : ((w.alloc (.cells #[.slice a ss.length c, .slice b us.length d] 32)).alloc (.cells #[.slice none 0 0, .slice none 0 0] 32)).cell? ⟨w.heap.size + 1, 0, none⟩ = some (.slice none 0 0) := by go_simp
  have q3 : ((w.alloc (.cells #[.slice a ss.length c, .slice b us.length d] 32)).alloc (.cells #[.slice none 0 0, .slice none 0 0] 32)).cell? ⟨w.heap.size + 1, 1, none⟩ = some (.slice none 0 0) := by go_simp
  have f2 : ((w.alloc (.cells #[.slice a ss.length c, .slice b us.length d] 32)).alloc (.cells #[.slice none 0 0, .slice none 0 0] 32)).frozen? ⟨w.heap.size + 1, 0, none⟩ = false := by go_simp
  have f3 : ((w.alloc (.cells #[.slice a ss.length c, .slice b us.length d] 32)).alloc (.cells #[.slice none 0 0, .slice none 0 0] 32)).frozen? ⟨w.heap.size + 1, 1, none⟩ = false := by go_simp
  generalize (w.alloc (.cells #[.slice a ss.length c, .slice b us.length d] 32)).alloc (.cells #[.slice none 0 0, .slice none 0 0] 32) = W0 at *
  have HF := Lib.hid (And.intro q0 (And.intro q1 (And.intro (And.intro q2 q3) (And.intro f2 f3))))
  have HALL : Hid (∀ W, Below W0.heap.size W0 W → (W.cell? ⟨w.heap.size, 0, none⟩ = some (.slice a ss.length c) ∧ W.cell? ⟨w.heap.size, 1, none⟩ = some (.slice b us.length d) ∧ Below w.heap.size w W)) := Lib.hid (fun W hW => ⟨box_below q0 hW, box_below q1 hW, HB0.out.trans (hW.mono (by omega))⟩)
  have HFIN : Hid (∀ (W : World) (a1 : Option Addr) (c1 : Nat) (a2 : Option Addr) (c2 : Nat), Own 9 1 W0.heap.size W0 (.slice a1 (0 + ss.length) c1) (0 + ss.length) ([] ++ strs ss) W → Own 53 2 W0.heap.size W0 (.slice a2 (0 + us.length) c2) (0 + us.length) ([] ++ wrs us) W →
      ((W.cell? ⟨w.heap.size + 1, 0, none⟩ = some (.slice none 0 0) ∧ W.cell? ⟨w.heap.size + 1, 1, none⟩ = some (.slice none 0 0)) ∧ (W.frozen? ⟨w.heap.size + 1, 0, none⟩ = false ∧ W.frozen? ⟨w.heap.size + 1, 1, none⟩ = false) ∧ w.heap.size + 1 < W.heap.size) ∧
      DevPost ss us w (.returned (.agg #[.slice a1 (0 + ss.length) c1, .slice a2 (0 + us.length) c2])) ((W.setCell ⟨w.heap.size + 1, 0, none⟩ (.slice a1 (0 + ss.length) c1)).setCell ⟨w.heap.size + 1, 1, none⟩ (.slice a2 (0 + us.length) c2))) := Lib.hid (fun W a1 c1 a2 c2 o1 o2 => by
    have hb := o1.below
    have hlt : w.heap.size + 1 < W0.heap.size := by omega
    refine ⟨⟨⟨box_below q2 hb, box_below q3 hb⟩, ⟨((bcell hb).2 _ _ hlt).trans f2, ((bcell hb).2 _ _ hlt).trans f3⟩, by have := hb.size; omega⟩, ?_⟩
    have hbw : Below w.heap.size w W := HB0.out.trans (hb.mono (by omega))
    simp only [Nat.zero_add, List.nil_append] at *
    have hne := own_apart o1.self o2.self (by decide)
    have O1 := (o1.self.setFar (w.heap.size + 1) 0 (.slice a1 ss.length c1) (fun k hk => by have := (o1.blk k hk).1; omega)).setFar (w.heap.size + 1) 1 (.slice a2 us.length c2) (fun k hk => by have := (o1.blk k hk).1; omega)
    have O2 := (o2.self.setFar (w.heap.size + 1) 0 (.slice a1 ss.length c1) (fun k hk => by have := (o2.blk k hk).1; omega)).setFar (w.heap.size + 1) 1 (.slice a2 us.length c2) (fun k hk => by have := (o2.blk k hk).1; omega)
    have hbf := (hbw.setCell (p := ⟨w.heap.size + 1, 0, none⟩) (by dsimp only; omega) (.slice a1 ss.length c1)).setCell (p := ⟨w.heap.size + 1, 1, none⟩) (by dsimp only; omega) (.slice a2 us.length c2)
    exact ⟨_, rfl, ⟨⟨a1, c1, a2, c2, rfl, ⟨row_mono1 O1.row (by omega), Below.refl _ _, hbf.size⟩, ⟨row_mono1 O2.row (by omega), Below.refl _ _, hbf.size⟩, hne⟩⟩, hbf⟩)
  have H1b := Lib.hid (H1.out.below HB0.out (Nat.le_refl _))
  have H2b := Lib.hid (H2.out.below HB0.out (Nat.le_refl _))
  clear q2 q3 f2 f3 H1 H2
  have hB0 := Below.refl W0.heap.size W0
  have HZ := Lib.hid hsz0
  clear hsz0
  refine wp_region_held_drew (S := (fun W => W.cell? ⟨w.heap.size, 0, none⟩ = some (.slice a ss.length c) ∧ W.cell? ⟨w.heap.size, 1, none⟩ = some (.slice b us.length d) ∧ Below w.heap.size w W)) (by kernel_rfl) ?_ (fun hHeld => ?_)
  · try dsimp only
    (go_split_ands; first | exact HALL.out _ (by assumption) | exact HALL.out _ (Below.drew (by assumption)))
  change wpAnyH _ _ _ _ _ 10 #[false, false, false, false, false, false, false, false, false, false] _ _
  clear hB0
  refine wpH_take (i := 1) (v := ?_) rfl (by kernel_rfl) (by kernel_rfl) (by kernel_rfl) (fun _ _ _ h => h) (by rfl) ?_ (by assumption) ?_; rotate_left; (focus (intro w hSw; (try dsimp only at hSw); go_simp; try with_reducible rfl)); try simp only [Act.put, List.setIfInBounds_toArray, List.set_cons_zero, List.set_cons_succ]
  refine wpH_take (i := 2) (v := ?_) rfl (by kernel_rfl) (by kernel_rfl) (by kernel_rfl) (fun _ _ _ h => h) (by rfl) ?_ (by assumption) ?_; rotate_left; (focus (intro w hSw; (try dsimp only at hSw); go_simp; try with_reducible rfl)); try simp only [Act.put, List.setIfInBounds_toArray, List.set_cons_zero, List.set_cons_succ]
  refine wpH_take (i := 5) (v := ?_) rfl (by kernel_rfl) (by kernel_rfl) (by kernel_rfl) (fun _ _ _ h => h) (by rfl) ?_ (by assumption) ?_; rotate_left; (focus (intro w hSw; (try dsimp only at hSw); go_simp; try with_reducible rfl)); try simp only [Act.put, List.setIfInBounds_toArray, List.set_cons_zero, List.set_cons_succ]
  refine wpH_take (i := 6) (v := ?_) rfl (by kernel_rfl) (by kernel_rfl) (by kernel_rfl) (fun _ _ _ h => h) (by rfl) ?_ (by assumption) ?_; rotate_left; (focus (intro w hSw; (try dsimp only at hSw); go_simp; try with_reducible rfl)); try simp only [Act.put, List.setIfInBounds_toArray, List.set_cons_zero, List.set_cons_succ]
  refine wpAnyH_ready (rs := [0, 4]) (by kernel_rfl) (by simp) ?_
  refine AllReadyH.cons rfl (fun K hK => ?_) (AllReadyH.cons rfl (fun K hK => ?_) AllReadyH.nil)
  · try dsimp only at hHeld
    go_simp
    have O1n := Lib.hid (lit_at ((Below.refl W0.heap.size W0).drew) ((Below.refl W0.heap.size W0).drew).size 9 1 (W0.heap.size) (by first | rfl | simp))
    have O1 := O1n
    clear O1n
    refine hK.out _ _ ?_ (fun hHeld2 => ?_)
    · try dsimp only
      exact HALL.out _ (O1.out.below)
    clear hK K hHeld
    have hHeld := hHeld2
    clear hHeld2
    refine wpAnyH_ready (rs := [3, 4]) (by kernel_rfl) (by simp) ?_
    refine AllReadyH.cons rfl (fun K hK => ?_) (AllReadyH.cons rfl (fun K hK => ?_) AllReadyH.nil)
    · try dsimp only at hHeld
      refine step_appg rfl _ _ 29 rfl 9 (.string ByteArray.empty) 1 16 Try.underlying29 info_str rfl (by decide) _ _ _ 0 [] rfl O1.out _ ss.length _ _ rfl (H1b.out.below (O1.out.below) (Nat.le_refl _)) (strs_one _) (by omega) (by unfold maxLen; omega) ?_
      intro aa2 cc2 ww2 hOn hGn
      replace O1 := Lib.hid hOn
      clear hOn hGn
      refine hK.out _ _ ?_ (fun hHeld2 => ?_)
      · try dsimp only
        exact HALL.out _ (O1.out.below)
      clear hK K hHeld
      have hHeld := hHeld2
      clear hHeld2
      refine wpAnyH_ready (rs := [4]) (by kernel_rfl) (by simp) ?_
      refine AllReadyH.cons rfl (fun K hK => ?_) AllReadyH.nil
      · try dsimp only at hHeld
        go_simp
        have O2n := Lib.hid (lit_at (O1.out.below) (O1.out.below).size 53 2 (ww2.heap.size) (by first | rfl | simp))
        replace O1 := Lib.hid (O1.out.alloc (.cells #[] 53))
        have O2 := O2n
        clear O2n
        refine hK.out _ _ ?_ (fun hHeld2 => ?_)
        · try dsimp only
          exact HALL.out _ (O2.out.below)
        clear hK K hHeld
        have hHeld := hHeld2
        clear hHeld2
        refine wpAnyH_ready (rs := [7]) (by kernel_rfl) (by simp) ?_
        refine AllReadyH.cons rfl (fun K hK => ?_) AllReadyH.nil
        · try dsimp only at hHeld
          refine step_appg rfl _ _ 30 rfl 53 (.agg #[.int .i64 0, .string ByteArray.empty]) 2 24 Try.underlying30 info_wr rfl (by decide) _ _ _ 0 [] rfl O2.out _ us.length _ _ rfl (H2b.out.below (O2.out.below) (Nat.le_refl _)) (wrs_one _) (by omega) (by unfold maxLen; omega) ?_
          intro aa4 cc4 ww4 hOn hGn
          replace O1 := Lib.hid (keep_beside O1.out O2.out (by decide) hGn hOn.below)
          replace O2 := Lib.hid hOn
          clear hOn hGn
          refine hK.out _ _ ?_ (fun hHeld2 => ?_)
          · try dsimp only
            exact HALL.out _ (O2.out.below)
          clear hK K hHeld
          have hHeld := hHeld2
          clear hHeld2
          have hFin := HFIN.out _ _ _ _ _ O1.out O2.out
          obtain ⟨⟨⟨g0, g1⟩, ⟨z0, z1⟩, hz⟩, hP⟩ := hFin
          simp only [Nat.zero_add] at hP
          have HP := Lib.hid hP
          clear hP O1 O2
          refine wpAnyH_ready (rs := [8]) (by kernel_rfl) (by simp) ?_
          refine AllReadyH.cons rfl (fun K hK => ?_) AllReadyH.nil
          go_simp
          refine hK.out _ _ (by exact hHeld) (fun hHeld2 => ?_)
          clear hK K hHeld
          refine wpAnyH_ready (rs := [9]) (by kernel_rfl) (by simp) ?_
          refine AllReadyH.cons rfl (fun K hK => ?_) AllReadyH.nil
          go_simp
          have hS1 := cell_far (cell_far hHeld2.1 (by omega : w.heap.size ≠ w.heap.size + 1) (i := 0) (u := (.slice aa2 ss.length cc2))) (by omega : w.heap.size ≠ w.heap.size + 1) (i := 1) (u := (.slice aa4 us.length cc4))
          have hS2 := cell_far (cell_far hHeld2.2.1 (by omega : w.heap.size ≠ w.heap.size + 1) (i := 0) (u := (.slice aa2 ss.length cc2))) (by omega : w.heap.size ≠ w.heap.size + 1) (i := 1) (u := (.slice aa4 us.length cc4))
          have hS3 := HP.out.choose_spec.2.2
          refine hK.out _ _ (by exact ⟨hS1, hS2, hS3⟩) (fun hHeld => ?_)
          clear hK K hHeld hHeld2 hS1 hS2 hS3
          refine wpAnyH_done (by kernel_rfl) ?_ _
          go_wp2
          refine bodyPost_ret (v := .agg #[(.slice aa2 ss.length cc2), (.slice aa4 us.length cc4)]) (by simp [results, Try.results72, go_sem, hz, g0, g1, z0, z1]) rfl ?_
          exact HP.out
    · try dsimp only at hHeld
      go_simp
      have O2n := Lib.hid (lit_at (O1.out.below) (O1.out.below).size 53 2 (W0.heap.size + 1) (by first | rfl | simp))
      replace O1 := Lib.hid (O1.out.alloc (.cells #[] 53))
      have O2 := O2n
      clear O2n
      refine hK.out _ _ ?_ (fun hHeld2 => ?_)
      · try dsimp only
        exact HALL.out _ (O2.out.below)
      clear hK K hHeld
      have hHeld := hHeld2
      clear hHeld2
      refine wpAnyH_ready (rs := [3]) (by kernel_rfl) (by simp) ?_
      refine AllReadyH.cons rfl (fun K hK => ?_) AllReadyH.nil
      · try dsimp only at hHeld
        refine step_appg rfl _ _ 29 rfl 9 (.string ByteArray.empty) 1 16 Try.underlying29 info_str rfl (by decide) _ _ _ 0 [] rfl O1.out _ ss.length _ _ rfl (H1b.out.below (O2.out.below) (Nat.le_refl _)) (strs_one _) (by omega) (by unfold maxLen; omega) ?_
        intro aa6 cc6 ww6 hOn hGn
        replace O2 := Lib.hid (keep_beside O2.out O1.out (by decide) hGn hOn.below)
        replace O1 := Lib.hid hOn
        clear hOn hGn
        refine hK.out _ _ ?_ (fun hHeld2 => ?_)
        · try dsimp only
          exact HALL.out _ (O1.out.below)
        clear hK K hHeld
        have hHeld := hHeld2
        clear hHeld2
        refine wpAnyH_ready (rs := [7]) (by kernel_rfl) (by simp) ?_
        refine AllReadyH.cons rfl (fun K hK => ?_) AllReadyH.nil
        · try dsimp only at hHeld
          refine step_appg rfl _ _ 30 rfl 53 (.agg #[.int .i64 0, .string ByteArray.empty]) 2 24 Try.underlying30 info_wr rfl (by decide) _ _ _ 0 [] rfl O2.out _ us.length _ _ rfl (H2b.out.below (O1.out.below) (Nat.le_refl _)) (wrs_one _) (by omega) (by unfold maxLen; omega) ?_
          intro aa7 cc7 ww7 hOn hGn
          replace O1 := Lib.hid (keep_beside O1.out O2.out (by decide) hGn hOn.below)
          replace O2 := Lib.hid hOn
          clear hOn hGn
          refine hK.out _ _ ?_ (fun hHeld2 => ?_)
          · try dsimp only
            exact HALL.out _ (O2.out.below)
          clear hK K hHeld
          have hHeld := hHeld2
          clear hHeld2
          have hFin := HFIN.out _ _ _ _ _ O1.out O2.out
          obtain ⟨⟨⟨g0, g1⟩, ⟨z0, z1⟩, hz⟩, hP⟩ := hFin
          simp only [Nat.zero_add] at hP
          have HP := Lib.hid hP
          clear hP O1 O2
          refine wpAnyH_ready (rs := [8]) (by kernel_rfl) (by simp) ?_
          refine AllReadyH.cons rfl (fun K hK => ?_) AllReadyH.nil
          go_simp
          refine hK.out _ _ (by exact hHeld) (fun hHeld2 => ?_)
          clear hK K hHeld
          refine wpAnyH_ready (rs := [9]) (by kernel_rfl) (by simp) ?_
          refine AllReadyH.cons rfl (fun K hK => ?_) AllReadyH.nil
          go_simp
          have hS1 := cell_far (cell_far hHeld2.1 (by omega : w.heap.size ≠ w.heap.size + 1) (i := 0) (u := (.slice aa6 ss.length cc6))) (by omega : w.heap.size ≠ w.heap.size + 1) (i := 1) (u := (.slice aa7 us.length cc7))
          have hS2 := cell_far (cell_far hHeld2.2.1 (by omega : w.heap.size ≠ w.heap.size + 1) (i := 0) (u := (.slice aa6 ss.length cc6))) (by omega : w.heap.size ≠ w.heap.size + 1) (i := 1) (u := (.slice aa7 us.length cc7))
          have hS3 := HP.out.choose_spec.2.2
          refine hK.out _ _ (by exact ⟨hS1, hS2, hS3⟩) (fun hHeld => ?_)
          clear hK K hHeld hHeld2 hS1 hS2 hS3
          refine wpAnyH_done (by kernel_rfl) ?_ _
          go_wp2
          refine bodyPost_ret (v := .agg #[(.slice aa6 ss.length cc6), (.slice aa7 us.length cc7)]) (by simp [results, Try.results72, go_sem, hz, g0, g1, z0, z1]) rfl ?_
          exact HP.out
  · try dsimp only at hHeld
    go_simp
    have O2n := Lib.hid (lit_at ((Below.refl W0.heap.size W0).drew) ((Below.refl W0.heap.size W0).drew).size 53 2 (W0.heap.size) (by first | rfl | simp))
    have O2 := O2n
    clear O2n
    refine hK.out _ _ ?_ (fun hHeld2 => ?_)
    · try dsimp only
      exact HALL.out _ (O2.out.below)
    clear hK K hHeld
    have hHeld := hHeld2
    clear hHeld2
    refine wpAnyH_ready (rs := [0]) (by kernel_rfl) (by simp) ?_
    refine AllReadyH.cons rfl (fun K hK => ?_) AllReadyH.nil
    · try dsimp only at hHeld
      go_simp
      have O1n := Lib.hid (lit_at (O2.out.below) (O2.out.below).size 9 1 (W0.heap.size + 1) (by first | rfl | simp))
      replace O2 := Lib.hid (O2.out.alloc (.cells #[] 9))
      have O1 := O1n
      clear O1n
      refine hK.out _ _ ?_ (fun hHeld2 => ?_)
      · try dsimp only
        exact HALL.out _ (O1.out.below)
      clear hK K hHeld
      have hHeld := hHeld2
      clear hHeld2
      refine wpAnyH_ready (rs := [3]) (by kernel_rfl) (by simp) ?_
      refine AllReadyH.cons rfl (fun K hK => ?_) AllReadyH.nil
      · try dsimp only at hHeld
        refine step_appg rfl _ _ 29 rfl 9 (.string ByteArray.empty) 1 16 Try.underlying29 info_str rfl (by decide) _ _ _ 0 [] rfl O1.out _ ss.length _ _ rfl (H1b.out.below (O1.out.below) (Nat.le_refl _)) (strs_one _) (by omega) (by unfold maxLen; omega) ?_
        intro aa10 cc10 ww10 hOn hGn
        replace O2 := Lib.hid (keep_beside O2.out O1.out (by decide) hGn hOn.below)
        replace O1 := Lib.hid hOn
        clear hOn hGn
        refine hK.out _ _ ?_ (fun hHeld2 => ?_)
        · try dsimp only
          exact HALL.out _ (O1.out.below)
        clear hK K hHeld
        have hHeld := hHeld2
        clear hHeld2
        refine wpAnyH_ready (rs := [7]) (by kernel_rfl) (by simp) ?_
        refine AllReadyH.cons rfl (fun K hK => ?_) AllReadyH.nil
        · try dsimp only at hHeld
          refine step_appg rfl _ _ 30 rfl 53 (.agg #[.int .i64 0, .string ByteArray.empty]) 2 24 Try.underlying30 info_wr rfl (by decide) _ _ _ 0 [] rfl O2.out _ us.length _ _ rfl (H2b.out.below (O1.out.below) (Nat.le_refl _)) (wrs_one _) (by omega) (by unfold maxLen; omega) ?_
          intro aa11 cc11 ww11 hOn hGn
          replace O1 := Lib.hid (keep_beside O1.out O2.out (by decide) hGn hOn.below)
          replace O2 := Lib.hid hOn
          clear hOn hGn
          refine hK.out _ _ ?_ (fun hHeld2 => ?_)
          · try dsimp only
            exact HALL.out _ (O2.out.below)
          clear hK K hHeld
          have hHeld := hHeld2
          clear hHeld2
          have hFin := HFIN.out _ _ _ _ _ O1.out O2.out
          obtain ⟨⟨⟨g0, g1⟩, ⟨z0, z1⟩, hz⟩, hP⟩ := hFin
          simp only [Nat.zero_add] at hP
          have HP := Lib.hid hP
          clear hP O1 O2
          refine wpAnyH_ready (rs := [8]) (by kernel_rfl) (by simp) ?_
          refine AllReadyH.cons rfl (fun K hK => ?_) AllReadyH.nil
          go_simp
          refine hK.out _ _ (by exact hHeld) (fun hHeld2 => ?_)
          clear hK K hHeld
          refine wpAnyH_ready (rs := [9]) (by kernel_rfl) (by simp) ?_
          refine AllReadyH.cons rfl (fun K hK => ?_) AllReadyH.nil
          go_simp
          have hS1 := cell_far (cell_far hHeld2.1 (by omega : w.heap.size ≠ w.heap.size + 1) (i := 0) (u := (.slice aa10 ss.length cc10))) (by omega : w.heap.size ≠ w.heap.size + 1) (i := 1) (u := (.slice aa11 us.length cc11))
          have hS2 := cell_far (cell_far hHeld2.2.1 (by omega : w.heap.size ≠ w.heap.size + 1) (i := 0) (u := (.slice aa10 ss.length cc10))) (by omega : w.heap.size ≠ w.heap.size + 1) (i := 1) (u := (.slice aa11 us.length cc11))
          have hS3 := HP.out.choose_spec.2.2
          refine hK.out _ _ (by exact ⟨hS1, hS2, hS3⟩) (fun hHeld => ?_)
          clear hK K hHeld hHeld2 hS1 hS2 hS3
          refine wpAnyH_done (by kernel_rfl) ?_ _
          go_wp2
          refine bodyPost_ret (v := .agg #[(.slice aa10 ss.length cc10), (.slice aa11 us.length cc11)]) (by simp [results, Try.results72, go_sem, hz, g0, g1, z0, z1]) rfl ?_
          exact HP.out
end Go.Proofs.Ytbokgbbdjcpgbaa
