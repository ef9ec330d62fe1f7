/- Apart: the program's and the reference's come to one list. -/
import Derived.Test.YtlkfabkkjfmnmaaGreatDoorInsF
import Derived.Test.YtlkfabkkjfmnmaaGreatDoorMore
import Derived.Deep.RegionHeld3
import Derived.IntWalk
namespace Go.Proofs.YtlkfabkkjfmnmaaGreatDoor
open Go.RowKit

set_option maxRecDepth 1000000 in
set_option maxHeartbeats 6000000 in
/-- A sign in its parts, and these in theirs, whatever sign. -/
theorem taken0_any (c : Int) (h : partsF c = []) (n : Nat) (w : World) : Calls Tryz.prog 136 #[.int .i64 c] w (takePost (takeF n c) w) := by
  rw [takeF_flat n c h, ← takeF_flat 1 c h]
  exact takenStep_any 0 (by omega) c (fun x hx => by rw [h] at hx; simp at hx) w
set_option maxRecDepth 1000000 in
set_option maxHeartbeats 6000000 in
theorem taken1_any (c : Int) (h : ∀ x ∈ partsF c, partsF x = []) (n : Nat) (w : World) : Calls Tryz.prog 136 #[.int .i64 c] w (takePost (takeF (n + 2) c) w) := by
  have e : takeF (n + 2) c = takeF 2 c := by
    have e2 : ∀ l : List Int, (∀ x ∈ l, partsF x = []) → l.flatMap (takeF (n + 1)) = l.flatMap (takeF 1) := fun l hl => by
      induction l with
      | nil => rfl
      | cons x l ih => rw [List.flatMap_cons, List.flatMap_cons, ih (fun y hy => hl y (List.mem_cons_of_mem _ hy)), takeF_flat _ x (hl x (List.mem_cons_self ..)), takeF_flat _ x (hl x (List.mem_cons_self ..))]
    show (if partsF c = [] then [c] else (partsF c).flatMap (takeF (n + 1))) = (if partsF c = [] then [c] else (partsF c).flatMap (takeF 1))
    rw [e2 _ h]
  rw [e]
  exact takenStep_any 1 (by omega) c (fun x hx W => taken0_any x (h x hx) 1 W) w
set_option maxRecDepth 1000000 in
set_option maxHeartbeats 6000000 in
theorem taken_any (c : Int) (w : World) : Calls Tryz.prog 136 #[.int .i64 c] w (takePost (takeT c) w) :=
  takenStep_any 2 (by omega) c (fun x hx W => taken1_any x (fun y hy => parts_deep c x y hx hy) 0 W) w
set_option maxRecDepth 1000000 in
set_option maxHeartbeats 6000000 in
theorem l4Take0_any (c : Int) (h : partsF c = []) (n : Nat) (w : World) : Calls Tryz.prog 130 #[.int .i64 c] w (takePost (takeF n c) w) := by
  rw [takeF_flat n c h, ← takeF_flat 1 c h]
  exact l4TakeStep_any 0 (by omega) c (fun x hx => by rw [h] at hx; simp at hx) w
set_option maxRecDepth 1000000 in
set_option maxHeartbeats 6000000 in
theorem l4Take1_any (c : Int) (h : ∀ x ∈ partsF c, partsF x = []) (n : Nat) (w : World) : Calls Tryz.prog 130 #[.int .i64 c] w (takePost (takeF (n + 2) c) w) := by
  have e : takeF (n + 2) c = takeF 2 c := by
    have e2 : ∀ l : List Int, (∀ x ∈ l, partsF x = []) → l.flatMap (takeF (n + 1)) = l.flatMap (takeF 1) := fun l hl => by
      induction l with
      | nil => rfl
      | cons x l ih => rw [List.flatMap_cons, List.flatMap_cons, ih (fun y hy => hl y (List.mem_cons_of_mem _ hy)), takeF_flat _ x (hl x (List.mem_cons_self ..)), takeF_flat _ x (hl x (List.mem_cons_self ..))]
    show (if partsF c = [] then [c] else (partsF c).flatMap (takeF (n + 1))) = (if partsF c = [] then [c] else (partsF c).flatMap (takeF 1))
    rw [e2 _ h]
  rw [e]
  exact l4TakeStep_any 1 (by omega) c (fun x hx W => l4Take0_any x (h x hx) 1 W) w
set_option maxRecDepth 1000000 in
set_option maxHeartbeats 6000000 in
theorem l4Take_any (c : Int) (w : World) : Calls Tryz.prog 130 #[.int .i64 c] w (takePost (takeT c) w) :=
  l4TakeStep_any 2 (by omega) c (fun x hx W => l4Take1_any x (fun y hy => parts_deep c x y hx hy) 0 W) w

/-- Where the bubble stands: x behind A, B behind x. -/
def bub (s : List Int) (x : Int) (A B : List Int) : Prop := insF s x = insF A x ++ B ∧ s.length = A.length + B.length
theorem swap_cat (A B : List Int) (x y : Int) : ((ints (A ++ [y] ++ x :: B)).set (A.length + 1) (.int .i64 y)).set A.length (.int .i64 x) = ints (A ++ x :: y :: B) := by
  simp [ints, List.set_append]
set_option maxRecDepth 1000000 in
set_option maxHeartbeats 6000000 in
theorem implApart_any (a : Option Addr) (n cap : Nat) (l : List Int) (w : World) (h : Rd w a n cap 1 (ints l)) (hn : n ≤ 1048576) :
    Calls Tryz.prog 110 #[.slice a n cap] w fun e w' => ∃ a' c', e = .returned (.slice a' (apartF l).length c') ∧ Own 3 1 w.heap.size w (.slice a' (apartF l).length c') (apartF l).length (ints (apartF l)) w' := by
  have hl : l.length = n := by have := h.len; simpa using this
  subst hl
  go_enter Tryz.func110, Tryz.ntmps110
  go_wp2
  go_loopg [3, 12] l.length (fun gg o i wr => ∃ k : Nat, k + gg = l.length ∧ i = .int .i64 k ∧ Own 3 1 w.heap.size w o (apartF (l.take k)).length (ints (apartF (l.take k))) wr)
  case atStart => exact ⟨0, by omega, rfl, by simpa [apartF, insAll, ints] using Own.lit (e := 3) (size := 1) (n := 0) (Below.refl w.heap.size w) (Nat.le_refl _) #[] rfl (by decide)⟩
  case round =>
    obtain ⟨k, hk, rfl, hOk⟩ := hrel
    obtain ⟨gO, rfl⟩ : ∃ g, g = gk := ⟨_, rfl⟩
    obtain ⟨av, cv, rfl, _, _⟩ := hOk.shape
    by_cases hlt : k < l.length
    · obtain ⟨b, off, rfl, hbs, hc⟩ := h.at' (by omega)
      have hc1 := hc k (by simpa using hlt)
      rw [← hOk.below.cell (p := ⟨b, off + k, none⟩) (by exact hbs), ints_get l k hlt] at hc1
      have hS : Hid (apartF (l.take (k + 1)) = (takeT l[k]).foldl insF (apartF (l.take k))) := Lib.hid (by rw [List.take_succ_eq_append_getElem hlt]; unfold apartF; rw [List.flatMap_append, insAll_append]; simp)
      have hb1 : (apartF (l.take k)).length ≤ 28311552 := by have := apartF_len (l.take k); rw [List.length_take] at this; omega
      have hb2 := takeT_len l[k]
      clear hc h
      generalize apartF (l.take k) = pre at *
      generalize l[k] = x at *
      go_wp2_with fail
      refine (taken_any x _).mono ?_
      rintro e w1 ⟨g1, c1, rfl, hF⟩
      have hOF := hOk.kept hF.below
      have hFr := hF.rd
      have hne0 : Hid (∀ z, g1 = some z → (Value.slice av pre.length cv).ownBlock ≠ some z.block) := Lib.hid (fun z hz e => by
        have h1 := (hOk.row.lt _ e).2
        have h2 := (hF.row.lt z.block (by rw [hz]; rfl)).1
        omega)
      clear hF hOk hc1
      generalize takeT x = t at *
      clear hbs
      go_wp2
      go_loopg [3, 19] t.length (fun gg o i wr2 => ∃ j : Nat, j + gg = t.length ∧ i = .int .i64 j ∧ Own 3 1 w.heap.size w o ((t.take j).foldl insF pre).length (ints ((t.take j).foldl insF pre)) wr2 ∧ Rd wr2 g1 t.length c1 1 (ints t) ∧ Hid (∀ z, g1 = some z → o.ownBlock ≠ some z.block))
      case atStart => exact ⟨0, by omega, rfl, hOF, hFr, hne0⟩
      case round =>
        obtain ⟨j, hj, rfl, hO, hR, hne⟩ := hrel
        obtain ⟨gP, rfl⟩ : ∃ g, g = gk := ⟨_, rfl⟩
        obtain ⟨aw, cw, rfl, _, _⟩ := hO.shape
        by_cases hlj : j < t.length
        · obtain ⟨bt, ot, rfl, hbt, hct⟩ := hR.at' (by omega)
          have hc2 := hct j (by simpa using hlj)
          rw [ints_get t j hlj] at hc2
          have hT : Hid ((t.take (j + 1)).foldl insF pre = insF ((t.take j).foldl insF pre) t[j]) := Lib.hid (by rw [List.take_succ_eq_append_getElem hlj, List.foldl_append]; rfl)
          have hbs1 : ((t.take j).foldl insF pre).length ≤ 28400000 := by rw [foldIns_len, List.length_take]; omega
          clear hct hOF hFr
          generalize (t.take j).foldl insF pre = s at *
          generalize t[j] = y at *
          go_wp2_with (at_builtin; go_loud (refine wp_app1g rfl _ _ 40 rfl 3 (.int .i64 0) 1 8 Tryz.underlying40 info_i64 rfl (by decide) _ _ _ _ _ (by rfl) (by exact hO) _ _ (by rfl) (by rfl) (by intro u hu; simp at hu; first | (subst hu; rfl) | (rcases hu with rfl | rfl <;> rfl) | (rcases hu with rfl | rfl | rfl <;> rfl) | (rcases hu with rfl | rfl | rfl | rfl <;> rfl)) (by omega) (by unfold maxLen; omega) ?_); intro a2 c2 w2 hO2 hG2 hN2)
          have hR2 := Lib.hid (hR.grown hG2 (fun z hz _ e => hne.out z hz e))
          have hne2 : Hid (∀ z, (some (⟨bt, ot, none⟩ : Addr)) = some z → (Value.slice a2 (s.length + 1) c2).ownBlock ≠ some z.block) := Lib.hid (fun z hz e => by
            cases hz
            rcases hN2 with h1 | ⟨q, h1, h2⟩
            · exact hne.out _ rfl (h1 ▸ e)
            · rw [h1] at e; cases e; exact absurd hbt (by show ¬ bt < wr.heap.size; exact Nat.not_lt.2 h2))
          clear hR hne hO hG2 hN2 hne0 hc2
          have e1 : ints s ++ [Value.int .i64 y] = ints (s ++ [y]) := by simp [ints]
          replace hO2 : Own 3 1 w.heap.size w (.slice a2 (s.length + 1) c2) (s.length + 1) (ints (s ++ [y])) w2 := by rw [← e1]; exact hO2
          clear e1
          obtain ⟨g2, cp2, he, hg2⟩ := hO2.shape1 (by omega)
          simp only [Value.slice.injEq] at he
          obtain ⟨rfl, _, rfl⟩ := he
          go_wp2
          go_loopg [8] s.length (fun gg i wr3 => ∃ (q : Nat) (A B : List Int), gg = q ∧ i = .int .i64 q ∧ A.length = q ∧ Hid (bub s y A B) ∧ Own 3 1 w.heap.size w (.slice (some ⟨g2, 0, none⟩) (s.length + 1) c2) (s.length + 1) (ints (A ++ y :: B)) wr3 ∧ w2.grownBy wr3 (some g2))
          case atStart => exact ⟨s.length, s, [], rfl, by go_num, rfl, Lib.hid ⟨by simp, by simp⟩, hO2, World.grownBy.refl _ _⟩
          case round =>
            obtain ⟨q, A, B, rfl, rfl, hAq, hbub, hO3, hG3⟩ := hrel
            have hlen := hbub.out.2
            have hsl : (0 : Int) < (s.length : Int) + 1 := by omega
            have hneW : Hid (∀ W : World, w2.grownBy W (some g2) → Rd W (some ⟨bt, ot, none⟩) t.length c1 1 (ints t)) := Lib.hid (fun W hg => hR2.out.grown hg (fun z hz _ e => hne2.out z hz e))
            rcases List.eq_nil_or_concat A with hA | ⟨A', z, hA⟩
            · subst hA
              have HE : Hid (insF s y = y :: B) := Lib.hid (by rw [hbub.out.1, insF_nil]; rfl)
              have HL : Hid (s.length + 1 = (insF s y).length) := Lib.hid (insF_len s y).symm
              simp only [List.length_nil, List.nil_append] at hAq hO3
              subst hAq
              clear hbub hlen
              rw [← HE.out] at hO3
              go_wp2
              go_quiet (fail)
              go_wp2
              go_roundg (gP - 1)
              case measure => omega
              case rel => exact ⟨j + 1, by omega, by go_num, by rw [hT.out, ← HL.out]; exact hO3.drewN _, (hneW.out _ hG3).drewN _, hne2⟩
            · rw [List.concat_eq_append] at hA
              subst hA
              have hq : gk = A'.length + 1 := by rw [← hAq]; simp
              subst hq
              clear hAq
              have hcy : wr.cell? ⟨g2, A'.length + 1, none⟩ = some (.int .i64 y) := by rw [hO3.cell (A'.length + 1) (by simp)]; simp [ints]
              have hcz : wr.cell? ⟨g2, A'.length, none⟩ = some (.int .i64 z) := by rw [hO3.cell A'.length (by simp)]; simp [ints]
              have hl2 : A'.length + 1 + B.length = s.length := by have := hbub.out.2; simp at this; omega
              have hq1 : (0 : Int) < (A'.length : Int) + 1 := by omega
              have hq2 : (A'.length : Int) + 1 < (s.length : Int) + 1 := by omega
              have hq3 : (A'.length : Int) < (s.length : Int) + 1 := by omega
              clear hlen
              by_cases hc1 : 0 < classF y
              · by_cases hc2 : classF y < classF z
                · go_wp2
                  go_quiet (refine Calls.quiet_of_same ((implClass_any _ _).mono fun e w' h => ⟨h.1, h.2.symm⟩))
                  have hO4 := Lib.hid (hO3.drewN nq)
                  have hG4 := Lib.hid (grown_drewN hG3 nq)
                  clear hO3 hG3 hcy hcz
                  have hcy : (wr.drewN nq).cell? ⟨g2, A'.length + 1, none⟩ = some (.int .i64 y) := by rw [hO4.out.cell (A'.length + 1) (by simp)]; simp [ints]
                  have hcz : (wr.drewN nq).cell? ⟨g2, A'.length, none⟩ = some (.int .i64 z) := by rw [hO4.out.cell A'.length (by simp)]; simp [ints]
                  have hf1 := hO4.out.free (A'.length + 1)
                  have hf2 := hO4.out.free A'.length
                  generalize wr.drewN nq = W3 at *
                  have hO5 := hO4.out.set (A'.length + 1) (.int .i64 z)
                  have hG5 := hG4.out.trans (hO4.out.row.stored (A'.length + 1) (.int .i64 z)).2
                  have hG6 := hG5.trans (hO5.row.stored A'.length (.int .i64 y)).2
                  have hO6 := hO5.set A'.length (.int .i64 y)
                  rw [swap_cat A' B y z] at hO6
                  have hB6 : Hid (bub s y A' (z :: B)) := Lib.hid ⟨by rw [hbub.out.1, insF_go A' y z ⟨hc1, hc2⟩]; simp, by simp; omega⟩
                  have HO := Lib.hid hO6
                  have HG := Lib.hid hG6
                  clear hO4 hO5 hO6 hG4 hG5 hG6 hbub hc1 hc2
                  go_wp2
                  go_region
                  go_wp2
                  go_roundg A'.length
                  case measure => omega
                  case rel => exact ⟨A'.length, A', z :: B, rfl, by go_num, rfl, hB6, HO.out.drew, grown_drew HG.out⟩
                · have hd : decide (classF y < classF z) = false := by simpa using hc2
                  have HE : Hid (insF s y = A' ++ [z] ++ y :: B) := Lib.hid (by rw [hbub.out.1, insF_here A' y z (fun h => hc2 h.2)]; simp)
                  have HL : Hid (s.length + 1 = (insF s y).length) := Lib.hid (insF_len s y).symm
                  go_wp2
                  go_quiet (refine Calls.quiet_of_same ((implClass_any _ _).mono fun e w' h => ⟨h.1, h.2.symm⟩))
                  go_wp2
                  go_roundg (gP - 1)
                  case measure => omega
                  case rel => exact ⟨j + 1, by omega, by go_num, by rw [hT.out, ← HL.out, HE.out]; exact hO3.drewN _, (hneW.out _ hG3).drewN _, hne2⟩
              · have hd : decide (0 < classF y) = false := by simpa using hc1
                have HE : Hid (insF s y = A' ++ [z] ++ y :: B) := Lib.hid (by rw [hbub.out.1, insF_here A' y z (fun h => hc1 h.1)]; simp)
                have HL : Hid (s.length + 1 = (insF s y).length) := Lib.hid (insF_len s y).symm
                go_wp2
                go_quiet (refine Calls.quiet_of_same ((implClass_any _ _).mono fun e w' h => ⟨h.1, h.2.symm⟩))
                go_wp2
                go_roundg (gP - 1)
                case measure => omega
                case rel => exact ⟨j + 1, by omega, by go_num, by rw [hT.out, ← HL.out, HE.out]; exact hO3.drewN _, (hneW.out _ hG3).drewN _, hne2⟩
        · have hjl : j = t.length := by omega
          subst hjl
          rw [List.take_length] at hO ⊢
          clear hR hne hOF hFr
          go_wp2
          go_roundg (gO - 1)
          case measure => omega
          case rel => exact ⟨k + 1, by omega, by go_num, by rw [hS.out]; exact hO⟩
    · have hkl : k = l.length := by omega
      subst hkl
      rw [List.take_length] at hOk ⊢
      go_wp2
      go_ret
      exact ⟨_, _, rfl, hOk⟩

end Go.Proofs.YtlkfabkkjfmnmaaGreatDoor
