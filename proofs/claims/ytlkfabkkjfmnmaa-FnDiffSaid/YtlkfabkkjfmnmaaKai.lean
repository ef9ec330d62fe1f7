import Derived.Test.YtlkfabkkjfmnmaaKah
import Derived.Deep.RegionHeld3
import Derived.IntWalk
namespace Go.Proofs.Ytlkfabkkjfmnmaa
open Go.RowKit
set_option linter.all false
def ApH (B0 : Nat) (w0 : World) (g n c : Nat) (A : List Int) (z y : Int) (B : List Int) (W : World) : Prop := Own 3 1 B0 w0 (.slice (some ⟨g, 0, none⟩) n c) n (ints (A ++ [z] ++ y :: B)) W
theorem ApH.all {B0 : Nat} {w0 : World} {g n c : Nat} {A : List Int} {z y : Int} {B : List Int} {W : World} (h : ApH B0 w0 g n c A z y B W) :
  W.cell? ⟨g, A.length + 1, none⟩ = some (.int .i64 y) ∧ W.cell? ⟨g, A.length, none⟩ = some (.int .i64 z) ∧ ApH B0 w0 g n c A z y B W :=
 ⟨by rw [Own.cell h (A.length + 1) (by simp)]; simp [ints], by rw [Own.cell h A.length (by simp)]; simp [ints], h⟩
theorem ApH.kept {B0 : Nat} {w0 : World} {g n c : Nat} {A : List Int} {z y : Int} {B : List Int} {W W' : World} (h : ApH B0 w0 g n c A z y B W) (hb : Below W.heap.size W W') : ApH B0 w0 g n c A z y B W' := Own.kept h hb
theorem ApH.drew {B0 : Nat} {w0 : World} {g n c : Nat} {A : List Int} {z y : Int} {B : List Int} {W : World} (h : ApH B0 w0 g n c A z y B W) : ApH B0 w0 g n c A z y B W.drew := Own.drew h
set_option maxRecDepth 1000000 in
set_option maxHeartbeats 6000000 in
theorem specApart_any (a : Option Addr) (n cap : Nat) (l : List Int) (w : World) (h : Rd w a n cap 1 (ints l)) (hn : n ≤ 1048576) :
  Calls Try.prog 57 #[.slice a n cap] w fun e w' => ∃ a' c', e = .returned (.slice a' (apartF l).length c') ∧ Own 3 1 w.heap.size w (.slice a' (apartF l).length c') (apartF l).length (ints (apartF l)) w' := by
 have hl : l.length = n := by have := h.len; simpa using this
 subst hl
 go_enter Try.func57, Try.ntmps57
 go_wp2
 go_loopg [3, 4] l.length (fun gg o i wr => ∃ k : Nat, k + gg = l.length ∧ i = .int .i64 k ∧ Own 3 1 w.heap.size w o ((l.take k).flatMap takeT).length (ints ((l.take k).flatMap takeT)) wr)
 case atStart => exact ⟨0, by omega, rfl, by simpa [ints] using Own.lit (e := 3) (size := 1) (n := 0) (Below.refl w.heap.size w) (Nat.le_refl _) #[] rfl (by decide)⟩
 case round =>
  obtain ⟨k, hk, rfl, hOk⟩ := hrel
  obtain ⟨gO, rfl⟩ : ∃ g, g = gk := ⟨_, rfl⟩
  obtain ⟨av, cv, rfl, _, _⟩ := hOk.shape
  by_cases hlt : k < l.length
  ·obtain ⟨b, off, rfl, hbs, hc⟩ := h.at' (by omega)
   have hc1 := hc k (by simpa using hlt)
   rw [← hOk.below.cell (p := ⟨b, off + k, none⟩) (by exact hbs), ints_get l k hlt] at hc1
   have hS : Hid ((l.take (k + 1)).flatMap takeT = (l.take k).flatMap takeT ++ takeT l[k]) := Lib.hid (by rw [List.take_succ_eq_append_getElem hlt, List.flatMap_append]; simp)
   have hb1 : ((l.take k).flatMap takeT).length ≤ 28311552 := by have := takeAll_len (l.take k); rw [List.length_take] at this; omega
   have hb2 := takeT_len l[k]
   clear hc h
   generalize (l.take k).flatMap takeT = pre at *
   generalize l[k] = x at *
   go_wp2_with fail
   refine (l4Take_any x _).mono ?_
   rintro e w1 ⟨g1, c1, rfl, hF⟩
   have hOF := hOk.kept hF.below
   have hFr := hF.rd
   go_wp2_with (at_builtin; go_loud (refine wp_app rfl _ _ 69 rfl 3 (.int .i64 0) 1 8 Try.underlying69 info_i64 rfl (by decide) w.heap.size w _ _ _ (by rfl) (by exact hOF) _ _ _ _ (by rfl) (by exact hFr) (ints_one _) (by omega) (by unfold maxLen; omega) ?_); intro a2 c2 w2 hO2)
   go_wp2
   go_roundg (gO - 1)
   case measure => omega
   case rel => exact ⟨k + 1, by omega, by go_num, by rw [hS.out, List.length_append, ints_append]; exact hO2⟩
  ·have hkl : k = l.length := by omega
   subst hkl
   have hbm := takeAll_len l
   have HF : Hid (insAll (l.flatMap takeT) = apartF l) := Lib.hid rfl
   have HFl : Hid ((l.flatMap takeT).length = (apartF l).length) := Lib.hid (insAll_len _).symm
   rw [List.take_length] at hOk ⊢
   clear h
   generalize l.flatMap takeT = m at *
   go_wp2
   go_loopg [5] (m.length + 1) (fun gg i wr => ∃ q : Nat, q + 1 + gg = m.length + 2 ∧ i = .int .i64 ((q : Int) + 1) ∧ Own 3 1 w.heap.size w (.slice av m.length cv) m.length (ints (insAll (m.take (q + 1)) ++ m.drop (q + 1))) wr)
   case atStart =>
    refine ⟨0, by omega, by go_num, ?_⟩
    have e : insAll (m.take 1) ++ m.drop 1 = m := by
     cases m with
     | nil => rfl
     | cons x m => rfl
    rw [e]
    exact hOk
   case round =>
    obtain ⟨q, hq, rfl, hO⟩ := hrel
    obtain ⟨gP, rfl⟩ : ∃ g, g = gk := ⟨_, rfl⟩
    by_cases hlq : q + 1 < m.length
    ·obtain ⟨g, cp, he, hg⟩ := hO.shape1 (by omega)
     simp only [Value.slice.injEq] at he
     obtain ⟨rfl, _, rfl⟩ := he
     have hT : Hid (insAll (m.take (q + 1 + 1)) = insF (insAll (m.take (q + 1))) m[q + 1]) := Lib.hid (by rw [List.take_succ_eq_append_getElem hlq, insAll_snoc])
     have hD : m.drop (q + 1) = m[q + 1] :: m.drop (q + 1 + 1) := List.drop_eq_getElem_cons hlq
     have hsl : (insAll (m.take (q + 1))).length = q + 1 := by rw [insAll_len, List.length_take]; omega
     rw [hD] at hO
     generalize insAll (m.take (q + 1)) = s at *
     obtain ⟨R, hR⟩ : ∃ R, R = m.drop (q + 1 + 1) := ⟨_, rfl⟩
     rw [← hR] at hO
     have HR := Lib.hid hR
     clear hR
     generalize m[q + 1] = y at *
     have HSL := Lib.hid hsl
     have hqm : (q : Int) + 1 < (m.length : Int) := by omega
     clear hD hOk hsl
     go_wp2
     go_loopg [6, 7] (q + 1) (fun gg i t7 wr => ∃ (A B : List Int), i = .int .i64 (gg : Nat) ∧ gg ≤ q + 1 ∧ Hid (A.length = gg) ∧ Hid (bub s y A B) ∧ Own 3 1 w.heap.size w (.slice (some ⟨g, 0, none⟩) m.length cv) m.length (ints (A ++ y :: (B ++ R))) wr)
     case atStart => exact ⟨s, [], by go_num, Nat.le_refl _, HSL, Lib.hid ⟨by simp, by simp⟩, by simpa using hO⟩
     case round =>
      obtain ⟨A, B, rfl, hgk, hAq, hbub, hO3⟩ := hrel
      rcases List.eq_nil_or_concat A with hA | ⟨A', z, hA⟩
      ·subst hA
       have HE : Hid (insF s y = y :: B) := Lib.hid (by rw [hbub.out.1, insF_nil]; rfl)
       have hz : gk = 0 := hAq.out.symm
       subst hz
       have hO5 : Own 3 1 w.heap.size w (.slice (some ⟨g, 0, none⟩) m.length cv) m.length (ints (insF s y ++ R)) wr := by rw [HE.out]; simpa using hO3
       clear hbub hO3 hAq hO
       go_wp2
       go_quiet (fail)
       go_wp2
       go_roundg (gP - 1)
       case measure => omega
       case rel => exact ⟨q + 1, by omega, by go_num, by rw [hT.out, ← HR.out]; exact hO5.drewN _⟩
      ·rw [List.concat_eq_append] at hA
       subst hA
       have hq0 : gk = A'.length + 1 := by rw [← hAq.out]; simp
       subst hq0
       clear hO hAq
       have hH : ApH w.heap.size w g m.length cv A' z y (B ++ R) wr := hO3
       have hcall := hH.all
       have hwr : IntKind.i64.wrap ((A'.length : Int) + 1 - 1) = (A'.length : Int) := by rw [IntWalk.i64_in _ (by omega)]; omega
       have hwr2 : IntKind.i64.wrap (A'.length : Int) = (A'.length : Int) := IntWalk.i64_in _ (by omega)
       have hq4 : (0 : Int) ≤ (A'.length : Int) := by omega
       rw [show ((A'.length + 1 : Nat) : Int) = (A'.length : Int) + 1 from by omega]
       have hq1 : (0 : Int) < (A'.length : Int) + 1 := by omega
       have hq0 : (0 : Int) ≤ (A'.length : Int) + 1 := by omega
       have hq2 : (A'.length : Int) + 1 < (m.length : Int) := by omega
       have hq3 : (A'.length : Int) < (m.length : Int) := by omega
       by_cases hc1 : 0 < classF y
       ·by_cases hc2 : classF y < classF z
        ·skip
         clear hO3
         go_wp2
         refine wp_region_held_drew (S := (fun W => W.cell? ⟨g, A'.length + 1, none⟩ = some (.int .i64 y) ∧ W.cell? ⟨g, A'.length, none⟩ = some (.int .i64 z) ∧ ApH w.heap.size w g m.length cv A' z y (B ++ R) W)) (by kernel_rfl) ?_ (fun hHeld => ?_)
         ·try dsimp only
          (go_split_ands; first | exact ApH.all (by assumption) | exact ApH.all (ApH.drew (by assumption)) | exact ApH.all (ApH.kept (by assumption) (by assumption)))
         change wpAnyH _ _ _ _ _ 24 #[false, false, false, false, false, false, false, false, false, false, false, false, false, false, false, false, false, false, false, false, false, false, false, false] _ _
         refine wpH_take (i := 0) (v := ?_) rfl (by kernel_rfl) (by kernel_rfl) (by kernel_rfl) (fun _ _ _ h => h) (by rfl) ?_ (by assumption) ?_; rotate_left; (focus (intro w hSw; (try dsimp only at hSw); go_simp; try with_reducible rfl)); try simp only [Act.put, List.setIfInBounds_toArray, List.set_cons_zero, List.set_cons_succ]
         refine wpH_take (i := 1) (v := ?_) rfl (by kernel_rfl) (by kernel_rfl) (by kernel_rfl) (fun _ _ _ h => h) (by rfl) ?_ (by assumption) ?_; rotate_left; (focus (intro w hSw; (try dsimp only at hSw); go_simp; try with_reducible rfl)); try simp only [Act.put, List.setIfInBounds_toArray, List.set_cons_zero, List.set_cons_succ]
         refine wpH_take (i := 2) (v := ?_) rfl (by kernel_rfl) (by kernel_rfl) (by kernel_rfl) (fun _ _ _ h => h) (by rfl) ?_ (by assumption) ?_; rotate_left; (focus (intro w hSw; (try dsimp only at hSw); go_simp; try with_reducible rfl)); try simp only [Act.put, List.setIfInBounds_toArray, List.set_cons_zero, List.set_cons_succ]
         refine wpH_take (i := 3) (v := ?_) rfl (by kernel_rfl) (by kernel_rfl) (by kernel_rfl) (fun _ _ _ h => h) (by rfl) ?_ (by assumption) ?_; rotate_left; (focus (intro w hSw; (try dsimp only at hSw); go_simp; try with_reducible rfl)); try simp only [Act.put, List.setIfInBounds_toArray, List.set_cons_zero, List.set_cons_succ]
         refine wpH_take (i := 4) (v := ?_) rfl (by kernel_rfl) (by kernel_rfl) (by kernel_rfl) (fun _ _ _ h => h) (by rfl) ?_ (by assumption) ?_; rotate_left; (focus (intro w hSw; (try dsimp only at hSw); go_simp; try with_reducible rfl)); try simp only [Act.put, List.setIfInBounds_toArray, List.set_cons_zero, List.set_cons_succ]
         refine wpH_take (i := 5) (v := ?_) rfl (by kernel_rfl) (by kernel_rfl) (by kernel_rfl) (fun _ _ _ h => h) (by rfl) ?_ (by assumption) ?_; rotate_left; (focus (intro w hSw; (try dsimp only at hSw); go_simp; try with_reducible rfl)); try simp only [Act.put, List.setIfInBounds_toArray, List.set_cons_zero, List.set_cons_succ]
         refine wpH_take (i := 6) (v := ?_) rfl (by kernel_rfl) (by kernel_rfl) (by kernel_rfl) (fun _ _ _ h => h) (by rfl) ?_ (by assumption) ?_; rotate_left; (focus (intro w hSw; (try dsimp only at hSw); go_simp; try with_reducible rfl)); try simp only [Act.put, List.setIfInBounds_toArray, List.set_cons_zero, List.set_cons_succ]
         refine wpAnyH_ready (rs := [7]) (by kernel_rfl) (by simp) ?_
         refine AllReadyH.cons rfl (fun K hK => ?_) AllReadyH.nil
         try dsimp only at hHeld
         go_simp
         (go_at_call 60; refine (specClass_any _ _).mono ?_; rintro e w' ⟨rfl, hbk⟩)
         refine hK.out _ _ ?_ (fun hHeld2 => ?_)
         ·try dsimp only
          (go_split_ands; first | exact ApH.all (by assumption) | exact ApH.all (ApH.drew (by assumption)) | exact ApH.all (ApH.kept (by assumption) (by assumption)))
         clear hK K hHeld
         have hHeld := hHeld2
         clear hHeld2
         clear hbk
         refine wpH_take (i := 8) (v := ?_) rfl (by kernel_rfl) (by kernel_rfl) (by kernel_rfl) (fun _ _ _ h => h) (by rfl) ?_ (by assumption) ?_; rotate_left; (focus (intro w hSw; (try dsimp only at hSw); go_simp; try with_reducible rfl)); try simp only [Act.put, List.setIfInBounds_toArray, List.set_cons_zero, List.set_cons_succ]
         refine wpH_take (i := 9) (v := ?_) rfl (by kernel_rfl) (by kernel_rfl) (by kernel_rfl) (fun _ _ _ h => h) (by rfl) ?_ (by assumption) ?_; rotate_left; (focus (intro w hSw; (try dsimp only at hSw); go_simp; try with_reducible rfl)); try simp only [Act.put, List.setIfInBounds_toArray, List.set_cons_zero, List.set_cons_succ]
         refine wpH_take (i := 10) (v := ?_) rfl (by kernel_rfl) (by kernel_rfl) (by kernel_rfl) (fun _ _ _ h => h) (by rfl) ?_ (by assumption) ?_; rotate_left; (focus (intro w hSw; (try dsimp only at hSw); go_simp; try with_reducible rfl)); try simp only [Act.put, List.setIfInBounds_toArray, List.set_cons_zero, List.set_cons_succ]
         refine wpH_take (i := 11) (v := ?_) rfl (by kernel_rfl) (by kernel_rfl) (by kernel_rfl) (fun _ _ _ h => h) (by rfl) ?_ (by assumption) ?_; rotate_left; (focus (intro w hSw; (try dsimp only at hSw); go_simp; try with_reducible rfl)); try simp only [Act.put, List.setIfInBounds_toArray, List.set_cons_zero, List.set_cons_succ]
         refine wpH_take (i := 12) (v := ?_) rfl (by kernel_rfl) (by kernel_rfl) (by kernel_rfl) (fun _ _ _ h => h) (by rfl) ?_ (by assumption) ?_; rotate_left; (focus (intro w hSw; (try dsimp only at hSw); go_simp; try with_reducible rfl)); try simp only [Act.put, List.setIfInBounds_toArray, List.set_cons_zero, List.set_cons_succ]
         refine wpH_take (i := 13) (v := ?_) rfl (by kernel_rfl) (by kernel_rfl) (by kernel_rfl) (fun _ _ _ h => h) (by rfl) ?_ (by assumption) ?_; rotate_left; (focus (intro w hSw; (try dsimp only at hSw); go_simp; try with_reducible rfl)); try simp only [Act.put, List.setIfInBounds_toArray, List.set_cons_zero, List.set_cons_succ]
         refine wpH_take (i := 14) (v := ?_) rfl (by kernel_rfl) (by kernel_rfl) (by kernel_rfl) (fun _ _ _ h => h) (by rfl) ?_ (by assumption) ?_; rotate_left; (focus (intro w hSw; (try dsimp only at hSw); go_simp; try with_reducible rfl)); try simp only [Act.put, List.setIfInBounds_toArray, List.set_cons_zero, List.set_cons_succ]
         refine wpH_take (i := 15) (v := ?_) rfl (by kernel_rfl) (by kernel_rfl) (by kernel_rfl) (fun _ _ _ h => h) (by rfl) ?_ (by assumption) ?_; rotate_left; (focus (intro w hSw; (try dsimp only at hSw); go_simp; try with_reducible rfl)); try simp only [Act.put, List.setIfInBounds_toArray, List.set_cons_zero, List.set_cons_succ]
         refine wpH_take (i := 17) (v := ?_) rfl (by kernel_rfl) (by kernel_rfl) (by kernel_rfl) (fun _ _ _ h => h) (by rfl) ?_ (by assumption) ?_; rotate_left; (focus (intro w hSw; (try dsimp only at hSw); go_simp; try with_reducible rfl)); try simp only [Act.put, List.setIfInBounds_toArray, List.set_cons_zero, List.set_cons_succ]
         refine wpH_take (i := 18) (v := ?_) rfl (by kernel_rfl) (by kernel_rfl) (by kernel_rfl) (fun _ _ _ h => h) (by rfl) ?_ (by assumption) ?_; rotate_left; (focus (intro w hSw; (try dsimp only at hSw); go_simp; try with_reducible rfl)); try simp only [Act.put, List.setIfInBounds_toArray, List.set_cons_zero, List.set_cons_succ]
         refine wpH_take (i := 19) (v := ?_) rfl (by kernel_rfl) (by kernel_rfl) (by kernel_rfl) (fun _ _ _ h => h) (by rfl) ?_ (by assumption) ?_; rotate_left; (focus (intro w hSw; (try dsimp only at hSw); go_simp; try with_reducible rfl)); try simp only [Act.put, List.setIfInBounds_toArray, List.set_cons_zero, List.set_cons_succ]
         refine wpH_take (i := 20) (v := ?_) rfl (by kernel_rfl) (by kernel_rfl) (by kernel_rfl) (fun _ _ _ h => h) (by rfl) ?_ (by assumption) ?_; rotate_left; (focus (intro w hSw; (try dsimp only at hSw); go_simp; try with_reducible rfl)); try simp only [Act.put, List.setIfInBounds_toArray, List.set_cons_zero, List.set_cons_succ]
         refine wpAnyH_ready (rs := [16]) (by kernel_rfl) (by simp) ?_
         refine AllReadyH.cons rfl (fun K hK => ?_) AllReadyH.nil
         try dsimp only at hHeld
         go_simp
         (go_at_call 60; refine (specClass_any _ _).mono ?_; rintro e w' ⟨rfl, hbk⟩)
         refine hK.out _ _ ?_ (fun hHeld2 => ?_)
         ·try dsimp only
          (go_split_ands; first | exact ApH.all (by assumption) | exact ApH.all (ApH.drew (by assumption)) | exact ApH.all (ApH.kept (by assumption) (by assumption)))
         clear hK K hHeld
         have hHeld := hHeld2
         clear hHeld2
         clear hbk
         refine wpAnyH_ready (rs := [21]) (by kernel_rfl) (by simp) ?_
         refine AllReadyH.cons rfl (fun K hK => ?_) AllReadyH.nil
         try dsimp only at hHeld
         go_simp
         (go_at_call 60; refine (specClass_any _ _).mono ?_; rintro e w' ⟨rfl, hbk⟩)
         refine hK.out _ _ ?_ (fun hHeld2 => ?_)
         ·try dsimp only
          (go_split_ands; first | exact ApH.all (by assumption) | exact ApH.all (ApH.drew (by assumption)) | exact ApH.all (ApH.kept (by assumption) (by assumption)))
         clear hK K hHeld
         have hHeld := hHeld2
         clear hHeld2
         clear hbk
         refine wpH_take (i := 22) (v := ?_) rfl (by kernel_rfl) (by kernel_rfl) (by kernel_rfl) (fun _ _ _ h => h) (by rfl) ?_ (by assumption) ?_; rotate_left; (focus (intro w hSw; (try dsimp only at hSw); go_simp; try with_reducible rfl)); try simp only [Act.put, List.setIfInBounds_toArray, List.set_cons_zero, List.set_cons_succ]
         refine wpH_take (i := 23) (v := ?_) rfl (by kernel_rfl) (by kernel_rfl) (by kernel_rfl) (fun _ _ _ h => h) (by rfl) ?_ (by assumption) ?_; rotate_left; (focus (intro w hSw; (try dsimp only at hSw); go_simp; try with_reducible rfl)); try simp only [Act.put, List.setIfInBounds_toArray, List.set_cons_zero, List.set_cons_succ]
         refine wpAnyH_done (by kernel_rfl) ?_ _
         try dsimp only at hHeld
         obtain ⟨hcy, hcz, hO4⟩ := hHeld
         have hO4 : Own 3 1 w.heap.size w (.slice (some ⟨g, 0, none⟩) m.length cv) m.length (ints (A' ++ [z] ++ y :: (B ++ R))) _ := hO4
         have hf1 := hO4.free (A'.length + 1)
         have hf2 := hO4.free A'.length
         have hO5 := (hO4.set (A'.length + 1) (.int .i64 z)).set A'.length (.int .i64 y)
         rw [swap_cat A' (B ++ R) y z] at hO5
         have hB6 : Hid (bub s y A' (z :: B)) := Lib.hid ⟨by rw [hbub.out.1, insF_go A' y z ⟨hc1, hc2⟩]; simp, by have := hbub.out.2; simp at this ⊢; omega⟩
         have HO := Lib.hid hO5
         clear hO4 hO5 hbub hc1 hc2
         go_wp2
         go_roundg A'.length
         case measure => omega
         case rel => exact ⟨A', z :: B, rfl, by omega, Lib.hid rfl, hB6, by simpa using HO.out⟩
        ·have hd : decide (classF z > classF y) = false := by simpa using hc2
         have hd2 : decide (classF y < classF z) = false := by simpa using hc2
         have HE : Hid (insF s y = A' ++ [z] ++ y :: B) := Lib.hid (by rw [hbub.out.1, insF_here A' y z (fun h => hc2 h.2)]; simp)
         have hO4 := Lib.hid hO3
         clear hO3
         go_wp2
         refine wp_region_held_drew (S := (fun W => W.cell? ⟨g, A'.length + 1, none⟩ = some (.int .i64 y) ∧ W.cell? ⟨g, A'.length, none⟩ = some (.int .i64 z) ∧ ApH w.heap.size w g m.length cv A' z y (B ++ R) W)) (by kernel_rfl) ?_ (fun hHeld => ?_)
         ·try dsimp only
          (go_split_ands; first | exact ApH.all (by assumption) | exact ApH.all (ApH.drew (by assumption)) | exact ApH.all (ApH.kept (by assumption) (by assumption)))
         change wpAnyH _ _ _ _ _ 24 #[false, false, false, false, false, false, false, false, false, false, false, false, false, false, false, false, false, false, false, false, false, false, false, false] _ _
         refine wpH_take (i := 0) (v := ?_) rfl (by kernel_rfl) (by kernel_rfl) (by kernel_rfl) (fun _ _ _ h => h) (by rfl) ?_ (by assumption) ?_; rotate_left; (focus (intro w hSw; (try dsimp only at hSw); go_simp; try with_reducible rfl)); try simp only [Act.put, List.setIfInBounds_toArray, List.set_cons_zero, List.set_cons_succ]
         refine wpH_take (i := 1) (v := ?_) rfl (by kernel_rfl) (by kernel_rfl) (by kernel_rfl) (fun _ _ _ h => h) (by rfl) ?_ (by assumption) ?_; rotate_left; (focus (intro w hSw; (try dsimp only at hSw); go_simp; try with_reducible rfl)); try simp only [Act.put, List.setIfInBounds_toArray, List.set_cons_zero, List.set_cons_succ]
         refine wpH_take (i := 2) (v := ?_) rfl (by kernel_rfl) (by kernel_rfl) (by kernel_rfl) (fun _ _ _ h => h) (by rfl) ?_ (by assumption) ?_; rotate_left; (focus (intro w hSw; (try dsimp only at hSw); go_simp; try with_reducible rfl)); try simp only [Act.put, List.setIfInBounds_toArray, List.set_cons_zero, List.set_cons_succ]
         refine wpH_take (i := 3) (v := ?_) rfl (by kernel_rfl) (by kernel_rfl) (by kernel_rfl) (fun _ _ _ h => h) (by rfl) ?_ (by assumption) ?_; rotate_left; (focus (intro w hSw; (try dsimp only at hSw); go_simp; try with_reducible rfl)); try simp only [Act.put, List.setIfInBounds_toArray, List.set_cons_zero, List.set_cons_succ]
         refine wpH_take (i := 4) (v := ?_) rfl (by kernel_rfl) (by kernel_rfl) (by kernel_rfl) (fun _ _ _ h => h) (by rfl) ?_ (by assumption) ?_; rotate_left; (focus (intro w hSw; (try dsimp only at hSw); go_simp; try with_reducible rfl)); try simp only [Act.put, List.setIfInBounds_toArray, List.set_cons_zero, List.set_cons_succ]
         refine wpH_take (i := 5) (v := ?_) rfl (by kernel_rfl) (by kernel_rfl) (by kernel_rfl) (fun _ _ _ h => h) (by rfl) ?_ (by assumption) ?_; rotate_left; (focus (intro w hSw; (try dsimp only at hSw); go_simp; try with_reducible rfl)); try simp only [Act.put, List.setIfInBounds_toArray, List.set_cons_zero, List.set_cons_succ]
         refine wpH_take (i := 6) (v := ?_) rfl (by kernel_rfl) (by kernel_rfl) (by kernel_rfl) (fun _ _ _ h => h) (by rfl) ?_ (by assumption) ?_; rotate_left; (focus (intro w hSw; (try dsimp only at hSw); go_simp; try with_reducible rfl)); try simp only [Act.put, List.setIfInBounds_toArray, List.set_cons_zero, List.set_cons_succ]
         refine wpAnyH_ready (rs := [7]) (by kernel_rfl) (by simp) ?_
         refine AllReadyH.cons rfl (fun K hK => ?_) AllReadyH.nil
         try dsimp only at hHeld
         go_simp
         (go_at_call 60; refine (specClass_any _ _).mono ?_; rintro e w' ⟨rfl, hbk⟩)
         refine hK.out _ _ ?_ (fun hHeld2 => ?_)
         ·try dsimp only
          (go_split_ands; first | exact ApH.all (by assumption) | exact ApH.all (ApH.drew (by assumption)) | exact ApH.all (ApH.kept (by assumption) (by assumption)))
         clear hK K hHeld
         have hHeld := hHeld2
         clear hHeld2
         clear hbk
         refine wpH_take (i := 8) (v := ?_) rfl (by kernel_rfl) (by kernel_rfl) (by kernel_rfl) (fun _ _ _ h => h) (by rfl) ?_ (by assumption) ?_; rotate_left; (focus (intro w hSw; (try dsimp only at hSw); go_simp; try with_reducible rfl)); try simp only [Act.put, List.setIfInBounds_toArray, List.set_cons_zero, List.set_cons_succ]
         refine wpH_take (i := 9) (v := ?_) rfl (by kernel_rfl) (by kernel_rfl) (by kernel_rfl) (fun _ _ _ h => h) (by rfl) ?_ (by assumption) ?_; rotate_left; (focus (intro w hSw; (try dsimp only at hSw); go_simp; try with_reducible rfl)); try simp only [Act.put, List.setIfInBounds_toArray, List.set_cons_zero, List.set_cons_succ]
         refine wpH_take (i := 10) (v := ?_) rfl (by kernel_rfl) (by kernel_rfl) (by kernel_rfl) (fun _ _ _ h => h) (by rfl) ?_ (by assumption) ?_; rotate_left; (focus (intro w hSw; (try dsimp only at hSw); go_simp; try with_reducible rfl)); try simp only [Act.put, List.setIfInBounds_toArray, List.set_cons_zero, List.set_cons_succ]
         refine wpH_take (i := 11) (v := ?_) rfl (by kernel_rfl) (by kernel_rfl) (by kernel_rfl) (fun _ _ _ h => h) (by rfl) ?_ (by assumption) ?_; rotate_left; (focus (intro w hSw; (try dsimp only at hSw); go_simp; try with_reducible rfl)); try simp only [Act.put, List.setIfInBounds_toArray, List.set_cons_zero, List.set_cons_succ]
         refine wpH_take (i := 12) (v := ?_) rfl (by kernel_rfl) (by kernel_rfl) (by kernel_rfl) (fun _ _ _ h => h) (by rfl) ?_ (by assumption) ?_; rotate_left; (focus (intro w hSw; (try dsimp only at hSw); go_simp; try with_reducible rfl)); try simp only [Act.put, List.setIfInBounds_toArray, List.set_cons_zero, List.set_cons_succ]
         refine wpH_take (i := 13) (v := ?_) rfl (by kernel_rfl) (by kernel_rfl) (by kernel_rfl) (fun _ _ _ h => h) (by rfl) ?_ (by assumption) ?_; rotate_left; (focus (intro w hSw; (try dsimp only at hSw); go_simp; try with_reducible rfl)); try simp only [Act.put, List.setIfInBounds_toArray, List.set_cons_zero, List.set_cons_succ]
         refine wpH_take (i := 14) (v := ?_) rfl (by kernel_rfl) (by kernel_rfl) (by kernel_rfl) (fun _ _ _ h => h) (by rfl) ?_ (by assumption) ?_; rotate_left; (focus (intro w hSw; (try dsimp only at hSw); go_simp; try with_reducible rfl)); try simp only [Act.put, List.setIfInBounds_toArray, List.set_cons_zero, List.set_cons_succ]
         refine wpH_take (i := 15) (v := ?_) rfl (by kernel_rfl) (by kernel_rfl) (by kernel_rfl) (fun _ _ _ h => h) (by rfl) ?_ (by assumption) ?_; rotate_left; (focus (intro w hSw; (try dsimp only at hSw); go_simp; try with_reducible rfl)); try simp only [Act.put, List.setIfInBounds_toArray, List.set_cons_zero, List.set_cons_succ]
         refine wpH_take (i := 17) (v := ?_) rfl (by kernel_rfl) (by kernel_rfl) (by kernel_rfl) (fun _ _ _ h => h) (by rfl) ?_ (by assumption) ?_; rotate_left; (focus (intro w hSw; (try dsimp only at hSw); go_simp; try with_reducible rfl)); try simp only [Act.put, List.setIfInBounds_toArray, List.set_cons_zero, List.set_cons_succ]
         refine wpH_take (i := 18) (v := ?_) rfl (by kernel_rfl) (by kernel_rfl) (by kernel_rfl) (fun _ _ _ h => h) (by rfl) ?_ (by assumption) ?_; rotate_left; (focus (intro w hSw; (try dsimp only at hSw); go_simp; try with_reducible rfl)); try simp only [Act.put, List.setIfInBounds_toArray, List.set_cons_zero, List.set_cons_succ]
         refine wpH_take (i := 19) (v := ?_) rfl (by kernel_rfl) (by kernel_rfl) (by kernel_rfl) (fun _ _ _ h => h) (by rfl) ?_ (by assumption) ?_; rotate_left; (focus (intro w hSw; (try dsimp only at hSw); go_simp; try with_reducible rfl)); try simp only [Act.put, List.setIfInBounds_toArray, List.set_cons_zero, List.set_cons_succ]
         refine wpH_take (i := 20) (v := ?_) rfl (by kernel_rfl) (by kernel_rfl) (by kernel_rfl) (fun _ _ _ h => h) (by rfl) ?_ (by assumption) ?_; rotate_left; (focus (intro w hSw; (try dsimp only at hSw); go_simp; try with_reducible rfl)); try simp only [Act.put, List.setIfInBounds_toArray, List.set_cons_zero, List.set_cons_succ]
         refine wpAnyH_ready (rs := [16]) (by kernel_rfl) (by simp) ?_
         refine AllReadyH.cons rfl (fun K hK => ?_) AllReadyH.nil
         try dsimp only at hHeld
         go_simp
         (go_at_call 60; refine (specClass_any _ _).mono ?_; rintro e w' ⟨rfl, hbk⟩)
         refine hK.out _ _ ?_ (fun hHeld2 => ?_)
         ·try dsimp only
          (go_split_ands; first | exact ApH.all (by assumption) | exact ApH.all (ApH.drew (by assumption)) | exact ApH.all (ApH.kept (by assumption) (by assumption)))
         clear hK K hHeld
         have hHeld := hHeld2
         clear hHeld2
         clear hbk
         refine wpAnyH_ready (rs := [21]) (by kernel_rfl) (by simp) ?_
         refine AllReadyH.cons rfl (fun K hK => ?_) AllReadyH.nil
         try dsimp only at hHeld
         go_simp
         (go_at_call 60; refine (specClass_any _ _).mono ?_; rintro e w' ⟨rfl, hbk⟩)
         refine hK.out _ _ ?_ (fun hHeld2 => ?_)
         ·try dsimp only
          (go_split_ands; first | exact ApH.all (by assumption) | exact ApH.all (ApH.drew (by assumption)) | exact ApH.all (ApH.kept (by assumption) (by assumption)))
         clear hK K hHeld
         have hHeld := hHeld2
         clear hHeld2
         clear hbk
         refine wpH_take (i := 22) (v := ?_) rfl (by kernel_rfl) (by kernel_rfl) (by kernel_rfl) (fun _ _ _ h => h) (by rfl) ?_ (by assumption) ?_; rotate_left; (focus (intro w hSw; (try dsimp only at hSw); go_simp; try with_reducible rfl)); try simp only [Act.put, List.setIfInBounds_toArray, List.set_cons_zero, List.set_cons_succ]
         refine wpH_take (i := 23) (v := ?_) rfl (by kernel_rfl) (by kernel_rfl) (by kernel_rfl) (fun _ _ _ h => h) (by rfl) ?_ (by assumption) ?_; rotate_left; (focus (intro w hSw; (try dsimp only at hSw); go_simp; try with_reducible rfl)); try simp only [Act.put, List.setIfInBounds_toArray, List.set_cons_zero, List.set_cons_succ]
         refine wpAnyH_done (by kernel_rfl) ?_ _
         try dsimp only at hHeld
         obtain ⟨-, -, hO5⟩ := hHeld
         replace hO5 : Own 3 1 w.heap.size w (.slice (some ⟨g, 0, none⟩) m.length cv) m.length (ints (A' ++ [z] ++ y :: (B ++ R))) _ := hO5
         go_wp2
         go_roundg (gP - 1)
         case measure => omega
         case rel => exact ⟨q + 1, by omega, by go_num, by rw [hT.out, ← HR.out, HE.out]; simpa using hO5⟩
       ·have hd : decide (0 < classF y) = false := by simpa using hc1
        have HE : Hid (insF s y = A' ++ [z] ++ y :: B) := Lib.hid (by rw [hbub.out.1, insF_here A' y z (fun h => hc1 h.1)]; simp)
        have hO4 := Lib.hid hO3
        clear hO3
        go_wp2
        refine wp_region_held_drew (S := (fun W => W.cell? ⟨g, A'.length + 1, none⟩ = some (.int .i64 y) ∧ W.cell? ⟨g, A'.length, none⟩ = some (.int .i64 z) ∧ ApH w.heap.size w g m.length cv A' z y (B ++ R) W)) (by kernel_rfl) ?_ (fun hHeld => ?_)
        ·try dsimp only
         (go_split_ands; first | exact ApH.all (by assumption) | exact ApH.all (ApH.drew (by assumption)) | exact ApH.all (ApH.kept (by assumption) (by assumption)))
        change wpAnyH _ _ _ _ _ 24 #[false, false, false, false, false, false, false, false, false, false, false, false, false, false, false, false, false, false, false, false, false, false, false, false] _ _
        refine wpH_take (i := 0) (v := ?_) rfl (by kernel_rfl) (by kernel_rfl) (by kernel_rfl) (fun _ _ _ h => h) (by rfl) ?_ (by assumption) ?_; rotate_left; (focus (intro w hSw; (try dsimp only at hSw); go_simp; try with_reducible rfl)); try simp only [Act.put, List.setIfInBounds_toArray, List.set_cons_zero, List.set_cons_succ]
        refine wpH_take (i := 1) (v := ?_) rfl (by kernel_rfl) (by kernel_rfl) (by kernel_rfl) (fun _ _ _ h => h) (by rfl) ?_ (by assumption) ?_; rotate_left; (focus (intro w hSw; (try dsimp only at hSw); go_simp; try with_reducible rfl)); try simp only [Act.put, List.setIfInBounds_toArray, List.set_cons_zero, List.set_cons_succ]
        refine wpH_take (i := 2) (v := ?_) rfl (by kernel_rfl) (by kernel_rfl) (by kernel_rfl) (fun _ _ _ h => h) (by rfl) ?_ (by assumption) ?_; rotate_left; (focus (intro w hSw; (try dsimp only at hSw); go_simp; try with_reducible rfl)); try simp only [Act.put, List.setIfInBounds_toArray, List.set_cons_zero, List.set_cons_succ]
        refine wpH_take (i := 3) (v := ?_) rfl (by kernel_rfl) (by kernel_rfl) (by kernel_rfl) (fun _ _ _ h => h) (by rfl) ?_ (by assumption) ?_; rotate_left; (focus (intro w hSw; (try dsimp only at hSw); go_simp; try with_reducible rfl)); try simp only [Act.put, List.setIfInBounds_toArray, List.set_cons_zero, List.set_cons_succ]
        refine wpH_take (i := 4) (v := ?_) rfl (by kernel_rfl) (by kernel_rfl) (by kernel_rfl) (fun _ _ _ h => h) (by rfl) ?_ (by assumption) ?_; rotate_left; (focus (intro w hSw; (try dsimp only at hSw); go_simp; try with_reducible rfl)); try simp only [Act.put, List.setIfInBounds_toArray, List.set_cons_zero, List.set_cons_succ]
        refine wpH_take (i := 5) (v := ?_) rfl (by kernel_rfl) (by kernel_rfl) (by kernel_rfl) (fun _ _ _ h => h) (by rfl) ?_ (by assumption) ?_; rotate_left; (focus (intro w hSw; (try dsimp only at hSw); go_simp; try with_reducible rfl)); try simp only [Act.put, List.setIfInBounds_toArray, List.set_cons_zero, List.set_cons_succ]
        refine wpH_take (i := 6) (v := ?_) rfl (by kernel_rfl) (by kernel_rfl) (by kernel_rfl) (fun _ _ _ h => h) (by rfl) ?_ (by assumption) ?_; rotate_left; (focus (intro w hSw; (try dsimp only at hSw); go_simp; try with_reducible rfl)); try simp only [Act.put, List.setIfInBounds_toArray, List.set_cons_zero, List.set_cons_succ]
        refine wpAnyH_ready (rs := [7]) (by kernel_rfl) (by simp) ?_
        refine AllReadyH.cons rfl (fun K hK => ?_) AllReadyH.nil
        try dsimp only at hHeld
        go_simp
        (go_at_call 60; refine (specClass_any _ _).mono ?_; rintro e w' ⟨rfl, hbk⟩)
        refine hK.out _ _ ?_ (fun hHeld2 => ?_)
        ·try dsimp only
         (go_split_ands; first | exact ApH.all (by assumption) | exact ApH.all (ApH.drew (by assumption)) | exact ApH.all (ApH.kept (by assumption) (by assumption)))
        clear hK K hHeld
        have hHeld := hHeld2
        clear hHeld2
        clear hbk
        refine wpH_take (i := 8) (v := ?_) rfl (by kernel_rfl) (by kernel_rfl) (by kernel_rfl) (fun _ _ _ h => h) (by rfl) ?_ (by assumption) ?_; rotate_left; (focus (intro w hSw; (try dsimp only at hSw); go_simp; try with_reducible rfl)); try simp only [Act.put, List.setIfInBounds_toArray, List.set_cons_zero, List.set_cons_succ]
        refine wpH_take (i := 9) (v := ?_) rfl (by kernel_rfl) (by kernel_rfl) (by kernel_rfl) (fun _ _ _ h => h) (by rfl) ?_ (by assumption) ?_; rotate_left; (focus (intro w hSw; (try dsimp only at hSw); go_simp; try with_reducible rfl)); try simp only [Act.put, List.setIfInBounds_toArray, List.set_cons_zero, List.set_cons_succ]
        refine wpH_take (i := 10) (v := ?_) rfl (by kernel_rfl) (by kernel_rfl) (by kernel_rfl) (fun _ _ _ h => h) (by rfl) ?_ (by assumption) ?_; rotate_left; (focus (intro w hSw; (try dsimp only at hSw); go_simp; try with_reducible rfl)); try simp only [Act.put, List.setIfInBounds_toArray, List.set_cons_zero, List.set_cons_succ]
        refine wpH_off (i := 11) rfl (by kernel_rfl) (by kernel_rfl) (by kernel_rfl) (fun _ _ _ h => h) (by rfl) (by assumption) ?_; try simp only [Act.put, List.setIfInBounds_toArray, List.set_cons_zero, List.set_cons_succ]
        refine wpH_off (i := 12) rfl (by kernel_rfl) (by kernel_rfl) (by kernel_rfl) (fun _ _ _ h => h) (by rfl) (by assumption) ?_; try simp only [Act.put, List.setIfInBounds_toArray, List.set_cons_zero, List.set_cons_succ]
        refine wpH_off (i := 13) rfl (by kernel_rfl) (by kernel_rfl) (by kernel_rfl) (fun _ _ _ h => h) (by rfl) (by assumption) ?_; try simp only [Act.put, List.setIfInBounds_toArray, List.set_cons_zero, List.set_cons_succ]
        refine wpH_off (i := 14) rfl (by kernel_rfl) (by kernel_rfl) (by kernel_rfl) (fun _ _ _ h => h) (by rfl) (by assumption) ?_; try simp only [Act.put, List.setIfInBounds_toArray, List.set_cons_zero, List.set_cons_succ]
        refine wpH_off (i := 15) rfl (by kernel_rfl) (by kernel_rfl) (by kernel_rfl) (fun _ _ _ h => h) (by rfl) (by assumption) ?_; try simp only [Act.put, List.setIfInBounds_toArray, List.set_cons_zero, List.set_cons_succ]
        refine wpH_off (i := 16) rfl (by kernel_rfl) (by kernel_rfl) (by kernel_rfl) (fun _ _ _ h => h) (by rfl) (by assumption) ?_; try simp only [Act.put, List.setIfInBounds_toArray, List.set_cons_zero, List.set_cons_succ]
        refine wpH_off (i := 17) rfl (by kernel_rfl) (by kernel_rfl) (by kernel_rfl) (fun _ _ _ h => h) (by rfl) (by assumption) ?_; try simp only [Act.put, List.setIfInBounds_toArray, List.set_cons_zero, List.set_cons_succ]
        refine wpH_off (i := 18) rfl (by kernel_rfl) (by kernel_rfl) (by kernel_rfl) (fun _ _ _ h => h) (by rfl) (by assumption) ?_; try simp only [Act.put, List.setIfInBounds_toArray, List.set_cons_zero, List.set_cons_succ]
        refine wpH_off (i := 19) rfl (by kernel_rfl) (by kernel_rfl) (by kernel_rfl) (fun _ _ _ h => h) (by rfl) (by assumption) ?_; try simp only [Act.put, List.setIfInBounds_toArray, List.set_cons_zero, List.set_cons_succ]
        refine wpH_off (i := 20) rfl (by kernel_rfl) (by kernel_rfl) (by kernel_rfl) (fun _ _ _ h => h) (by rfl) (by assumption) ?_; try simp only [Act.put, List.setIfInBounds_toArray, List.set_cons_zero, List.set_cons_succ]
        refine wpH_off (i := 21) rfl (by kernel_rfl) (by kernel_rfl) (by kernel_rfl) (fun _ _ _ h => h) (by rfl) (by assumption) ?_; try simp only [Act.put, List.setIfInBounds_toArray, List.set_cons_zero, List.set_cons_succ]
        refine wpH_off (i := 22) rfl (by kernel_rfl) (by kernel_rfl) (by kernel_rfl) (fun _ _ _ h => h) (by rfl) (by assumption) ?_; try simp only [Act.put, List.setIfInBounds_toArray, List.set_cons_zero, List.set_cons_succ]
        refine wpH_take (i := 23) (v := ?_) rfl (by kernel_rfl) (by kernel_rfl) (by kernel_rfl) (fun _ _ _ h => h) (by rfl) ?_ (by assumption) ?_; rotate_left; (focus (intro w hSw; (try dsimp only at hSw); go_simp; try with_reducible rfl)); try simp only [Act.put, List.setIfInBounds_toArray, List.set_cons_zero, List.set_cons_succ]
        refine wpAnyH_done (by kernel_rfl) ?_ _
        try dsimp only at hHeld
        obtain ⟨-, -, hO5⟩ := hHeld
        replace hO5 : Own 3 1 w.heap.size w (.slice (some ⟨g, 0, none⟩) m.length cv) m.length (ints (A' ++ [z] ++ y :: (B ++ R))) _ := hO5
        go_wp2
        go_roundg (gP - 1)
        case measure => omega
        case rel => exact ⟨q + 1, by omega, by go_num, by rw [hT.out, ← HR.out, HE.out]; simpa using hO5⟩
    ·have e1 : m.take (q + 1) = m := List.take_of_length_le (by omega)
     have e2 : m.drop (q + 1) = [] := List.drop_of_length_le (by omega)
     rw [e1, e2, List.append_nil, HF.out, HFl.out] at hO
     have HM := Lib.hid HFl.out
     clear e1 e2 hOk
     go_wp2
     go_ret
     rw [HM.out]
     exact ⟨_, _, rfl, hO⟩
end Go.Proofs.Ytlkfabkkjfmnmaa
