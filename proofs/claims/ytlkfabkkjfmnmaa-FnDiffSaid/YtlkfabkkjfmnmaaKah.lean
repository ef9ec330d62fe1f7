import Derived.Test.YtlkfabkkjfmnmaaKaa
import Derived.Test.YtlkfabkkjfmnmaaKab
import Derived.Test.YtlkfabkkjfmnmaaKae
import Derived.Test.YtlkfabkkjfmnmaaKaf
import Derived.Lib.LaidTab
import Derived.Deep.RegionHeld3
import Derived.IntWalk
namespace Go.Proofs.Ytlkfabkkjfmnmaa
open Go.RowKit
set_option linter.all false
def knA : List Int := [32, 161, 768, 776, 778, 803, 807, 902, 904, 908, 910, 913, 931, 940, 945, 972, 1040, 469, 7840, 7852, 8486, 8491, 4352, 4449, 4520, 44032]
def knB : List Int := [126, 255, 772, 776, 778, 803, 807, 902, 906, 908, 911, 929, 937, 943, 969, 974, 1103, 470, 7841, 7853, 8486, 8491, 4370, 4469, 4546, 55203]
def knownF (c : Int) : Bool := (knA.zip knB).any (fun p => decide (p.1 ≤ c ∧ c ≤ p.2)) && c != 47
theorem knownF_hit (c : Int) (k : Nat) (h : k < 26) (h1 : knA[k]'h ≤ c) (h2 : c ≤ knB[k]'h) : knownF c = (c != 47) := by
 unfold knownF
 have e : (knA.zip knB).any (fun p => decide (p.1 ≤ c ∧ c ≤ p.2)) = true := by
  rw [List.any_eq_true]
  refine ⟨(knA[k]'h, knB[k]'h), ?_, by simp [h1, h2]⟩
  have hz : k < (knA.zip knB).length := h
  have := List.getElem_mem hz
  rwa [List.getElem_zip] at this
 rw [e, Bool.true_and]
theorem knownF_miss (c : Int) (h : ∀ k (hk : k < 26), ¬ (knA[k]'hk ≤ c ∧ c ≤ knB[k]'hk)) : knownF c = false := by
 unfold knownF
 have e : (knA.zip knB).any (fun p => decide (p.1 ≤ c ∧ c ≤ p.2)) = false := by
  rw [List.any_eq_false]
  intro p hp
  obtain ⟨k, hk, rfl⟩ := List.getElem_of_mem hp
  rw [List.getElem_zip]
  have hk' : k < 26 := hk
  exact fun hc => h k hk' (of_decide_eq_true hc)
 rw [e, Bool.false_and]
theorem wp_gen2 {P : Program} {c : Code} {Q : Exit → Act → World → Prop} {a : Act} {W0 : World} (F : World → Prop) (h : F W0) (k : ∀ W, F W → Code.wp P c Q a W) : Code.wp P c Q a W0 := k W0 h
theorem lit_rdK {w0 : World} {e : TypeId} {size m b : Nat} {news : Array Value} (hb : b = w0.heap.size) (hl : news.size = m * size) (hm : m ≤ maxLen) : Rd (w0.alloc (.cells news e)) (some ⟨b, 0, none⟩) m m size news.toList := by
 subst hb
 exact lit_rd hl hm
theorem rdcellK {W : World} {b n cap size : Nat} {xs : List Value} (h : Rd W (some ⟨b, 0, none⟩) n cap size xs) (h0 : 0 < n) (j : Nat) (hj : j < xs.length) : W.cell? ⟨b, j, none⟩ = some xs[j] := by
 obtain ⟨b', off, e, _, hc⟩ := h.at' h0
 cases e
 have := hc j hj
 rwa [Nat.zero_add] at this
set_option maxRecDepth 1000000 in
set_option maxHeartbeats 6000000 in
theorem specKnown_any (c : Int) (w : World) : Calls Try.prog 35 #[.int .i64 c] w fun e w' => e = .returned (.bool (knownF c)) ∧ Below w.heap.size w w' := by
 go_enter Try.func35, Try.ntmps35
 go_wp2
 refine wp_gen2 (fun W => Below w.heap.size w W ∧ Rd W (some ⟨w.heap.size, 0, none⟩) 26 26 1 (ints knA) ∧ Rd W (some ⟨w.heap.size + 1, 0, none⟩) 26 26 1 (ints knB)) (by exact ⟨((Below.refl _ _).alloc (Nat.le_refl _) _).alloc (by simp) _, (lit_rdK (news := (ints knA).toArray) rfl rfl (by decide)).alloc _, lit_rdK (news := (ints knB).toArray) (by simp) rfl (by decide)⟩) ?_
 generalize w.heap.size + 1 = b2
 intro W hW
 have HW := Lib.hid hW
 clear hW
 go_loopg [5] 26 (fun gg i wr => ∃ k : Nat, k + gg = 26 ∧ i = .int .i64 k ∧ (∀ j (hj : j < k) (hf : j < 26), ¬ (knA[j]'hf ≤ c ∧ c ≤ knB[j]'hf)) ∧ Below W.heap.size W wr)
 case atStart => exact ⟨0, by omega, rfl, (fun j hj => by omega), Below.refl _ _⟩
 case round =>
  obtain ⟨k, hk, rfl, hno, hB⟩ := hrel
  have HN := Lib.hid hno
  have HB := Lib.hid hB
  have HB2 : Hid (Below w.heap.size w wr) := Lib.hid (HW.out.1.trans (hB.mono HW.out.1.size))
  clear hno
  by_cases hlt : k < 26
  ·have hc1 := rdcellK (HW.out.2.1.below hB (Nat.le_refl _)) (by omega) k (by exact hlt)
   have hc2 := rdcellK (HW.out.2.2.below hB (Nat.le_refl _)) (by omega) k (by exact hlt)
   replace hc1 := hc1.trans (congrArg some (ints_get knA k hlt))
   replace hc2 := hc2.trans (congrArg some (ints_get knB k hlt))
   clear hB
   by_cases hin : knA[k]'hlt ≤ c ∧ c ≤ knB[k]'hlt
   ·have HR : Hid (knownF c = (c != 47)) := Lib.hid (knownF_hit c k hlt hin.1 hin.2)
    obtain ⟨h1, h2⟩ := hin
    generalize knA[k]'hlt = x at *
    generalize knB[k]'hlt = y at *
    go_wp2
    go_quiet (refine Calls.quiet_of_same ((l1In_yes _ _ _ _ (by omega) (by omega)).mono fun e w' h => ⟨h.1, h.2.symm⟩))
    go_wp2
    go_ret
    exact ⟨ret_bool HR.out.symm, below_drewN HB2.out _⟩
   ·have HI := Lib.hid hin
    have hin2 : c < knA[k]'hlt ∨ knB[k]'hlt < c := by omega
    clear hin
    have HN2 : Hid (∀ j (hj : j < k + 1) (hf : j < 26), ¬ (knA[j]'hf ≤ c ∧ c ≤ knB[j]'hf)) := Lib.hid (fun j hj hf => by
     by_cases e : j = k
     ·subst e; exact HI.out
     ·exact HN.out j (by omega) hf)
    clear HI HN
    generalize knA[k]'hlt = x at *
    generalize knB[k]'hlt = y at *
    go_wp2
    go_quiet (refine Calls.quiet_of_same ((l1In_no _ _ _ _ (by omega)).mono fun e w' h => ⟨h.1, h.2.symm⟩))
    go_wp2
    go_roundg (gk - 1)
    case measure => omega
    case rel => exact ⟨k + 1, by omega, by go_num, HN2.out, below_drewN HB.out _⟩
  ·have hkl : k = 26 := by omega
   have HR : Hid (knownF c = false) := Lib.hid (knownF_miss c (fun j hj => HN.out j (by omega) hj))
   subst hkl
   go_wp2
   go_ret
   exact ⟨ret_bool HR.out.symm, HB2.out⟩
def keyZ (l : List Int) : List Int := apartF (foldL (apartF l))

set_option maxRecDepth 1000000 in
set_option maxHeartbeats 6000000 in
theorem l4Take0_any (c : Int) (h : partsF c = []) (n : Nat) (w : World) : Calls Try.prog 59 #[.int .i64 c] w (takePost (takeF n c) w) := by
 rw [takeF_flat n c h, ← takeF_flat 1 c h]
 exact l4TakeStep_any 0 (by omega) c (fun x hx => by rw [h] at hx; simp at hx) w
set_option maxRecDepth 1000000 in
set_option maxHeartbeats 6000000 in
theorem l4Take1_any (c : Int) (h : ∀ x ∈ partsF c, partsF x = []) (n : Nat) (w : World) : Calls Try.prog 59 #[.int .i64 c] w (takePost (takeF (n + 2) c) w) := by
 have e : takeF (n + 2) c = takeF 2 c := by
  have e2 : ∀ l : List Int, (∀ x ∈ l, partsF x = []) → l.flatMap (takeF (n + 1)) = l.flatMap (takeF 1) := fun l hl => by
   induction l with
   | nil => rfl
   | cons x l ih => rw [List.flatMap_cons, List.flatMap_cons, ih (fun y hy => hl y (List.mem_cons_of_mem _ hy)), takeF_flat _ x (hl x (List.mem_cons_self ..)), takeF_flat _ x (hl x (List.mem_cons_self ..))]
  show (if partsF c = [] then [c] else (partsF c).flatMap (takeF (n + 1))) = (if partsF c = [] then [c] else (partsF c).flatMap (takeF 1))
  rw [e2 _ h]
 rw [e]
 exact l4TakeStep_any 1 (by omega) c (fun x hx W => l4Take0_any x (h x hx) 1 W) w
set_option maxRecDepth 1000000 in
set_option maxHeartbeats 6000000 in
theorem l4Take_any (c : Int) (w : World) : Calls Try.prog 59 #[.int .i64 c] w (takePost (takeT c) w) :=
 l4TakeStep_any 2 (by omega) c (fun x hx W => l4Take1_any x (fun y hy => parts_deep c x y hx hy) 0 W) w
def bub (s : List Int) (x : Int) (A B : List Int) : Prop := insF s x = insF A x ++ B ∧ s.length = A.length + B.length
theorem swap_cat (A B : List Int) (x y : Int) : ((ints (A ++ [y] ++ x :: B)).set (A.length + 1) (.int .i64 y)).set A.length (.int .i64 x) = ints (A ++ x :: y :: B) := by
 simp [ints, List.set_append]
end Go.Proofs.Ytlkfabkkjfmnmaa
