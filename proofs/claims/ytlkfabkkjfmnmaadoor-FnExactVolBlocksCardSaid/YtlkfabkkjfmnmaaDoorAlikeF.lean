/- The key of a name, plain: what is folded and taken apart stays as it is; a key is read back. -/
import Derived.Test.YtlkfabkkjfmnmaaDoorInsF
import Derived.Test.YtlkfabkkjfmnmaaDoorSigF
import Derived.Test.YtlkfabkkjfmnmaaDoorFold
import Derived.Test.YtlkfabkkjfmnmaaDoorKnown
namespace Go.Proofs.YtlkfabkkjfmnmaaDoor
open Go.RowKit

theorem low1 : ∀ n : Fin 17, partsF (945 + (n.val : Int)) = [] := by decide +kernel
theorem low2 : ∀ n : Fin 7, partsF (963 + (n.val : Int)) = [] := by decide +kernel
theorem low3 : ∀ n : Fin 32, partsF (1072 + (n.val : Int)) = [] := by decide +kernel
theorem low4 : partsF 230 = [] ∧ partsF 240 = [] ∧ partsF 248 = [] ∧ partsF 254 = [] ∧ partsF 115 = [] ∧ partsF 963 = [] := by decide +kernel
theorem low_of {b m : Int} {n : Nat} (hm : m = (n : Int)) (h : ∀ k : Fin n, partsF (b + (k.val : Int)) = []) (d : Int) (h0 : b ≤ d) (h1 : d < b + m) : partsF d = [] := by
  have := h ⟨(d - b).toNat, by omega⟩
  have e : b + (((d - b).toNat : Nat) : Int) = d := by omega
  simp only [e] at this
  exact this
theorem foldF_self (d : Int) (h1 : ¬ (65 ≤ d ∧ d ≤ 90)) (h2 : ¬ (913 ≤ d ∧ d ≤ 937)) (h3 : ¬ (1040 ≤ d ∧ d ≤ 1071)) (h4 : d ≠ 198 ∧ d ≠ 208 ∧ d ≠ 216 ∧ d ≠ 222 ∧ d ≠ 223 ∧ d ≠ 962) : foldF d = [d] := by
  unfold foldF
  rw [if_neg (by omega), if_neg (by omega), if_neg (by omega)]
theorem foldF_keep (c : Int) (h : partsF c = []) : ∀ d ∈ foldF c, partsF d = [] ∧ foldF d = [d] := by
  intro d hd
  by_cases e1 : (65 ≤ c ∧ c ≤ 90) ∨ (913 ≤ c ∧ c ≤ 929) ∨ (931 ≤ c ∧ c ≤ 937) ∨ (1040 ≤ c ∧ c ≤ 1071) ∨ c = 198 ∨ c = 208 ∨ c = 216 ∨ c = 222
  · unfold foldF at hd
    rw [if_pos e1] at hd
    obtain rfl : d = c + 32 := by simpa using hd
    clear hd
    refine ⟨?_, foldF_self _ (by omega) (by omega) (by omega) (by omega)⟩
    rcases e1 with e1 | e1 | e1 | e1 | e1 | e1 | e1 | e1
    · exact partsF_out _ (.inl (by omega)) (by omega)
    · exact low_of (m := 17) rfl low1 _ (by omega) (by omega)
    · exact low_of (m := 7) rfl low2 _ (by omega) (by omega)
    · exact low_of (m := 32) rfl low3 _ (by omega) (by omega)
    · rw [e1]; exact low4.1
    · rw [e1]; exact low4.2.1
    · rw [e1]; exact low4.2.2.1
    · rw [e1]; exact low4.2.2.2.1
  · by_cases e2 : c = 223
    · subst e2
      unfold foldF at hd
      rw [if_neg e1, if_pos rfl] at hd
      obtain rfl : d = 115 := by simpa using hd
      exact ⟨low4.2.2.2.2.1, foldF_self _ (by omega) (by omega) (by omega) (by omega)⟩
    · by_cases e3 : c = 962
      · subst e3
        unfold foldF at hd
        rw [if_neg e1, if_neg e2, if_pos rfl] at hd
        obtain rfl : d = 963 := by simpa using hd
        exact ⟨low4.2.2.2.2.2, foldF_self _ (by omega) (by omega) (by omega) (by omega)⟩
      · have e : foldF c = [c] := by unfold foldF; rw [if_neg e1, if_neg e2, if_neg e3]
        rw [e] at hd
        obtain rfl : d = c := by simpa using hd
        exact ⟨h, e⟩

/-- A name's signs, folded and taken apart. -/
def keyZ (l : List Int) : List Int := apartF (foldL (apartF l))
theorem keyZ_mem (l : List Int) (d : Int) (hd : d ∈ foldL (apartF l)) : partsF d = [] ∧ foldF d = [d] := by
  unfold foldL at hd
  obtain ⟨c, hc, hd⟩ := List.mem_flatMap.1 hd
  exact foldF_keep c (apartF_no l c hc) d hd
theorem foldL_id (m : List Int) (h : ∀ x ∈ m, foldF x = [x]) : foldL m = m := by
  induction m with
  | nil => rfl
  | cons x m ih =>
    have h1 := ih fun y hy => h y (List.mem_cons_of_mem _ hy)
    unfold foldL at h1 ⊢
    rw [List.flatMap_cons, h x List.mem_cons_self, h1]
    rfl
theorem keyZ_fold (l : List Int) : foldL (keyZ l) = keyZ l := by
  refine foldL_id _ fun x hx => ?_
  have hx : x ∈ insAll ((foldL (apartF l)).flatMap takeT) := hx
  rw [insAll_mem, takeAll_id _ (fun y hy => (keyZ_mem l y hy).1)] at hx
  exact (keyZ_mem l x hx).2
theorem keyZ_apart (l : List Int) : apartF (keyZ l) = keyZ l := apartF_idem _
/-- Three spellings of one name: taken apart, folded, its key. -/
theorem keyZ_d (l : List Int) : keyZ (apartF l) = keyZ l := by unfold keyZ; rw [apartF_idem]
theorem keyZ_e (l : List Int) : keyZ (foldL (apartF l)) = keyZ l := by
  show apartF (foldL (keyZ l)) = keyZ l
  rw [keyZ_fold, keyZ_apart]
theorem keyZ_k (l : List Int) : keyZ (keyZ l) = keyZ l := by
  show apartF (foldL (apartF (keyZ l))) = keyZ l
  rw [keyZ_apart, keyZ_fold, keyZ_apart]
/-- Signs, written, read again. -/
theorem decR_encL (l : List Int) (h : encL l ≠ []) : decR (encL l) = l := by
  unfold decR
  rw [decO_encL l h]
  rfl
theorem foldL_wide (l : List Int) (h : ∀ x ∈ l, 0 ≤ x ∧ x ≤ 1114111) : ∀ x ∈ foldL l, 0 ≤ x ∧ x ≤ 1114143 := by
  intro x hx
  unfold foldL at hx
  obtain ⟨c, hc, hx⟩ := List.mem_flatMap.1 hx
  have := h c hc
  unfold foldF at hx
  (repeat' split at hx) <;> simp at hx <;> omega
end Go.Proofs.YtlkfabkkjfmnmaaDoor
