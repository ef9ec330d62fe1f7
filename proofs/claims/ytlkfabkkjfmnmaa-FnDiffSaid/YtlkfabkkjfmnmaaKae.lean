import Derived.Test.YtlkfabkkjfmnmaaKab
import Derived.Test.YtlkfabkkjfmnmaaKad
namespace Go.Proofs.Ytlkfabkkjfmnmaa
open Go.RowKit
set_option linter.all false
def takeF : Nat → Int → List Int
 | 0, c => [c]
 | n + 1, c => if partsF c = [] then [c] else (partsF c).flatMap (takeF n)
theorem flat_len (f : Int → List Int) (b : Nat) (h : ∀ x, (f x).length ≤ b) : ∀ l : List Int, (l.flatMap f).length ≤ l.length * b := by
 intro l
 induction l with
 | nil => simp
 | cons x l ih =>
  have := h x
  rw [List.flatMap_cons, List.length_append, List.length_cons, Nat.succ_mul]
  omega
theorem takeF_len : ∀ (n : Nat) (c : Int), (takeF n c).length ≤ 3 ^ n := by
 intro n
 induction n with
 | zero => intro c; simp [takeF]
 | succ n ih =>
  intro c
  unfold takeF
  split
  ·have : 0 < 3 ^ (n + 1) := Nat.pow_pos (by omega)
   simp; omega
  ·have h1 := flat_len (takeF n) (3 ^ n) ih (partsF c)
   have h2 := Nat.mul_le_mul_right (3 ^ n) (partsF_len c)
   rw [Nat.pow_succ, Nat.mul_comm]
   omega
theorem takeF_len27 (n : Nat) (hn : n ≤ 2) (c : Int) : (takeF n c).length ≤ 9 := by
 have h := takeF_len n c
 have h2 : 3 ^ n ≤ 3 ^ 2 := Nat.pow_le_pow_right (by omega) hn
 omega
def takePost (l : List Int) (w : World) (e : Ending) (w' : World) : Prop :=
 ∃ a c', e = .returned (.slice a l.length c') ∧ Own 3 1 w.heap.size w (.slice a l.length c') l.length (ints l) w'
set_option maxRecDepth 1000000 in
set_option maxHeartbeats 6000000 in
theorem l4TakeStep_any (n : Nat) (hn : n ≤ 2) (c : Int) (ih : ∀ x ∈ partsF c, ∀ w, Calls Try.prog 59 #[.int .i64 x] w (takePost (takeF n x) w)) (w : World) :
  Calls Try.prog 59 #[.int .i64 c] w (takePost (takeF (n + 1) c) w) := by
 have HI := Lib.hid ih
 clear ih
 go_enter Try.func59, Try.ntmps59
 go_wp2_with fail
 refine (specParts_any c _).mono ?_
 rintro e w1 ⟨g1, c1, rfl, hP⟩
 have HP := Lib.hid hP
 by_cases h0 : partsF c = []
 ·have HE : Hid (takeF (n + 1) c = [c]) := Lib.hid (by unfold takeF; rw [if_pos h0])
  rw [h0]
  simp only [List.length_nil]
  clear hP HI h0
  go_wp2
  go_ret
  rw [HE.out]
  exact ⟨_, _, rfl, Own.lit HP.out.below HP.out.below.size #[.int .i64 c] rfl (show 1 ≤ maxLen by decide)⟩
 ·have HE : Hid (takeF (n + 1) c = (partsF c).flatMap (takeF n)) := Lib.hid (by conv => lhs; unfold takeF; rw [if_neg h0])
  have hl1 := partsF_len c
  have hl0 : 0 < (partsF c).length := List.length_pos_iff.2 h0
  generalize partsF c = l at *
  have hR := hP.rd
  clear hP h0
  have hz : (((l.length : Nat) : Int) == 0) = false := by rw [beq_eq_false_iff_ne]; omega
  go_wp2
  go_loopg [4, 5] l.length (fun gg o i wr => ∃ k : Nat, k + gg = l.length ∧ i = .int .i64 k ∧ Own 3 1 w1.heap.size w1 o ((l.take k).flatMap (takeF n)).length (ints ((l.take k).flatMap (takeF n))) wr)
  case atStart => exact ⟨0, by omega, rfl, by simpa [ints] using Own.lit (e := 3) (size := 1) (n := 0) (Below.refl w1.heap.size w1) (Nat.le_refl _) #[] rfl (by decide)⟩
  case round =>
   obtain ⟨k, hk, rfl, hOk⟩ := hrel
   obtain ⟨av, cv, rfl, _, _⟩ := hOk.shape
   by_cases hlt : k < l.length
   ·obtain ⟨b, off, e0, hbs, hc⟩ := hR.at' (by omega)
    cases e0
    have hc1 := hc k (by simpa using hlt)
    rw [Nat.zero_add, ← hOk.below.cell (p := ⟨g1, k, none⟩) (by exact hbs), ints_get l k hlt] at hc1
    have hS : Hid ((l.take (k + 1)).flatMap (takeF n) = (l.take k).flatMap (takeF n) ++ takeF n l[k]) := Lib.hid (by rw [List.take_succ_eq_append_getElem hlt, List.flatMap_append]; simp)
    have hb1 : ((l.take k).flatMap (takeF n)).length ≤ 27 := by
     have h := flat_len (takeF n) 9 (takeF_len27 n hn) (l.take k)
     have h2 : (l.take k).length ≤ 3 := by rw [List.length_take]; omega
     omega
    have hb2 := takeF_len27 n hn l[k]
    have hIx := Lib.hid (HI.out l[k] (List.getElem_mem _))
    clear hc hR HI
    generalize (l.take k).flatMap (takeF n) = pre at *
    generalize l[k] = x at *
    go_wp2_with fail
    refine (hIx.out _).mono ?_
    rintro e w4 ⟨g4, c4, rfl, hF⟩
    have hOF := hOk.kept hF.below
    have hFr := hF.rd
    go_wp2_with (at_builtin; go_loud (refine wp_app rfl _ _ 69 rfl 3 (.int .i64 0) 1 8 Try.underlying69 info_i64 rfl (by decide) w1.heap.size w1 _ _ _ (by rfl) (by exact hOF) _ _ _ _ (by rfl) (by exact hFr) (ints_one _) (by omega) (by unfold maxLen; omega) ?_); intro a2 c2 w2 hO2)
    go_wp2
    go_roundg (gk - 1)
    case measure => omega
    case rel => exact ⟨k + 1, by omega, by go_num, by rw [hS.out, List.length_append, ints_append]; exact hO2⟩
   ·have hkl : k = l.length := by omega
    subst hkl
    rw [List.take_length] at hOk ⊢
    go_wp2
    go_ret
    rw [HE.out]
    exact ⟨_, _, rfl, hOk.rebase HP.out.below HP.out.below.size⟩
def insR (x : Int) : List Int → List Int
 | [] => [x]
 | y :: r => if 0 < classF x ∧ classF x < classF y then y :: insR x r else x :: y :: r
def insF (l : List Int) (x : Int) : List Int := (insR x l.reverse).reverse
def insAll (l : List Int) : List Int := l.foldl insF []
def takeT (c : Int) : List Int := takeF 3 c
def apartF (l : List Int) : List Int := insAll (l.flatMap takeT)
theorem insR_len (x : Int) : ∀ r, (insR x r).length = r.length + 1 := by
 intro r
 induction r with
 | nil => rfl
 | cons y r ih => unfold insR; split <;> simp [ih]
theorem insF_len (l : List Int) (x : Int) : (insF l x).length = l.length + 1 := by simp [insF, insR_len]
theorem foldIns_len (m : List Int) : ∀ s, (m.foldl insF s).length = s.length + m.length := by
 induction m with
 | nil => intro s; simp
 | cons x m ih => intro s; rw [List.foldl_cons, ih, insF_len, List.length_cons]; omega
theorem insAll_len (m : List Int) : (insAll m).length = m.length := by rw [insAll, foldIns_len]; simp
theorem insAll_snoc (m : List Int) (x : Int) : insAll (m ++ [x]) = insF (insAll m) x := by simp [insAll]
theorem insF_stop (l : List Int) (x : Int) (h : ∀ y, l.getLast? = some y → ¬ (0 < classF x ∧ classF x < classF y)) : insF l x = l ++ [x] := by
 unfold insF
 cases hr : l.reverse with
 | nil =>
  have : l = [] := by simpa using hr
  subst this; rfl
 | cons y r =>
  have hl : l = r.reverse ++ [y] := by rw [← List.reverse_reverse l, hr]; simp
  unfold insR
  rw [if_neg (h y (by rw [hl]; simp))]
  rw [hl]
  simp
theorem insF_nil (x : Int) : insF [] x = [x] := rfl
theorem insF_go (l : List Int) (x y : Int) (h : 0 < classF x ∧ classF x < classF y) : insF (l ++ [y]) x = insF l x ++ [y] := by
 unfold insF
 rw [List.reverse_append]
 simp only [List.reverse_cons, List.reverse_nil, List.nil_append, List.singleton_append]
 conv => lhs; unfold insR
 rw [if_pos h]
 simp
theorem insF_here (l : List Int) (x y : Int) (h : ¬ (0 < classF x ∧ classF x < classF y)) : insF (l ++ [y]) x = l ++ [y] ++ [x] :=
 insF_stop _ _ (fun z hz => by rw [List.getLast?_concat] at hz; cases hz; exact h)
theorem insR_mem (x c : Int) : ∀ r, c ∈ insR x r ↔ c = x ∨ c ∈ r := by
 intro r
 induction r with
 | nil => simp [insR]
 | cons z r ih =>
  unfold insR
  split
  ·rw [List.mem_cons, ih, List.mem_cons]
   constructor
   ·rintro (h | h | h)
    ·exact .inr (.inl h)
    ·exact .inl h
    ·exact .inr (.inr h)
   ·rintro (h | h | h)
    ·exact .inr (.inl h)
    ·exact .inl h
    ·exact .inr (.inr h)
  ·rw [List.mem_cons]
theorem insF_mem (l : List Int) (x c : Int) : c ∈ insF l x ↔ c = x ∨ c ∈ l := by simp [insF, insR_mem]
theorem foldIns_mem (c : Int) (m : List Int) : ∀ s, c ∈ m.foldl insF s ↔ c ∈ s ∨ c ∈ m := by
 induction m with
 | nil => intro s; simp
 | cons x m ih =>
  intro s
  rw [List.foldl_cons, ih, insF_mem, List.mem_cons]
  constructor
  ·rintro ((h | h) | h)
   ·exact .inr (.inl h)
   ·exact .inl h
   ·exact .inr (.inr h)
  ·rintro (h | h | h)
   ·exact .inl (.inr h)
   ·exact .inl (.inl h)
   ·exact .inr h
theorem insAll_mem (c : Int) (m : List Int) : c ∈ insAll m ↔ c ∈ m := by rw [insAll, foldIns_mem]; simp
theorem asc_parts (c : Int) (h : ¬ (44032 ≤ c ∧ c ≤ 55203)) (x : Int) (hx : x ∈ partsF c) : ∃ p ∈ flat tabI, p.1 = c ∧ x ∈ p.2 := by
 unfold partsF at hx
 rw [if_neg h] at hx
 cases ha : asc (flat tabI) c with
 | none => rw [ha] at hx; simp at hx
 | some v =>
  rw [ha] at hx
  exact ⟨(c, v), asc_mem _ _ _ ha, rfl, hx⟩
theorem hang_no (c : Int) (h : 44032 ≤ c ∧ c ≤ 55203) (x : Int) (hx : x ∈ partsF c) : partsF x = [] := by
 have hr : 4352 ≤ x ∧ x ≤ 4600 := by
  unfold partsF at hx
  rw [if_pos h] at hx
  unfold hang at hx
  split at hx
  all_goals simp only [List.mem_append, List.mem_cons, List.not_mem_nil, or_false] at hx
  all_goals omega
 unfold partsF
 rw [if_neg (by omega)]
 cases ha : asc (flat tabI) x with
 | none => rfl
 | some v =>
  have h2 : ∀ p ∈ flat tabI, ¬ ((4352 : Int) ≤ p.1 ∧ p.1 ≤ 4600) := by decide +kernel
  exact absurd hr (h2 _ (asc_mem _ _ _ ha))
theorem tab_deep2 : ∀ p ∈ flat tabI, ∀ x ∈ p.2, ∀ y ∈ partsF x, partsF y = [] := by decide +kernel
theorem parts_deep (c x y : Int) (hx : x ∈ partsF c) (hy : y ∈ partsF x) : partsF y = [] := by
 by_cases h : 44032 ≤ c ∧ c ≤ 55203
 ·rw [hang_no c h x hx] at hy; simp at hy
 ·obtain ⟨p, hp, _, hx2⟩ := asc_parts c h x hx
  exact tab_deep2 p hp x hx2 y hy
theorem takeF_flat (n : Nat) (c : Int) (h : partsF c = []) : takeF n c = [c] := by
 cases n with
 | zero => rfl
 | succ n => unfold takeF; rw [if_pos h]
theorem takeT_len (c : Int) : (takeT c).length ≤ 27 := by have := takeF_len 3 c; unfold takeT; omega
theorem takeAll_len (l : List Int) : (l.flatMap takeT).length ≤ l.length * 27 := flat_len takeT 27 takeT_len l
theorem apartF_len (l : List Int) : (apartF l).length ≤ l.length * 27 := by unfold apartF; rw [insAll_len]; exact takeAll_len l
def isSgn (c : Int) : Bool := decide (0 ≤ c ∧ c ≤ 1114111 ∧ ¬ (55296 ≤ c ∧ c ≤ 57343))
def enc1 (c : Int) : List UInt8 :=
 if c < 128 then [ub c]
 else if c < 2048 then [ub (192 + c / 64), ub (128 + c % 64)]
 else if c < 65536 then [ub (224 + c / 4096), ub (128 + c / 64 % 64), ub (128 + c % 64)]
 else [ub (240 + c / 262144), ub (128 + c / 4096 % 64), ub (128 + c / 64 % 64), ub (128 + c % 64)]
def encs (l : List Int) : List UInt8 := l.flatMap enc1
def encL (l : List Int) : List UInt8 := if ∀ x ∈ l, isSgn x = true then encs l else []
theorem enc1_len (c : Int) : (enc1 c).length ≤ 4 := by unfold enc1; (repeat' split) <;> simp
theorem encs_len (l : List Int) : (encs l).length ≤ 4 * l.length := by
 induction l with
 | nil => simp [encs]
 | cons x l ih =>
  have := enc1_len x
  simp only [encs, List.flatMap_cons, List.length_append, List.length_cons] at *
  omega
theorem enc1_cells1 (c : Int) (h0 : 0 ≤ c) (h1 : c < 128) : u8s (enc1 c) = [.int .u8 c] ∧ (enc1 c).length = 1 := by
 unfold enc1; rw [if_pos h1]; exact ⟨u8s_ub1 _ (by omega) (by omega), rfl⟩
theorem enc1_cells2 (c : Int) (h0 : 128 ≤ c) (h1 : c < 2048) : u8s (enc1 c) = [.int .u8 (192 + c / 64), .int .u8 (128 + c % 64)] ∧ (enc1 c).length = 2 := by
 unfold enc1; rw [if_neg (by omega), if_pos h1]; exact ⟨u8s_ub2 _ _ (by omega) (by omega) (by omega) (by omega), rfl⟩
theorem enc1_cells3 (c : Int) (h0 : 2048 ≤ c) (h1 : c < 65536) : u8s (enc1 c) = [.int .u8 (224 + c / 4096), .int .u8 (128 + c / 64 % 64), .int .u8 (128 + c % 64)] ∧ (enc1 c).length = 3 := by
 unfold enc1; rw [if_neg (by omega), if_neg (by omega), if_pos h1]; exact ⟨u8s_ub3 _ _ _ (by omega) (by omega) (by omega) (by omega) (by omega) (by omega), rfl⟩
theorem enc1_cells4 (c : Int) (h0 : 65536 ≤ c) (h1 : c ≤ 1114111) : u8s (enc1 c) = [.int .u8 (240 + c / 262144), .int .u8 (128 + c / 4096 % 64), .int .u8 (128 + c / 64 % 64), .int .u8 (128 + c % 64)] ∧ (enc1 c).length = 4 := by
 unfold enc1; rw [if_neg (by omega), if_neg (by omega), if_neg (by omega)]; exact ⟨u8s_ub4 _ _ _ _ (by omega) (by omega) (by omega) (by omega) (by omega) (by omega) (by omega) (by omega), rfl⟩
set_option maxRecDepth 1000000 in
set_option maxHeartbeats 6000000 in
theorem l3Sign_yes (c : Int) (w : World) (h0 : 0 ≤ c) (h1 : c ≤ 1114111) (h2 : c < 55296 ∨ 57343 < c) : Calls Try.prog 53 #[.int .i64 c] w fun e w' => e = .returned (.bool true) ∧ w = w' := by
 rcases h2 with h2 | h2
 all_goals
  go_enter Try.func53, Try.ntmps53
  go_wp2_with (go_at_call 22; (first | refine (l1In_yes _ _ _ _ (by omega) (by omega)).mono ?_ | refine (l1In_no _ _ _ _ (by omega)).mono ?_); rintro e w' ⟨rfl, rfl⟩)
  go_ret
  exact ⟨rfl, rfl⟩
theorem l3Sign_no (c : Int) (w : World) (h : c < 0 ∨ 1114111 < c ∨ (55296 ≤ c ∧ c ≤ 57343)) : Calls Try.prog 53 #[.int .i64 c] w fun e w' => e = .returned (.bool false) ∧ w = w' := by
 rcases h with h | h | ⟨h, h'⟩
 all_goals
  go_enter Try.func53, Try.ntmps53
  go_wp2_with (go_at_call 22; (first | refine (l1In_yes _ _ _ _ (by omega) (by omega)).mono ?_ | refine (l1In_no _ _ _ _ (by omega)).mono ?_); rintro e w' ⟨rfl, rfl⟩)
  go_ret
  exact ⟨rfl, rfl⟩
set_option maxRecDepth 1000000 in
set_option maxHeartbeats 6000000 in
theorem specEncode_any (a : Option Addr) (n cap : Nat) (l : List Int) (w : World) (h : Rd w a n cap 1 (ints l)) (hn : n ≤ 1048576) :
  Calls Try.prog 44 #[.slice a n cap] w fun e w' => e = .returned (.string ⟨(encL l).toArray⟩) ∧ Below w.heap.size w w' := by
 have hl : l.length = n := by have := h.len; simpa using this
 subst hl
 go_enter Try.func44, Try.ntmps44
 go_wp2
 go_loopg [3, 4] l.length (fun gg o i wr => ∃ k : Nat, k + gg = l.length ∧ i = .int .i64 k ∧ (∀ x ∈ l.take k, isSgn x = true) ∧ Own 5 1 w.heap.size w o (encs (l.take k)).length (u8s (encs (l.take k))) wr)
 case atStart => exact ⟨0, by omega, rfl, by simp, by simpa [encs, u8s] using Own.lit (e := 5) (size := 1) (n := 0) (Below.refl w.heap.size w) (Nat.le_refl _) #[] rfl (by decide)⟩
 case round =>
  obtain ⟨k, hk, rfl, hA, hOk⟩ := hrel
  obtain ⟨av, cv, rfl, _, _⟩ := hOk.shape
  by_cases hlt : k < l.length
  ·obtain ⟨b, off, rfl, hbs, hc⟩ := h.at' (by omega)
   have hc1 := hc k (by simpa using hlt)
   rw [← hOk.below.cell (p := ⟨b, off + k, none⟩) (by exact hbs), ints_get l k hlt] at hc1
   have hts : l.take (k + 1) = l.take k ++ [l[k]] := List.take_succ_eq_append_getElem hlt
   have hS : Hid (encs (l.take (k + 1)) = encs (l.take k) ++ enc1 l[k]) := Lib.hid (by rw [hts, encs, List.flatMap_append]; simp [encs])
   have hb1 : (encs (l.take k)).length ≤ 4194304 := by have := encs_len (l.take k); rw [List.length_take] at this; omega
   have hmem : l[k] ∈ l := List.getElem_mem _
   clear hc h
   by_cases hsg : isSgn l[k] = true
   ·have hA2 : Hid (∀ x ∈ l.take (k + 1), isSgn x = true) := Lib.hid (by
     rw [hts]
     intro x hx
     rcases List.mem_append.1 hx with hx | hx
     ·exact hA x hx
     ·rw [List.mem_singleton.1 hx]; exact hsg)
    simp only [isSgn, decide_eq_true_eq] at hsg
    obtain ⟨s0, s1, s2⟩ := hsg
    have s3 : l[k] < 55296 ∨ 57343 < l[k] := by omega
    clear hts hmem hA s2
    generalize encs (l.take k) = pre at *
    generalize l[k] = c at *
    have HS3 := Lib.hid s3
    by_cases h128 : c < 128
    ·have hU := enc1_cells1 c (by omega) (by omega)
     have HU := Lib.hid hU
     clear hU
     go_wp2_with (first | (go_at_call 53; refine (l3Sign_yes _ _ (by omega) (by omega) (by omega)).mono ?_; rintro e w' ⟨rfl, rfl⟩) | (at_builtin; go_loud (refine wp_app1 rfl _ _ 22 rfl 5 (.int .u8 0) 1 1 Try.underlying22 info_u8 rfl (by decide) w.heap.size w _ _ _ (by rfl) (by exact hOk) _ _ (by rfl) (by rfl) (by intro u hu; simp at hu; first | (subst hu; rfl) | (rcases hu with rfl | rfl <;> rfl) | (rcases hu with rfl | rfl | rfl <;> rfl) | (rcases hu with rfl | rfl | rfl | rfl <;> rfl)) (by omega) (by unfold maxLen; omega) ?_); intro a2 c2 w2 hO2))
     go_wp2
     go_roundg (gk - 1)
     case measure => omega
     case rel => exact ⟨k + 1, by omega, by go_num, hA2.out, by rw [hS.out, List.length_append, u8s_append, HU.out.1, HU.out.2]; exact hO2⟩
    ·skip
     by_cases h2048 : c < 2048
     ·have q1 := i64_and63 c (by omega) (by omega)
      have hU := enc1_cells2 c (by omega) (by omega)
      have HU := Lib.hid hU
      clear hU
      go_wp2_with (first | (go_at_call 53; refine (l3Sign_yes _ _ (by omega) (by omega) (by omega)).mono ?_; rintro e w' ⟨rfl, rfl⟩) | (at_builtin; go_loud (refine wp_app1 rfl _ _ 22 rfl 5 (.int .u8 0) 1 1 Try.underlying22 info_u8 rfl (by decide) w.heap.size w _ _ _ (by rfl) (by exact hOk) _ _ (by rfl) (by rfl) (by intro u hu; simp at hu; first | (subst hu; rfl) | (rcases hu with rfl | rfl <;> rfl) | (rcases hu with rfl | rfl | rfl <;> rfl) | (rcases hu with rfl | rfl | rfl | rfl <;> rfl)) (by omega) (by unfold maxLen; omega) ?_); intro a2 c2 w2 hO2))
      go_wp2
      go_roundg (gk - 1)
      case measure => omega
      case rel => exact ⟨k + 1, by omega, by go_num, hA2.out, by rw [hS.out, List.length_append, u8s_append, HU.out.1, HU.out.2]; exact hO2⟩
     ·skip
      by_cases h65536 : c < 65536
      ·have q1 := i64_and63 c (by omega) (by omega)
       have q2 := i64_and63 (c / 64) (by omega) (by omega)
       have hU := enc1_cells3 c (by omega) (by omega)
       have HU := Lib.hid hU
       clear hU
       go_wp2_with (first | (go_at_call 53; refine (l3Sign_yes _ _ (by omega) (by omega) (by omega)).mono ?_; rintro e w' ⟨rfl, rfl⟩) | (at_builtin; go_loud (refine wp_app1 rfl _ _ 22 rfl 5 (.int .u8 0) 1 1 Try.underlying22 info_u8 rfl (by decide) w.heap.size w _ _ _ (by rfl) (by exact hOk) _ _ (by rfl) (by rfl) (by intro u hu; simp at hu; first | (subst hu; rfl) | (rcases hu with rfl | rfl <;> rfl) | (rcases hu with rfl | rfl | rfl <;> rfl) | (rcases hu with rfl | rfl | rfl | rfl <;> rfl)) (by omega) (by unfold maxLen; omega) ?_); intro a2 c2 w2 hO2))
       go_wp2
       go_roundg (gk - 1)
       case measure => omega
       case rel => exact ⟨k + 1, by omega, by go_num, hA2.out, by rw [hS.out, List.length_append, u8s_append, HU.out.1, HU.out.2]; exact hO2⟩
      ·skip
       have q1 := i64_and63 c (by omega) (by omega)
       have q2 := i64_and63 (c / 64) (by omega) (by omega)
       have q3 := i64_and63 (c / 4096) (by omega) (by omega)
       have hU := enc1_cells4 c (by omega) (by omega)
       have HU := Lib.hid hU
       clear hU
       go_wp2_with (first | (go_at_call 53; refine (l3Sign_yes _ _ (by omega) (by omega) (by omega)).mono ?_; rintro e w' ⟨rfl, rfl⟩) | (at_builtin; go_loud (refine wp_app1 rfl _ _ 22 rfl 5 (.int .u8 0) 1 1 Try.underlying22 info_u8 rfl (by decide) w.heap.size w _ _ _ (by rfl) (by exact hOk) _ _ (by rfl) (by rfl) (by intro u hu; simp at hu; first | (subst hu; rfl) | (rcases hu with rfl | rfl <;> rfl) | (rcases hu with rfl | rfl | rfl <;> rfl) | (rcases hu with rfl | rfl | rfl | rfl <;> rfl)) (by omega) (by unfold maxLen; omega) ?_); intro a2 c2 w2 hO2))
       go_wp2
       go_roundg (gk - 1)
       case measure => omega
       case rel => exact ⟨k + 1, by omega, by go_num, hA2.out, by rw [hS.out, List.length_append, u8s_append, HU.out.1, HU.out.2]; exact hO2⟩
   ·have hV : Hid (encL l = []) := Lib.hid (by
     unfold encL
     rw [if_neg]
     intro hall
     exact hsg (hall _ hmem))
    have s3 : l[k] < 0 ∨ 1114111 < l[k] ∨ (55296 ≤ l[k] ∧ l[k] ≤ 57343) := by
     simp only [isSgn, decide_eq_true_eq] at hsg
     omega
    clear hts hmem hA hsg
    generalize encs (l.take k) = pre at *
    generalize l[k] = c at *
    go_wp2_with (go_at_call 53; refine (l3Sign_no _ _ s3).mono ?_; rintro e w' ⟨rfl, rfl⟩)
    go_ret
    exact ⟨by rw [hV.out]; rfl, hOk.below⟩
  ·have hkl : k = l.length := by omega
   subst hkl
   simp only [List.take_length] at hOk hA ⊢
   have hV : Hid (encL l = encs l) := Lib.hid (by unfold encL; rw [if_pos hA])
   clear hA
   have hr := hOk.rd
   go_wp2_with (refine wp_str rfl _ 22 9 5 rfl Try.underlying22 Try.underlying5 Try.underlying9 _ _ _ _ (by rfl) (by exact hr) ?_)
   go_ret
   exact ⟨by rw [hV.out]; rfl, hOk.below⟩
def szOf (b : Nat) : Nat := if b < 128 then 1 else if b < 192 then 0 else if b < 224 then 2 else if b < 240 then 3 else if b < 248 then 4 else 0
def cOf (b : Nat) : Nat := if b < 128 then b else if b < 224 then b % 32 else if b < 240 then b % 16 else b % 8
def isCont (b : UInt8) : Bool := decide (128 ≤ b.toNat) && decide (b.toNat < 192)
def cont (c : Nat) (l : List UInt8) : Nat := l.foldl (fun c b => c * 64 + b.toNat % 64) c
def leastN (n : Nat) : Nat := if n = 2 then 128 else if n = 3 then 2048 else 65536
def sg1 (l : List UInt8) : Int × Nat :=
 match l with
 | [] => (0, 0)
 | b :: r =>
  if szOf b.toNat = 1 then ((b.toNat : Int), 1)
  else if szOf b.toNat = 0 ∨ l.length < szOf b.toNat then (0, 0)
  else if ∀ x ∈ r.take (szOf b.toNat - 1), isCont x = true then
   if leastN (szOf b.toNat) ≤ cont (cOf b.toNat) (r.take (szOf b.toNat - 1)) ∧ isSgn (cont (cOf b.toNat) (r.take (szOf b.toNat - 1))) = true then ((cont (cOf b.toNat) (r.take (szOf b.toNat - 1)) : Int), szOf b.toNat) else (0, 0)
  else (0, 0)
def sgV (l : List UInt8) : Value := .tuple #[.int .i64 (sg1 l).1, .int .i64 ((sg1 l).2 : Int)]
theorem cont_snoc (c : Nat) (l : List UInt8) (b : UInt8) : cont c (l ++ [b]) = cont c l * 64 + b.toNat % 64 := by simp [cont]
theorem cont_lt (c : Nat) (l : List UInt8) : cont c l < (c + 1) * 64 ^ l.length := by
 suffices H : ∀ r : List UInt8, cont c r.reverse < (c + 1) * 64 ^ r.length by have := H l.reverse; simpa using this
 intro r
 induction r with
 | nil => simp [cont]
 | cons b r ih =>
  rw [List.reverse_cons, cont_snoc, List.length_cons, Nat.pow_succ, ← Nat.mul_assoc]
  omega
theorem sz1 (b : Nat) (h : b < 128) : szOf b = 1 := by unfold szOf; rw [if_pos h]
theorem sz2 (b : Nat) (h0 : 192 ≤ b) (h1 : b < 224) : szOf b = 2 := by unfold szOf; rw [if_neg (by omega), if_neg (by omega), if_pos (by omega)]
theorem sz3 (b : Nat) (h0 : 224 ≤ b) (h1 : b < 240) : szOf b = 3 := by unfold szOf; rw [if_neg (by omega), if_neg (by omega), if_neg (by omega), if_pos (by omega)]
theorem sz4 (b : Nat) (h0 : 240 ≤ b) (h1 : b < 248) : szOf b = 4 := by unfold szOf; rw [if_neg (by omega), if_neg (by omega), if_neg (by omega), if_neg (by omega), if_pos (by omega)]
theorem sz0 (b : Nat) (h : (128 ≤ b ∧ b < 192) ∨ 248 ≤ b) : szOf b = 0 := by
 unfold szOf
 rcases h with h | h
 ·rw [if_neg (by omega), if_pos (by omega)]
 ·rw [if_neg (by omega), if_neg (by omega), if_neg (by omega), if_neg (by omega), if_neg (by omega)]
theorem c2 (b : Nat) (h0 : 192 ≤ b) (h1 : b < 224) : cOf b = b % 32 := by unfold cOf; rw [if_neg (by omega), if_pos (by omega)]
theorem c3 (b : Nat) (h0 : 224 ≤ b) (h1 : b < 240) : cOf b = b % 16 := by unfold cOf; rw [if_neg (by omega), if_neg (by omega), if_pos (by omega)]
theorem c4 (b : Nat) (h0 : 240 ≤ b) (h1 : b < 248) : cOf b = b % 8 := by unfold cOf; rw [if_neg (by omega), if_neg (by omega), if_neg (by omega)]
theorem sg1_one (l : List UInt8) (h0 : 0 < l.length) (h : szOf l[0].toNat = 1) : sg1 l = ((l[0].toNat : Int), 1) := by
 cases l with
 | nil => simp at h0
 | cons b r => simp only [List.getElem_cons_zero] at h ⊢; unfold sg1; simp only; rw [if_pos h]
theorem sg1_zero (l : List UInt8) (h0 : 0 < l.length) (h : szOf l[0].toNat = 0) : sg1 l = (0, 0) := by
 cases l with
 | nil => simp at h0
 | cons b r => simp only [List.getElem_cons_zero] at h; unfold sg1; simp only; rw [if_neg (by omega), if_pos (.inl h)]
theorem sg1_short (l : List UInt8) (n : Nat) (h0 : 0 < l.length) (h : szOf l[0].toNat = n) (hn : n ≠ 1) (hl : l.length < n) : sg1 l = (0, 0) := by
 cases l with
 | nil => simp at h0
 | cons b r => simp only [List.getElem_cons_zero] at h; unfold sg1; simp only; rw [if_neg (by omega), if_pos (.inr (by omega))]
theorem sg1_bad (l : List UInt8) (n : Nat) (h0 : 0 < l.length) (h : szOf l[0].toNat = n) (hn : n ≠ 1) (hb : ¬ ∀ x ∈ (l.drop 1).take (n - 1), isCont x = true) : sg1 l = (0, 0) := by
 cases l with
 | nil => simp at h0
 | cons b r =>
  simp only [List.getElem_cons_zero] at h
  simp only [List.drop_succ_cons, List.drop_zero] at hb
  unfold sg1
  simp only
  rw [if_neg (by omega), h]
  by_cases c : n = 0 ∨ (b :: r).length < n
  ·rw [if_pos c]
  ·rw [if_neg c, if_neg hb]
theorem sg1_good (l : List UInt8) (n : Nat) (h0 : 0 < l.length) (h : szOf l[0].toNat = n) (hn : n ≠ 1) (hz : n ≠ 0) (hl : n ≤ l.length) (hb : ∀ x ∈ (l.drop 1).take (n - 1), isCont x = true) :
  sg1 l = if leastN n ≤ cont (cOf l[0].toNat) ((l.drop 1).take (n - 1)) ∧ isSgn (cont (cOf l[0].toNat) ((l.drop 1).take (n - 1))) = true then ((cont (cOf l[0].toNat) ((l.drop 1).take (n - 1)) : Int), n) else (0, 0) := by
 cases l with
 | nil => simp at h0
 | cons b r =>
  simp only [List.getElem_cons_zero] at h ⊢
  simp only [List.drop_succ_cons, List.drop_zero] at hb ⊢
  unfold sg1
  simp only
  rw [if_neg (by omega), h, if_neg (by omega), if_pos hb]
end Go.Proofs.Ytlkfabkkjfmnmaa
