/- The text of a record of the journal, plain: the reference's way of reading, by places. -/
import Derived.Test.YtbokgbbdjcpgbaaTxnF
namespace Go.Proofs.Ytbokgbbdjcpgbaa
open Go.RowKit

/-- So many numbers from a place on. -/
def varsF (s : List UInt8) : Nat → Int → List Int → List Int × Int
  | 0, p, out => (out, p)
  | n + 1, p, out => if p < 0 ∨ (s.length : Int) < p then (out, -1) else if (rdVar (s.drop p.toNat)).2 = 0 then (out, -1) else varsF s n (p + (rdVar (s.drop p.toNat)).2) (out ++ [((rdVar (s.drop p.toNat)).1 : Int)])
def takeP (s : List UInt8) (p : Int) : List UInt8 × Int :=
  if (varsF s 1 p []).2 < 0 ∨ (s.length : Int) - (varsF s 1 p []).2 < (varsF s 1 p []).1.getD 0 0 then ([], -1)
  else ((s.drop (varsF s 1 p []).2.toNat).take ((varsF s 1 p []).1.getD 0 0).toNat, (varsF s 1 p []).2 + (varsF s 1 p []).1.getD 0 0)
def loopS (s : List UInt8) : Nat → Int → OutL → Option OutL
  | 0, _, out => some out
  | n + 1, p, out => if (takeP s (varsF s 1 p []).2).2 < 0 then none else loopS s n (takeP s (varsF s 1 p []).2).2 (out ++ [((varsF s 1 p []).1.getD 0 0, ⟨(takeP s (varsF s 1 p []).2).1.toArray⟩)])
def parseS (s : List UInt8) : Option (Int × OutL) :=
  if (varsF s 2 5 []).2 < 0 ∨ 17 < (varsF s 2 5 []).1.getD 1 0 then none
  else (loopS s ((varsF s 2 5 []).1.getD 1 0).toNat (varsF s 2 5 []).2 []).map (fun l => ((varsF s 2 5 []).1.getD 0 0, l))

theorem varsF_len (s : List UInt8) : ∀ (n : Nat) (p : Int) (out : List Int), (0 ≤ (varsF s n p out).2 → (varsF s n p out).1.length = out.length + n) ∧ out.length ≤ (varsF s n p out).1.length ∧ (varsF s n p out).1.length ≤ out.length + n := by
  intro n
  induction n with
  | zero => intro p out; simp [varsF]
  | succ n ih =>
    intro p out
    rw [varsF]
    split
    · simp
    · split
      · simp
      · have := ih (p + (rdVar (s.drop p.toNat)).2) (out ++ [((rdVar (s.drop p.toNat)).1 : Int)])
        simp only [List.length_append, List.length_cons, List.length_nil] at this
        omega
theorem rdVar_le (l : List UInt8) : (rdVar l).2 ≤ l.length ∧ (rdVar l).1 ≤ 562949953421311 := by
  by_cases h : (rdVar l).2 = 0
  · rw [rdVar_zero l h]; simp
  · have := rdVar_sound l h
    exact ⟨this.2.2, this.2.1⟩
theorem varsF_le (s : List UInt8) : ∀ (n : Nat) (p : Int) (out : List Int), p ≤ (s.length : Int) → -1 ≤ p → -1 ≤ (varsF s n p out).2 ∧ (varsF s n p out).2 ≤ (s.length : Int) := by
  intro n
  induction n with
  | zero => intro p out h h2; simp only [varsF]; omega
  | succ n ih =>
    intro p out h h2
    rw [varsF]
    split
    · dsimp only; omega
    · split
      · dsimp only; omega
      · refine ih _ _ ?_ (by omega)
        have := (rdVar_le (s.drop p.toNat)).1
        rw [List.length_drop] at this
        omega
theorem varsF_le5 (s : List UInt8) (n : Nat) (p : Int) (out : List Int) (h2 : -1 ≤ p) : (varsF s (n + 1) p out).2 ≤ (s.length : Int) ∧ -1 ≤ (varsF s (n + 1) p out).2 := by
  by_cases h : p ≤ (s.length : Int)
  · have := varsF_le s (n + 1) p out h h2
    omega
  · rw [varsF, if_pos (by omega)]
    dsimp only
    omega
theorem varsF_num (s : List UInt8) : ∀ (n : Nat) (p : Int) (out : List Int), (∀ x ∈ out, 0 ≤ x ∧ x ≤ 562949953421311) → ∀ x ∈ (varsF s n p out).1, 0 ≤ x ∧ x ≤ 562949953421311 := by
  intro n
  induction n with
  | zero => intro p out h; simpa [varsF] using h
  | succ n ih =>
    intro p out h
    rw [varsF]
    split
    · exact h
    · split
      · exact h
      · refine ih _ _ fun x hx => ?_
        rcases List.mem_append.1 hx with hx | hx
        · exact h x hx
        · obtain rfl : x = ((rdVar (s.drop p.toNat)).1 : Int) := by simpa using hx
          have := (rdVar_le (s.drop p.toNat)).2
          omega

theorem varsF_hit (pre r : List UInt8) (q : Nat) (hq : q ≤ 562949953421311) (m : Nat) (out : List Int) :
    varsF (pre ++ (varV q ++ r)) (m + 1) (pre.length : Int) out = varsF (pre ++ varV q ++ r) m ((pre ++ varV q).length : Int) (out ++ [(q : Int)]) := by
  have e : (pre ++ (varV q ++ r)).drop (pre.length : Int).toNat = varL q ++ r := by simp [varV_yes q hq]
  have e2 := rdVar_varL q hq r
  have h0 : (varL q).length ≠ 0 := fun c => varL_ne q (List.eq_nil_of_length_eq_zero c)
  rw [varsF, if_neg (by simp; omega), e, e2]
  simp only
  rw [if_neg h0, List.append_assoc]
  congr 1
  rw [varV_yes q hq]
  simp
theorem vars1_hit (pre r : List UInt8) (q : Nat) (hq : q ≤ 562949953421311) : varsF (pre ++ (varV q ++ r)) 1 (pre.length : Int) [] = ([(q : Int)], ((pre ++ varV q).length : Int)) := by
  rw [varsF_hit pre r q hq 0 []]
  rfl
theorem takeP_hit (pre r : List UInt8) (t : ByteArray) (ht : t.size ≤ 562949953421311) : takeP (pre ++ (pieceL t ++ r)) (pre.length : Int) = (t.data.toList, ((pre ++ pieceL t).length : Int)) := by
  have e : pre ++ (pieceL t ++ r) = pre ++ (varV t.size ++ (t.data.toList ++ r)) := by simp [pieceL, List.append_assoc]
  have hl := data_len t
  unfold takeP
  rw [e, vars1_hit pre (t.data.toList ++ r) t.size ht]
  simp only [List.getD_cons_zero]
  rw [if_neg (by simp only [List.length_append]; omega)]
  have e2 : pre ++ (varV t.size ++ (t.data.toList ++ r)) = (pre ++ varV t.size) ++ (t.data.toList ++ r) := by simp [List.append_assoc]
  rw [e2]
  simp only [Int.toNat_natCast]
  rw [List.drop_left, ← hl, List.take_left]
  refine Prod.ext rfl ?_
  simp only [pieceL, List.length_append, hl]
  omega
theorem loopS_hit (r : List UInt8) : ∀ (l : OutL), (∀ x ∈ l, 0 ≤ x.1 ∧ x.1 ≤ 16 ∧ x.2.size ≤ 400) → ∀ (pre : List UInt8) (out : OutL), loopS (pre ++ (l.flatMap outL ++ r)) l.length (pre.length : Int) out = some (out ++ l) := by
  intro l
  induction l with
  | nil => intro _ pre out; simp [loopS]
  | cons x l ih =>
    intro hl pre out
    have hx := hl x List.mem_cons_self
    obtain ⟨q, hq⟩ := Int.eq_ofNat_of_zero_le hx.1
    have e1 : pre ++ ((x :: l).flatMap outL ++ r) = pre ++ (varV q ++ (pieceL x.2 ++ (l.flatMap outL ++ r))) := by simp [outL, hq, List.append_assoc]
    have e2 : pre ++ (varV q ++ (pieceL x.2 ++ (l.flatMap outL ++ r))) = (pre ++ varV q) ++ (pieceL x.2 ++ (l.flatMap outL ++ r)) := by simp [List.append_assoc]
    rw [List.length_cons, loopS, e1, vars1_hit pre _ q (by omega)]
    simp only
    rw [e2, takeP_hit (pre ++ varV q) _ x.2 (by omega)]
    simp only
    rw [if_neg (by omega)]
    have e3 : (pre ++ varV q) ++ (pieceL x.2 ++ (l.flatMap outL ++ r)) = (pre ++ varV q ++ pieceL x.2) ++ (l.flatMap outL ++ r) := by simp [List.append_assoc]
    rw [e3, ih (fun y hy => hl y (List.mem_cons_of_mem _ hy)) (pre ++ varV q ++ pieceL x.2)]
    simp only [List.getD_cons_zero, Option.some.injEq, List.append_assoc, List.cons_append, List.nil_append]
    congr 2
    rw [← hq, ba_self]
theorem parseS_show (seq : Int) (l : OutL) (h : showL seq l ≠ []) : parseS (showL seq l) = some (seq, l) := by
  unfold showL at h ⊢
  by_cases c : txnB seq l = true ∧ (bodyL seq l).length + 4 ≤ 4000
  · rw [if_pos c] at h ⊢
    obtain ⟨h1, h2, h3⟩ := (txnB_iff _ _).1 c.1
    obtain ⟨q, rfl⟩ := Int.eq_ofNat_of_zero_le (show 0 ≤ seq by omega)
    have hO := upTo_out l h3
    have h4 := fixed4 (bodyL q l)
    have e1 : fixedL (crcF (bodyL q l)) 4 ++ bodyL q l = (fixedL (crcF (bodyL q l)) 4 ++ [116]) ++ (varV q ++ (varV l.length ++ l.flatMap outL)) := by
      conv => lhs; arg 2; unfold bodyL
      simp
    rw [e1]
    generalize fixedL (crcF (bodyL q l)) 4 = f at *
    have h5 : ((f ++ [116]).length : Int) = 5 := by simp [h4]
    have e2 : varsF ((f ++ [116]) ++ (varV q ++ (varV l.length ++ l.flatMap outL))) 2 5 [] = ([(q : Int), (l.length : Int)], (((f ++ [116]) ++ varV q ++ varV l.length).length : Int)) := by
      rw [← h5, varsF_hit (f ++ [116]) _ q (by omega) 1 [], varsF_hit (f ++ [116] ++ varV q) _ l.length (by omega) 0]
      rfl
    unfold parseS
    rw [e2]
    simp only [List.getD_cons_zero, List.getD_cons_succ, Int.toNat_natCast]
    rw [if_neg (by omega)]
    have e3 : (f ++ [116]) ++ (varV q ++ (varV l.length ++ l.flatMap outL)) = ((f ++ [116]) ++ varV q ++ varV l.length) ++ (l.flatMap outL ++ []) := by simp [List.append_assoc]
    rw [e3, loopS_hit [] l hO]
    simp
  · rw [if_neg c] at h
    exact absurd rfl h
theorem readT_parse_none (s : List UInt8) (h : parseS s = none) : readT s = none := by
  cases e : readT s with
  | none => rfl
  | some x =>
    obtain ⟨h1, h2⟩ := (readT_iff s x).1 e
    rw [← h2] at h1 h
    rw [parseS_show _ _ h1] at h
    cases h
theorem readT_parse_ne (s : List UInt8) (x : Int × OutL) (h : parseS s = some x) (hn : showL x.1 x.2 ≠ s) : readT s = none := by
  cases e : readT s with
  | none => rfl
  | some y =>
    obtain ⟨h1, h2⟩ := (readT_iff s y).1 e
    have h3 := h1
    rw [← h2] at h3
    have := parseS_show _ _ h3
    rw [h2, h] at this
    cases this
    exact absurd h2 hn
theorem parseS_nil : parseS [] = none := by unfold parseS; rw [if_pos (.inl (by simp [varsF]))]
theorem readT_parse_hit (s : List UInt8) (x : Int × OutL) (h : parseS s = some x) (hn : showL x.1 x.2 = s) : readT s = some x :=
  readT_hit s x (fun c => by rw [c, parseS_nil] at h; cases h) hn
theorem showL_len (seq : Int) (l : OutL) : (showL seq l).length ≤ 4000 := by
  unfold showL
  split
  · rename_i c
    rw [List.length_append, fixed4]
    omega
  · simp
theorem readT_long (s : List UInt8) (h : 4000 < s.length) : readT s = none := by
  cases e : readT s with
  | none => rfl
  | some x =>
    obtain ⟨h1, h2⟩ := (readT_iff s x).1 e
    have := showL_len x.1 x.2
    rw [h2] at this
    omega
end Go.Proofs.Ytbokgbbdjcpgbaa
