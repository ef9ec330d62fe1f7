/- One text of Rd Hex Unhex Rv NumF ReadVar VolP. (Printed by merge.py.) -/
import Derived.Test.YtlkfabkkjfmnmaaDoorDec
import Derived.Test.YtlkfabkkjfmnmaaDoorIn
import Derived.Test.YtlkfabkkjfmnmaaDoorNum
import Derived.Test.YtlkfabkkjfmnmaaDoorFixed2
import Derived.Test.YtlkfabkkjfmnmaaDoorVar
import Derived.Test.YtlkfabkkjfmnmaaDoorCrcF
import Derived.Test.YtlkfabkkjfmnmaaDoorInts
import Derived.Test.YtlkfabkkjfmnmaaDoorStrs
import Derived.Test.YtlkfabkkjfmnmaaDoorMore
import Derived.Test.YtlkfabkkjfmnmaaDoorCrc
namespace Go.Proofs.YtlkfabkkjfmnmaaDoor
open Go.RowKit

def isDig (b : UInt8) : Bool := decide (48 ≤ b.toNat) && decide (b.toNat ≤ 57)
/-- The number of digits. -/
def dval (l : List UInt8) : Nat := l.foldl (fun a b => 10 * a + (b.toNat - 48)) 0
theorem dval_snoc (l : List UInt8) (b : UInt8) : dval (l ++ [b]) = 10 * dval l + (b.toNat - 48) := by simp [dval]
theorem dval_lt (l : List UInt8) (h : ∀ b ∈ l, isDig b = true) : dval l < 10 ^ l.length := by
  suffices H : ∀ r : List UInt8, (∀ b ∈ r, isDig b = true) → dval r.reverse < 10 ^ r.length by
    have := H l.reverse (by simpa using h)
    simpa using this
  intro r
  induction r with
  | nil => intro _; decide
  | cons b r ih =>
    intro hr
    rw [List.reverse_cons, dval_snoc, List.length_cons, Nat.pow_succ]
    have h1 := ih (fun x hx => hr x (List.mem_cons_of_mem _ hx))
    have h2 := hr b (List.mem_cons_self ..)
    simp only [isDig, Bool.and_eq_true, decide_eq_true_eq] at h2
    omega
/-- Where the digits begin. -/
def datAt (l : List UInt8) : Nat := if l.head? = some 45 then 1 else 0
def dnum (l : List UInt8) : Int := if l.head? = some 45 then -(dval (l.drop 1) : Int) else (dval l : Int)
/-- What ReadDec comes to. -/
def rdOk (l : List UInt8) : Prop := 1 ≤ l.length - datAt l ∧ l.length - datAt l ≤ 9 ∧ (∀ b ∈ l.drop (datAt l), isDig b = true) ∧ decL (dnum l) = l
open Classical in
noncomputable def rdDecV (l : List UInt8) : Value := if rdOk l then .tuple #[.int .i64 (dnum l), .bool true] else .tuple #[.int .i64 0, .bool false]

/-- The reference's way: over all bytes, those that are digits. -/
def sval (l : List UInt8) : Nat := l.foldl (fun a b => if isDig b then 10 * a + (b.toNat - 48) else a) 0
def scnt (l : List UInt8) : Nat := l.countP isDig
theorem sval_snoc (l : List UInt8) (b : UInt8) : sval (l ++ [b]) = if isDig b then 10 * sval l + (b.toNat - 48) else sval l := by simp [sval]
theorem scnt_snoc (l : List UInt8) (b : UInt8) : scnt (l ++ [b]) = scnt l + if isDig b then 1 else 0 := by simp [scnt, List.countP_append, List.countP_cons]
theorem sval_digs (l : List UInt8) (h : ∀ b ∈ l, isDig b = true) : sval l = dval l ∧ scnt l = l.length := by
  suffices H : ∀ r : List UInt8, (∀ b ∈ r, isDig b = true) → sval r.reverse = dval r.reverse ∧ scnt r.reverse = r.reverse.length by
    have := H l.reverse (by simpa using h)
    simpa using this
  intro r
  induction r with
  | nil => intro _; exact ⟨rfl, rfl⟩
  | cons b r ih =>
    intro hr
    have h1 := ih (fun x hx => hr x (List.mem_cons_of_mem _ hx))
    have h2 := hr b (List.mem_cons_self ..)
    rw [List.reverse_cons, sval_snoc, dval_snoc, scnt_snoc, if_pos h2, if_pos h2, h1.1, h1.2]
    exact ⟨rfl, by simp⟩
theorem sval_lt (l : List UInt8) : sval l < 10 ^ l.length := by
  suffices H : ∀ r : List UInt8, sval r.reverse < 10 ^ r.length by have := H l.reverse; simpa using this
  intro r
  induction r with
  | nil => decide
  | cons b r ih =>
    rw [List.reverse_cons, sval_snoc, List.length_cons, Nat.pow_succ]
    split
    · rename_i h
      simp only [isDig, Bool.and_eq_true, decide_eq_true_eq] at h
      omega
    · omega
theorem scnt_le (l : List UInt8) : scnt l ≤ l.length := List.countP_le_length
/-- The reference's number. -/
def snum (l : List UInt8) : Int := if l.head? = some 45 then -(sval (l.take 11) : Int) else (sval (l.take 11) : Int)

theorem dig10_dig (m : Nat) : isDig (dig10 m) = true := by
  have : (dig10 m).toNat = 48 + m % 10 := by unfold dig10; rw [UInt8.toNat_ofNat']; omega
  simp only [isDig, this, Bool.and_eq_true, decide_eq_true_eq]
  omega
theorem rdec_dig (m : Nat) : ∀ b ∈ rdec m, isDig b = true := by
  induction m using Nat.strongRecOn with
  | _ m ih =>
    by_cases h : m = 0
    · rw [h, rdec_zero]; simp
    · rw [rdec_pos (by omega)]
      intro b hb
      rcases List.mem_cons.1 hb with rfl | hb
      · exact dig10_dig m
      · exact ih (m / 10) (by omega) b hb
/-- A text that Dec makes: a sign, or none, and digits. -/
theorem decL_shape (n : Int) : ∃ ds : List UInt8, ds ≠ [] ∧ (∀ b ∈ ds, isDig b = true) ∧ decL n = (if n < 0 then [45] else []) ++ ds := by
  unfold decL
  by_cases h : n = 0
  · rw [if_pos h]
    exact ⟨[48], by simp, by decide, by rw [if_neg (by omega)]; rfl⟩
  · rw [if_neg h]
    refine ⟨(rdec n.natAbs).reverse, ?_, ?_, rfl⟩
    · rw [rdec_pos (by omega)]; simp
    · intro b hb
      exact rdec_dig _ b (List.mem_reverse.1 hb)
theorem isDig_45 : isDig 45 = false := by decide

theorem head_dig {ds : List UInt8} (h : ds ≠ []) (hd : ∀ b ∈ ds, isDig b = true) : ds.head? ≠ some 45 := by
  intro e
  cases ds with
  | nil => exact h rfl
  | cons b r =>
    simp only [List.head?_cons, Option.some.injEq] at e
    have := hd b (List.mem_cons_self ..)
    rw [e, isDig_45] at this
    cases this

/-- Where the text is a sign, or none, and at most 9 digits, both numbers are one. -/
theorem snum_eq (l ds : List UInt8) (sg : Bool) (hd : ∀ b ∈ ds, isDig b = true) (hne : ds ≠ []) (hl : l = (if sg then [45] else []) ++ ds) (h9 : ds.length ≤ 9) :
    snum l = dnum l ∧ scnt (l.take 11) = ds.length ∧ datAt l = (if sg then 1 else 0) ∧ l.drop (datAt l) = ds := by
  have hlen : l.length ≤ 10 := by rw [hl]; cases sg <;> simp <;> omega
  have ht : l.take 11 = l := List.take_of_length_le (by omega)
  obtain ⟨h1, h2⟩ := sval_digs ds hd
  cases sg with
  | true =>
    have hl' : l = 45 :: ds := by rw [hl]; rfl
    subst hl'
    have hs : sval (45 :: ds) = sval ds := by
      simp [sval, isDig_45]
    have hc : scnt (45 :: ds) = scnt ds := by simp [scnt, List.countP_cons, isDig_45]
    refine ⟨?_, ?_, rfl, rfl⟩
    · unfold snum dnum
      rw [ht]
      simp only [List.head?_cons, if_true, hs, h1, List.drop_succ_cons, List.drop_zero]
    · rw [ht, hc, h2]
  | false =>
    have hl' : l = ds := by rw [hl]; rfl
    subst hl'
    have hh := head_dig hne hd
    refine ⟨?_, by rw [ht, h2], by unfold datAt; rw [if_neg hh]; rfl, by unfold datAt; rw [if_neg hh]; rfl⟩
    unfold snum dnum
    rw [ht, if_neg hh, if_neg hh, h1]

theorem rdOk_spec (l : List UInt8) : rdOk l ↔ (scnt (l.take 11) ≤ 9 ∧ l.length ≤ 10 ∧ decL (snum l) = l) := by
  constructor
  · rintro ⟨h1, h2, h3, h4⟩
    have hsg : ∃ sg : Bool, datAt l = (if sg then 1 else 0) ∧ l = (if sg then [45] else []) ++ l.drop (datAt l) := by
      unfold datAt at *
      by_cases hh : l.head? = some 45
      · refine ⟨true, by rw [if_pos hh]; rfl, ?_⟩
        rw [if_pos hh]
        cases l with
        | nil => simp at hh
        | cons b r => simp at hh; subst hh; rfl
      · exact ⟨false, by rw [if_neg hh]; rfl, by rw [if_neg hh]; simp⟩
    obtain ⟨sg, hat, hl⟩ := hsg
    have hlen : (l.drop (datAt l)).length = l.length - datAt l := by simp
    obtain ⟨e1, e2, _, _⟩ := snum_eq l (l.drop (datAt l)) sg h3 (by intro e; rw [e] at hlen; simp at hlen; omega) hl (by omega)
    refine ⟨by rw [e2]; omega, ?_, by rw [e1]; exact h4⟩
    rw [hat] at h2
    cases sg <;> simp at h2 <;> omega
  · rintro ⟨h1, h2, h3⟩
    obtain ⟨ds, hne, hd, hl⟩ := decL_shape (snum l)
    rw [h3] at hl
    have h9 : ds.length ≤ 9 := by
      have ht : l.take 11 = l := List.take_of_length_le (by omega)
      rw [ht] at h1
      have : scnt l = scnt ds := by
        rw [hl]
        split <;> simp [scnt, List.countP_append, List.countP_cons, isDig_45]
      rw [this, (sval_digs ds hd).2] at h1
      exact h1
    obtain ⟨e1, e2, e3, e4⟩ := snum_eq l ds (decide (snum l < 0)) hd hne (by simp only [decide_eq_true_eq]; exact hl) h9
    have hpos : 0 < ds.length := List.length_pos_iff.2 hne
    have hlen : (l.drop (datAt l)).length = l.length - datAt l := by simp
    rw [e4] at hlen
    exact ⟨by omega, by omega, by rw [e4]; exact hd, by rw [← e1]; exact h3⟩
theorem rdOk_num (l : List UInt8) (h : rdOk l) : snum l = dnum l := by
  obtain ⟨h1, h2, h3, h4⟩ := h
  have hsg : ∃ sg : Bool, datAt l = (if sg then 1 else 0) ∧ l = (if sg then [45] else []) ++ l.drop (datAt l) := by
    unfold datAt at *
    by_cases hh : l.head? = some 45
    · refine ⟨true, by rw [if_pos hh]; rfl, ?_⟩
      rw [if_pos hh]
      cases l with
      | nil => simp at hh
      | cons b r => simp at hh; subst hh; rfl
    · exact ⟨false, by rw [if_neg hh]; rfl, by rw [if_neg hh]; simp⟩
  obtain ⟨sg, hat, hl⟩ := hsg
  have hlen : (l.drop (datAt l)).length = l.length - datAt l := by simp
  exact (snum_eq l (l.drop (datAt l)) sg h3 (by intro e; rw [e] at hlen; simp at hlen; omega) hl (by omega)).1
open Classical in
theorem rdDecV_spec (l : List UInt8) : rdDecV l = if scnt (l.take 11) ≤ 9 ∧ l.length ≤ 10 ∧ decL (snum l) = l then .tuple #[.int .i64 (snum l), .bool true] else .tuple #[.int .i64 0, .bool false] := by
  unfold rdDecV
  by_cases h : rdOk l
  · rw [if_pos h, if_pos ((rdOk_spec l).1 h), rdOk_num l h]
  · rw [if_neg h, if_neg (fun c => h ((rdOk_spec l).2 c))]
/-- A digit of base 16, as a byte. -/
def dg (k : Nat) : UInt8 := if k < 10 then UInt8.ofNat (48 + k) else UInt8.ofNat (87 + k)
def hexL (bs : List UInt8) : List UInt8 := bs.flatMap fun b => [dg (b.toNat / 16), dg (b.toNat % 16)]
theorem hexL_length (bs : List UInt8) : (hexL bs).length = 2 * bs.length := by
  induction bs with
  | nil => rfl
  | cons b bs ih => simp only [hexL, List.flatMap_cons, List.length_append, List.length_cons, List.length_nil] at *; omega
theorem hexL_snoc (s : ByteArray) (k : Nat) (h : k < s.size) : hexL (s.data.toList.take (k + 1)) = hexL (s.data.toList.take k) ++ [dg (s[k].toNat / 16), dg (s[k].toNat % 16)] := by
  rw [List.take_succ_eq_append_getElem (by simpa using h)]
  simp only [hexL, List.flatMap_append, List.flatMap_cons, List.flatMap_nil, List.append_nil]
  rfl

def digits : Array UInt8 := #[48, 49, 50, 51, 52, 53, 54, 55, 56, 57, 97, 98, 99, 100, 101, 102]
theorem dig_fin : ∀ n : Fin 16, (⟨digits⟩ : ByteArray)[n.val]'n.isLt = dg n.val := by decide
theorem dig_at (x : Int) (h0 : 0 ≤ x) (h1 : x < 16) : (⟨digits⟩ : ByteArray)[x.toNat]'(by show _ < 16; omega) = dg x.toNat := dig_fin ⟨x.toNat, by omega⟩

/-- What a digit of base 16 stands for; -1 where it is none. -/
def hexV (b : Int) : Int := if 48 ≤ b ∧ b ≤ 57 then b - 48 else if 97 ≤ b ∧ b ≤ 102 then b - 87 else -1
theorem hexV_lo (b : Int) : -1 ≤ hexV b := by unfold hexV; split <;> (try split) <;> omega
theorem hexV_hi (b : Int) : hexV b ≤ 15 := by unfold hexV; split <;> (try split) <;> omega

theorem dg_hexV_fin : ∀ k : Fin 16, hexV ((dg k.val).toNat : Int) = k.val := by decide
theorem dg_hexV (k : Nat) (h : k < 16) : hexV ((dg k).toNat : Int) = k := dg_hexV_fin ⟨k, h⟩
theorem hexV_none (b : Int) (h : ∀ j, j < 16 → ((dg j).toNat : Int) ≠ b) : hexV b = -1 := by
  unfold hexV
  split
  · exfalso
    refine h (b - 48).toNat (by omega) ?_
    have : (dg (b - 48).toNat) = UInt8.ofNat (48 + (b - 48).toNat) := by unfold dg; rw [if_pos (by omega)]
    rw [this, UInt8.toNat_ofNat']
    omega
  · split
    · exfalso
      refine h (b - 87).toNat (by omega) ?_
      have : (dg (b - 87).toNat) = UInt8.ofNat (87 + (b - 87).toNat) := by unfold dg; rw [if_neg (by omega)]
      rw [this, UInt8.toNat_ofNat']
      omega
    · rfl

/-- The byte of two digits. -/
def hb2 (a b : UInt8) : UInt8 := UInt8.ofNat (hexV a.toNat * 16 + hexV b.toNat).toNat
def unhexL : List UInt8 → Option (List UInt8)
  | [] => some []
  | [_] => none
  | a :: b :: r => if hexV a.toNat < 0 ∨ hexV b.toNat < 0 then none else (unhexL r).map (hb2 a b :: ·)
theorem unhexL_odd : ∀ l : List UInt8, l.length % 2 = 1 → unhexL l = none
  | [], h => by simp at h
  | [_], _ => rfl
  | a :: b :: r, h => by
    have := unhexL_odd r (by simp only [List.length_cons] at h; omega)
    unfold unhexL
    rw [this]
    split <;> rfl
/-- What Unhex comes to. -/
def unhexV (l : List UInt8) : Value := match unhexL l with
  | some r => .tuple #[.string ⟨r.toArray⟩, .bool true]
  | none => .tuple #[.string ⟨#[]⟩, .bool false]
theorem drop_two (s : ByteArray) (j : Nat) (h : j + 1 < s.size) : s.data.toList.drop j = s[j] :: s[j + 1] :: s.data.toList.drop (j + 2) := by
  rw [List.drop_eq_getElem_cons (by simp; omega), List.drop_eq_getElem_cons (by simp; omega)]
  rfl

/-- A draw ahead. -/
theorem _root_.Go.RowKit.Below.drewL {B : Nat} {w w' : World} (h : Below B w.drew w') : Below B w w' := ⟨h.os, h.tape, h.output, h.size, h.block⟩

/-- The number that bytes make, seven bits a byte, the lowest first. -/
def rv (l : List UInt8) : Nat := l.foldr (fun b a => b.toNat % 128 + 128 * a) 0
theorem rv_cons (b : UInt8) (l : List UInt8) : rv (b :: l) = b.toNat % 128 + 128 * rv l := rfl
theorem rv_snoc (l : List UInt8) (b : UInt8) : rv (l ++ [b]) = rv l + b.toNat % 128 * 128 ^ l.length := by
  induction l with
  | nil => simp [rv]
  | cons a l ih =>
    rw [List.cons_append, rv_cons, rv_cons, ih, List.length_cons, Nat.pow_succ, Nat.mul_add, Nat.add_assoc]
    congr 2
    rw [Nat.mul_left_comm, Nat.mul_comm 128 (128 ^ l.length)]
theorem rv_lt (l : List UInt8) : rv l < 128 ^ l.length := by
  induction l with
  | nil => decide
  | cons a l ih =>
    rw [rv_cons, List.length_cons, Nat.pow_succ]
    have := Nat.mod_lt a.toNat (show 0 < 128 by decide)
    omega
theorem rv_take_lt (l : List UInt8) (k : Nat) (h : k ≤ 7) : rv (l.take k) < 562949953421312 := by
  have h1 := rv_lt (l.take k)
  have h2 : (l.take k).length ≤ 7 := by rw [List.length_take]; omega
  exact Nat.lt_of_lt_of_le h1 (pow_le_of 128 _ 7 h2 (by decide))

/-- What ReadVar comes to. -/
def rdVar (l : List UInt8) : Nat × Nat :=
  let i := l.findIdx (fun b => decide (b.toNat < 128))
  if i < 7 ∧ i < l.length ∧ varL (rv (l.take (i + 1))) = l.take (i + 1) then (rv (l.take (i + 1)), i + 1) else (0, 0)

theorem lo7_toNat (m : Nat) (h : m < 128) : (lo7 m).toNat = m := by unfold lo7; rw [UInt8.toNat_ofNat']; omega
theorem hi7_toNat (m : Nat) : (hi7 m).toNat = 128 + m % 128 := by unfold hi7; rw [UInt8.toNat_ofNat']; omega

theorem varL_shape (n : Nat) : ∃ pre c, varL n = pre ++ [c] ∧ c.toNat < 128 ∧ ∀ b ∈ pre, 128 ≤ b.toNat := by
  induction n using Nat.strongRecOn with
  | _ n ih =>
    by_cases h : n < 128
    · exact ⟨[], lo7 n, by rw [varL_lo h]; rfl, by rw [lo7_toNat n h]; exact h, by simp⟩
    · obtain ⟨pre, c, e, hc, hp⟩ := ih (n / 128) (by omega)
      refine ⟨hi7 n :: pre, c, by rw [varL_hi h, e]; rfl, hc, ?_⟩
      intro b hb
      rcases List.mem_cons.1 hb with rfl | hb
      · rw [hi7_toNat]; omega
      · exact hp b hb

theorem rdVar_hit (l : List UInt8) (k : Nat) (h1 : k < 7) (h2 : k < l.length) (h : varL (rv (l.take (k + 1))) = l.take (k + 1)) : rdVar l = (rv (l.take (k + 1)), k + 1) := by
  obtain ⟨pre, c, e, hc, hp⟩ := varL_shape (rv (l.take (k + 1)))
  have e2 : l.take (k + 1) = pre ++ [c] := h ▸ e
  have hl : pre.length = k := by have := congrArg List.length e2; simp at this; omega
  have hi : l.findIdx (fun b => decide (b.toNat < 128)) = k := by
    have e3 : l = (pre ++ [c]) ++ l.drop (k + 1) := by rw [← e2]; simp
    refine (List.findIdx_eq h2).2 ⟨?_, ?_⟩
    · have : l[k] = c := by
        have : l[k]? = some c := by rw [e3, List.getElem?_append_left (by simp; omega), List.getElem?_append_right (by omega), hl]; simp
        rw [List.getElem?_eq_getElem h2] at this
        exact Option.some.inj this
      rw [this]; simpa using hc
    · intro j hj
      have hjl : j < pre.length := by omega
      have : l[j]? = some pre[j] := by rw [e3, List.getElem?_append_left (by simp; omega), List.getElem?_append_left hjl, List.getElem?_eq_getElem hjl]
      rw [List.getElem?_eq_getElem (by omega)] at this
      rw [Option.some.inj this]
      have := hp pre[j] (List.getElem_mem _)
      simp; omega
  unfold rdVar
  simp only [hi]
  rw [if_pos ⟨h1, h2, h⟩]

theorem rdVar_miss (l : List UInt8) (h : ∀ k, k < 7 → k < l.length → varL (rv (l.take (k + 1))) ≠ l.take (k + 1)) : rdVar l = (0, 0) := by
  unfold rdVar
  rw [if_neg]
  rintro ⟨a, b, c⟩
  exact h _ a b c

/-- As the program goes: the first byte below 128 decides. -/
theorem rdVar_at (l : List UInt8) (k : Nat) (h1 : k < 7) (h2 : k < l.length) (hk : l[k].toNat < 128) (hlo : ∀ j (h : j < l.length), j < k → 128 ≤ l[j].toNat) :
    rdVar l = if varL (rv (l.take (k + 1))) = l.take (k + 1) then (rv (l.take (k + 1)), k + 1) else (0, 0) := by
  have hi : l.findIdx (fun b => decide (b.toNat < 128)) = k := by
    refine (List.findIdx_eq h2).2 ⟨by simpa using hk, ?_⟩
    intro j hj
    have := hlo j (by omega) hj
    simp; omega
  unfold rdVar
  simp only [hi]
  by_cases c : varL (rv (l.take (k + 1))) = l.take (k + 1)
  · rw [if_pos ⟨h1, h2, c⟩, if_pos c]
  · rw [if_neg (fun h => c h.2.2), if_neg c]
theorem rdVar_none (l : List UInt8) (k : Nat) (hk : 7 ≤ k ∨ l.length ≤ k) (hlo : ∀ j (h : j < l.length), j < k → 128 ≤ l[j].toNat) : rdVar l = (0, 0) := by
  unfold rdVar
  rw [if_neg]
  rintro ⟨a, b, c⟩
  have := List.findIdx_getElem (w := b)
  have h2 := hlo _ b (by omega)
  simp at this
  omega
theorem rv_varL (n : Nat) : rv (varL n) = n := by
  induction n using Nat.strongRecOn with
  | _ n ih =>
    by_cases h : n < 128
    · rw [varL_lo h, rv_cons, lo7_toNat n h]
      show n % 128 + 128 * 0 = n
      omega
    · rw [varL_hi h, rv_cons, ih (n / 128) (by omega), hi7_toNat]
      omega
/-- A number is read from its text, whatever stands behind. -/
theorem rdVar_varL (n : Nat) (h : n ≤ 562949953421311) (tail : List UInt8) : rdVar (varL n ++ tail) = (n, (varL n).length) := by
  obtain ⟨pre, c, e, hc, hp⟩ := varL_shape n
  have hl := varL_len7 n h
  have hk : (varL n).length = pre.length + 1 := by rw [e]; simp
  have ht : (varL n ++ tail).take (pre.length + 1) = varL n := by rw [← hk, List.take_left]
  have h1 := rdVar_hit (varL n ++ tail) pre.length (by omega) (by rw [List.length_append]; omega) (by rw [ht, rv_varL])
  rw [h1, ht, rv_varL, hk]
/-- No other text is read. -/
theorem rdVar_sound (l : List UInt8) (h : (rdVar l).2 ≠ 0) : varL (rdVar l).1 = l.take (rdVar l).2 ∧ (rdVar l).1 ≤ 562949953421311 ∧ (rdVar l).2 ≤ l.length := by
  unfold rdVar at h ⊢
  simp only at h ⊢
  split at h
  · rename_i hc
    rw [if_pos hc]
    refine ⟨hc.2.2, ?_, by have := hc.2.1; omega⟩
    have := rv_take_lt l (l.findIdx (fun b => decide (b.toNat < 128)) + 1) (by have := hc.1; omega)
    omega
  · exact absurd rfl h
theorem rdVar_zero (l : List UInt8) (h : (rdVar l).2 = 0) : rdVar l = (0, 0) := by
  unfold rdVar at h ⊢
  simp only at h ⊢
  split at h
  · simp at h
  · rename_i hc; rw [if_neg hc]
theorem rdVar_eq (l : List UInt8) : (rdVar l).2 ≤ 7 := by
  unfold rdVar
  simp only
  split
  · rename_i hc; have := hc.1; simp only; omega
  · exact Nat.zero_le _

theorem rdF_foldl (l : List UInt8) : ∀ a : Nat, l.foldl (fun a b => a * 256 + b.toNat) a = a * 256 ^ l.length + rdF l := by
  induction l with
  | nil => intro a; simp [rdF]
  | cons b l ih =>
    intro a
    have h0 := ih b.toNat
    rw [List.foldl_cons, ih, List.length_cons, Nat.pow_succ]
    unfold rdF at h0 ⊢
    rw [List.foldl_cons, Nat.zero_mul, Nat.zero_add, h0, Nat.add_mul, Nat.mul_assoc, Nat.mul_comm 256, Nat.add_assoc]
theorem rdF_lowBE (n k : Nat) : rdF (lowBE n k) = n % 256 ^ k := by
  induction k with
  | zero => simp [lowBE, rdF, Nat.mod_one]
  | succ k ih =>
    have h := rdF_foldl (lowBE n k) (UInt8.ofNat (n / 256 ^ k % 256)).toNat
    have e : rdF (lowBE n (k + 1)) = (lowBE n k).foldl (fun a b => a * 256 + b.toNat) (UInt8.ofNat (n / 256 ^ k % 256)).toNat := by
      simp only [rdF, lowBE, List.foldl_cons, Nat.zero_mul, Nat.zero_add]
    rw [e, h, ih, lowBE_length]
    have e2 : (UInt8.ofNat (n / 256 ^ k % 256)).toNat = n / 256 ^ k % 256 := by rw [UInt8.toNat_ofNat']; omega
    rw [e2, Nat.pow_succ, Nat.mod_mul, Nat.mul_comm, Nat.add_comm]

theorem dval_rdec (m : Nat) : dval (rdec m).reverse = m := by
  induction m using Nat.strongRecOn with
  | _ m ih =>
    by_cases h : m = 0
    · rw [h, rdec_zero]; rfl
    · rw [rdec_pos (by omega), List.reverse_cons, dval_snoc, ih (m / 10) (by omega)]
      have : (dig10 m).toNat = 48 + m % 10 := by unfold dig10; rw [UInt8.toNat_ofNat']; omega
      rw [this]
      omega
theorem rdec_rdig (m : Nat) : ∀ b ∈ (rdec m).reverse, isDig b = true := fun b hb => rdec_dig m b (List.mem_reverse.1 hb)
theorem dnum_decL (n : Int) : dnum (decL n) = n := by
  unfold decL
  by_cases h : n = 0
  · rw [if_pos h, h]; decide
  · rw [if_neg h]
    by_cases h2 : n < 0
    · rw [if_pos h2]
      unfold dnum
      simp only [List.cons_append, List.nil_append, List.head?_cons, if_true, List.drop_succ_cons, List.drop_zero, dval_rdec]
      omega
    · rw [if_neg h2, List.nil_append]
      have hne : (rdec n.natAbs).reverse ≠ [] := by rw [rdec_pos (by omega)]; simp
      unfold dnum
      rw [if_neg (head_dig hne (rdec_rdig _)), dval_rdec]
      omega
theorem rdOk_decL (n : Int) : rdOk (decL n) ↔ (-1000000000 < n ∧ n < 1000000000) := by
  unfold rdOk
  rw [dnum_decL]
  have hlen : ∀ m : Nat, m < 10 ^ (rdec m).length := fun m => by
    have := dval_lt (rdec m).reverse (rdec_rdig m)
    rwa [dval_rdec, List.length_reverse] at this
  by_cases h : n = 0
  · have e : decL n = [48] := by unfold decL; rw [if_pos h]
    rw [e, h]
    constructor
    · intro _; omega
    · intro _; exact ⟨by decide, by decide, by decide, by decide⟩
  · have hat : datAt (decL n) = if n < 0 then 1 else 0 := by
      unfold decL datAt
      rw [if_neg h]
      by_cases h2 : n < 0
      · rw [if_pos h2, if_pos h2]; rfl
      · rw [if_neg h2, if_neg h2, List.nil_append]
        have hne : (rdec n.natAbs).reverse ≠ [] := by rw [rdec_pos (by omega)]; simp
        rw [if_neg (head_dig hne (rdec_rdig _))]
    have hd : (decL n).drop (datAt (decL n)) = (rdec n.natAbs).reverse := by
      rw [hat]
      unfold decL
      rw [if_neg h]
      by_cases h2 : n < 0
      · rw [if_pos h2, if_pos h2]; rfl
      · rw [if_neg h2, if_neg h2]; rfl
    have hll : (decL n).length - datAt (decL n) = (rdec n.natAbs).length := by
      have := congrArg List.length hd
      rwa [List.length_drop, List.length_reverse] at this
    have h0 : 0 < (rdec n.natAbs).length := by rw [rdec_pos (by omega)]; simp
    rw [hll, hd]
    have h1 := hlen n.natAbs
    constructor
    · rintro ⟨_, h9, _, _⟩
      have h3 : 10 ^ (rdec n.natAbs).length ≤ 10 ^ 9 := pow_le_of 10 _ 9 h9 (by decide)
      omega
    · intro hb
      refine ⟨h0, rdec_len 9 n.natAbs (by omega), rdec_rdig _, rfl⟩
theorem rdDecV_decL (n : Int) : rdDecV (decL n) = if -1000000000 < n ∧ n < 1000000000 then .tuple #[.int .i64 n, .bool true] else .tuple #[.int .i64 0, .bool false] := by
  unfold rdDecV
  by_cases h : -1000000000 < n ∧ n < 1000000000
  · rw [if_pos ((rdOk_decL n).2 h), if_pos h, dnum_decL]
  · rw [if_neg (fun c => h ((rdOk_decL n).1 c)), if_neg h]

theorem unhexL_hexL : ∀ t : List UInt8, unhexL (hexL t) = some t
  | [] => rfl
  | b :: t => by
    have hb := b.toNat_lt
    have h1 := dg_hexV (b.toNat / 16) (by omega)
    have h2 := dg_hexV (b.toNat % 16) (by omega)
    have ih := unhexL_hexL t
    have e : hexL (b :: t) = dg (b.toNat / 16) :: dg (b.toNat % 16) :: hexL t := by simp [hexL]
    rw [e]
    unfold unhexL
    rw [h1, h2, if_neg (by omega), ih]
    simp only [Option.map_some]
    congr 2
    unfold hb2
    rw [h1, h2]
    have : ((((b.toNat / 16 : Nat) : Int) * 16 + ((b.toNat % 16 : Nat) : Int))).toNat = b.toNat := by omega
    rw [this]
    exact UInt8.ofNat_toNat
def rdVarV (l : List UInt8) : Value := .tuple #[.int .i64 ((rdVar l).1 : Int), .int .i64 ((rdVar l).2 : Int)]

theorem bcell {W w1 : World} (hb : Below W.heap.size W w1) : (∀ b o, b < W.heap.size → w1.cell? ⟨b, o, none⟩ = W.cell? ⟨b, o, none⟩) ∧ (∀ b o, b < W.heap.size → w1.frozen? ⟨b, o, none⟩ = W.frozen? ⟨b, o, none⟩) :=
  ⟨fun b o h => hb.cell (p := ⟨b, o, none⟩) h, fun b o h => hb.frozen (p := ⟨b, o, none⟩) h⟩
theorem row_mono1 {w : World} {B B' : Nat} {e : TypeId} {size : Nat} {v : Value} {n : Nat} {xs : List Value} (h : w.ownsRow B e size v n xs) (hB : B' ≤ B) : w.ownsRow B' e size v n xs := by
  refine ⟨h.1, ?_⟩
  rcases h.2 with hn | ⟨g, cap, cur, e1, hg, rest⟩
  · exact .inl hn
  · exact .inr ⟨g, cap, cur, e1, Nat.le_trans hB hg, rest⟩
theorem own_apart {w : World} {B B' e e' : Nat} {W0 W0' : World} {size size' n n' : Nat} {v v' : Value} {xs xs' : List Value} (h : Own e size B W0 v n xs w) (h' : Own e' size' B' W0' v' n' xs' w) (hne : e ≠ e') : ∀ k, v'.ownBlock = some k → v.ownBlock ≠ some k := by
  intro k hk hk'
  rcases h.row.2 with ⟨rfl, _⟩ | ⟨g, cap, cur, rfl, _, hg, _⟩
  · cases hk'
  · rcases h'.row.2 with ⟨rfl, _⟩ | ⟨g', cap', cur', rfl, _, hg', _⟩
    · cases hk
    · cases hk; cases hk'
      rw [hg] at hg'
      simp only [Option.some.injEq, Obj.cells.injEq] at hg'
      exact hne hg'.2.1
theorem setCell_grownD (w : World) (g j : Nat) (u : Value) : w.grownBy (w.setCell ⟨g, j, none⟩ u) (some g) :=
  ⟨rfl, rfl, rfl, by simp [World.setCell], fun k _ hk => heap_setCell_other w ⟨g, j, none⟩ k u (fun e => hk (by simp [e]))⟩
theorem Own.setFar {e : TypeId} {size B : Nat} {W0 w : World} {v : Value} {n : Nat} {xs : List Value} (h : Own e size B W0 v n xs w) (b j : Nat) (u : Value) (hne : ∀ k, v.ownBlock = some k → k ≠ b) : Own e size B (w.setCell ⟨b, j, none⟩ u) v n xs (w.setCell ⟨b, j, none⟩ u) :=
  h.otherLow (setCell_grownD w b j u) (fun k hk e => hne k hk (by simpa using e.symm))
theorem box_below {w w' : World} {b j : Nat} {v : Value} (h : w.cell? ⟨b, j, none⟩ = some v) (hb : Below w.heap.size w w') : w'.cell? ⟨b, j, none⟩ = some v :=
  (hb.cell (p := ⟨b, j, none⟩) (World.block_lt_of_cell? w _ h)).trans h
theorem box_world (w : World) (e : TypeId) (z0 z1 u0 u1 : Value) : Below w.heap.size w (((w.alloc (.cells #[z0, z1] e)).setCell ⟨w.heap.size, 0, none⟩ u0).setCell ⟨w.heap.size, 1, none⟩ u1) :=
  (((Below.refl _ _).alloc (Nat.le_refl _) _).setCell (Nat.le_refl _) _).setCell (Nat.le_refl _) _
theorem box_alloc (w : World) (o : Obj) : Below w.heap.size w (w.alloc o) := (Below.refl _ _).alloc (Nat.le_refl _) _
theorem box0 (w : World) (e : TypeId) (u0 u1 : Value) : (w.alloc (.cells #[u0, u1] e)).cell? ⟨w.heap.size, 0, none⟩ = some u0 := by go_simp
theorem box1 (w : World) (e : TypeId) (u0 u1 : Value) : (w.alloc (.cells #[u0, u1] e)).cell? ⟨w.heap.size, 1, none⟩ = some u1 := by go_simp
theorem cell_block {w w' : World} {b j : Nat} {v : Value} (h : w.cell? ⟨b, j, none⟩ = some v) (hb : w'.heap[b]? = w.heap[b]?) : w'.cell? ⟨b, j, none⟩ = some v :=
  (World.cell?_of_block (a := ⟨b, j, none⟩) hb).trans h
theorem ba_append (a b : List UInt8) : (⟨a.toArray⟩ : ByteArray) ++ ⟨b.toArray⟩ = ⟨(a ++ b).toArray⟩ := by
  apply ByteArray.ext
  simp [ByteArray.data_append]
theorem ba_data (l : List UInt8) : (⟨l.toArray⟩ : ByteArray).data.toList = l := rfl
theorem ba_self (s : ByteArray) : (⟨s.data.toList.toArray⟩ : ByteArray) = s := by
  rcases s with ⟨d⟩
  show (⟨d.toList.toArray⟩ : ByteArray) = ⟨d⟩
  rw [Array.toArray_toList]
theorem ba_size (l : List UInt8) : (⟨l.toArray⟩ : ByteArray).size = l.length := List.size_toArray
theorem data_len (s : ByteArray) : s.data.toList.length = s.size := Array.length_toList

abbrev OutL := List (Int × ByteArray)
def outB (x : Int × ByteArray) : Bool := decide (0 ≤ x.1 ∧ x.1 ≤ 16 ∧ x.2.size ≤ 400)
/-- Is the k-th of them right: what it is, and that it rises. -/
def okAt (l : OutL) (k : Nat) : Bool := outB (l.getD k (0, ByteArray.empty)) && (k == 0 || decide ((l.getD (k - 1) (0, ByteArray.empty)).1 < (l.getD k (0, ByteArray.empty)).1))
def upTo (l : OutL) (k : Nat) : Bool := (List.range k).all (okAt l)
theorem upTo_zero (l : OutL) : upTo l 0 = true := rfl
theorem upTo_succ (l : OutL) (k : Nat) : upTo l (k + 1) = (upTo l k && okAt l k) := by simp [upTo, List.range_succ]
theorem upTo_no (l : OutL) (k n : Nat) (h : k < n) (hk : okAt l k = false) : upTo l n = false := by
  rw [upTo, List.all_eq_false]
  exact ⟨k, List.mem_range.2 h, by simp [hk]⟩
def txnB (seq : Int) (l : OutL) : Bool := decide (1 ≤ seq ∧ seq ≤ 1000000) && decide (1 ≤ l.length ∧ l.length ≤ 17) && upTo l l.length
def pieceL (s : ByteArray) : List UInt8 := varV s.size ++ s.data.toList
def outL (x : Int × ByteArray) : List UInt8 := varV x.1 ++ pieceL x.2
def bodyL (seq : Int) (l : OutL) : List UInt8 := 116 :: (varV seq ++ (varV l.length ++ l.flatMap outL))
def showL (seq : Int) (l : OutL) : List UInt8 := if txnB seq l = true ∧ (bodyL seq l).length + 4 ≤ 4000 then fixedL (crcF (bodyL seq l)) 4 ++ bodyL seq l else []

theorem upTo_at (l : OutL) (k n : Nat) (h : upTo l n = true) (hk : k < n) : okAt l k = true := by
  rw [upTo, List.all_eq_true] at h
  exact h k (List.mem_range.2 hk)
theorem upTo_out (l : OutL) (h : upTo l l.length = true) : ∀ x ∈ l, 0 ≤ x.1 ∧ x.1 ≤ 16 ∧ x.2.size ≤ 400 := by
  intro x hx
  obtain ⟨k, hk, rfl⟩ := List.getElem_of_mem hx
  have := upTo_at l k _ h hk
  simp only [okAt, Bool.and_eq_true, outB, List.getD, List.getElem?_eq_getElem hk, Option.getD_some] at this
  exact of_decide_eq_true this.1

/- Reading, one behind the other. -/
def numO : Option (List UInt8) → Int × Option (List UInt8)
  | none => (0, none)
  | some r => if (rdVar r).2 = 0 then (0, none) else (((rdVar r).1 : Int), some (r.drop (rdVar r).2))
def cutO (n : Int) : Option (List UInt8) → List UInt8 × Option (List UInt8)
  | none => ([], none)
  | some r => if 0 ≤ n ∧ n ≤ r.length then (r.take n.toNat, some (r.drop n.toNat)) else ([], none)
def pieceO (o : Option (List UInt8)) : List UInt8 × Option (List UInt8) := cutO (numO o).1 (numO o).2
def manyO (most : Int) (o : Option (List UInt8)) : Int × Option (List UInt8) := if most < (numO o).1 then (0, none) else numO o
def stO (o : Option (List UInt8)) : Nat → OutL × Option (List UInt8)
  | 0 => ([], o)
  | k + 1 => ((stO o k).1 ++ [((numO (stO o k).2).1, ⟨(pieceO (numO (stO o k).2).2).1.toArray⟩)], (pieceO (numO (stO o k).2).2).2)
theorem stO_len (o : Option (List UInt8)) (k : Nat) : (stO o k).1.length = k := by
  induction k with
  | zero => rfl
  | succ k ih => simp [stO, ih]
def readO (s : List UInt8) : Int × OutL × Option (List UInt8) :=
  let a := numO (cutO 5 (some s)).2
  let b := manyO 17 a.2
  let p := stO b.2 b.1.toNat
  (a.1, p.1, p.2)

theorem numO_var (n : Nat) (h : n ≤ 562949953421311) (r : List UInt8) : numO (some (varV n ++ r)) = ((n : Int), some r) := by
  rw [varV_yes n h]
  have e := rdVar_varL n h r
  have h0 : (varL n).length ≠ 0 := fun c => varL_ne n (List.eq_nil_of_length_eq_zero c)
  unfold numO
  simp only [e]
  rw [if_neg h0]
  simp
theorem pieceO_piece (s : ByteArray) (h : s.size ≤ 562949953421311) (r : List UInt8) : pieceO (some (pieceL s ++ r)) = (s.data.toList, some r) := by
  unfold pieceO pieceL
  rw [List.append_assoc, numO_var s.size h]
  have hl := data_len s
  unfold cutO
  simp only
  rw [if_pos ⟨by omega, by rw [List.length_append]; omega⟩]
  have e : ((s.size : Nat) : Int).toNat = s.data.toList.length := by omega
  rw [e]
  simp
theorem stO_outs (r : List UInt8) : ∀ (l : OutL), (∀ x ∈ l, 0 ≤ x.1 ∧ x.1 ≤ 16 ∧ x.2.size ≤ 400) → ∀ k, k ≤ l.length → stO (some (l.flatMap outL ++ r)) k = (l.take k, some ((l.drop k).flatMap outL ++ r)) := by
  intro l hl k
  induction k with
  | zero => intro _; simp [stO]
  | succ k ih =>
    intro hk
    have hk' : k < l.length := by omega
    have hx := hl l[k] (List.getElem_mem hk')
    obtain ⟨q, hq⟩ := Int.eq_ofNat_of_zero_le hx.1
    rw [stO, ih (by omega)]
    have e : (l.drop k).flatMap outL ++ r = varV q ++ (pieceL l[k].2 ++ ((l.drop (k + 1)).flatMap outL ++ r)) := by
      rw [List.drop_eq_getElem_cons hk', List.flatMap_cons, outL, hq]
      simp [List.append_assoc]
    simp only
    rw [e, numO_var q (by omega)]
    simp only
    rw [pieceO_piece _ (by omega)]
    simp only [Prod.mk.injEq, and_true]
    rw [List.take_succ_eq_append_getElem hk']
    congr 2
    rw [← hq]

/-- What is read of a text that is shown. -/
theorem fixed4 (l : List UInt8) : (fixedL (crcF l) 4).length = 4 := by
  have h := crcF_range l
  unfold fixedL
  rw [if_pos ⟨by omega, by omega, h.1, (by
    have e : (256 : Nat) ^ (4 : Int).toNat = 4294967296 := by decide
    omega)⟩]
  exact lowBE_length _ _
theorem txnB_iff (seq : Int) (l : OutL) : txnB seq l = true ↔ (1 ≤ seq ∧ seq ≤ 1000000) ∧ (1 ≤ l.length ∧ l.length ≤ 17) ∧ upTo l l.length = true := by
  simp only [txnB, Bool.and_eq_true, decide_eq_true_eq, and_assoc]
theorem readO_show (seq : Int) (l : OutL) (h : showL seq l ≠ []) : readO (showL seq l) = (seq, l, some []) := by
  unfold showL at h ⊢
  by_cases c : txnB seq l = true ∧ (bodyL seq l).length + 4 ≤ 4000
  · rw [if_pos c] at h ⊢
    obtain ⟨h1, h2, h3⟩ := (txnB_iff _ _).1 c.1
    obtain ⟨q, rfl⟩ := Int.eq_ofNat_of_zero_le (show 0 ≤ seq by omega)
    have hO := upTo_out l h3
    have e1 : cutO 5 (some (fixedL (crcF (bodyL q l)) 4 ++ bodyL q l)) = (fixedL (crcF (bodyL q l)) 4 ++ [116], some (varV q ++ (varV l.length ++ l.flatMap outL))) := by
      have h4 := fixed4 (bodyL q l)
      generalize fixedL (crcF (bodyL q l)) 4 = f at *
      unfold cutO bodyL
      simp only
      rw [if_pos ⟨by omega, by simp [h4]; omega⟩]
      have e : ((5 : Int)).toNat = f.length + 1 := by rw [h4]; rfl
      rw [e]
      simp [List.take_append, List.drop_append, List.take_of_length_le, List.drop_of_length_le]
    unfold readO manyO
    simp only [e1]
    rw [numO_var q (by omega)]
    simp only
    rw [numO_var l.length (by omega)]
    simp only
    rw [if_neg (by omega)]
    have := stO_outs [] l hO l.length (Nat.le_refl _)
    simp only [List.append_nil] at this
    simp only [Int.toNat_natCast]
    rw [this]
    simp
  · rw [if_neg c] at h
    exact absurd rfl h
/-- A text is read, or not. -/
def readT (s : List UInt8) : Option (Int × OutL) := if s ≠ [] ∧ showL (readO s).1 (readO s).2.1 = s then some ((readO s).1, (readO s).2.1) else none
theorem readT_show (seq : Int) (l : OutL) (h : showL seq l ≠ []) : readT (showL seq l) = some (seq, l) := by
  unfold readT
  rw [readO_show seq l h]
  simp [h]
theorem readT_iff (s : List UInt8) (x : Int × OutL) : readT s = some x ↔ s ≠ [] ∧ showL x.1 x.2 = s := by
  constructor
  · intro h
    unfold readT at h
    split at h
    · rename_i c
      cases h
      exact c
    · cases h
  · rintro ⟨h, rfl⟩
    rw [readT_show _ _ h]
/-- Where what is read is not bad. -/
theorem readT_some (s : List UInt8) (x : Int × OutL) (h : readT s = some x) : readO s = (x.1, x.2, some []) := by
  obtain ⟨h1, h2⟩ := (readT_iff s x).1 h
  rw [← h2] at h1 ⊢
  exact readO_show _ _ h1
theorem readT_hit (s : List UInt8) (x : Int × OutL) (h0 : s ≠ []) (h : showL x.1 x.2 = s) : readT s = some x := (readT_iff s x).2 ⟨h0, h⟩
/-- .. and where it is bad, or shows as another text, nothing is read. -/
theorem readT_bad (s : List UInt8) (h : (readO s).2.2 = none) : readT s = none := by
  cases e : readT s with
  | none => rfl
  | some x => rw [readT_some s x e] at h; cases h
theorem readT_nil : readT [] = none := by unfold readT; simp
theorem readT_ne (s : List UInt8) (h : showL (readO s).1 (readO s).2.1 ≠ s) : readT s = none := by
  unfold readT
  rw [if_neg (fun c => h c.2)]
def pieceB (s : ByteArray) : ByteArray := ⟨(pieceL s).toArray⟩
theorem ba_append_s (a : List UInt8) (s : ByteArray) : (⟨a.toArray⟩ : ByteArray) ++ s = ⟨(a ++ s.data.toList).toArray⟩ := by
  have := ba_append a s.data.toList
  rwa [ba_self] at this
theorem pieceB_eq (s : ByteArray) : (⟨(varV (s.size : Int)).toArray⟩ : ByteArray) ++ s = pieceB s := ba_append_s _ _
theorem below_box {w W W' : World} {o : Obj} (h : Below (w.alloc o).heap.size (w.alloc o) W) (hb : Below W.heap.size W W') : Below (w.alloc o).heap.size (w.alloc o) W' := below_step1 h hb
theorem below_out {w W : World} {o : Obj} (h : Below (w.alloc o).heap.size (w.alloc o) W) : Below w.heap.size w W := below_step1 (box_alloc w o) h

set_option maxRecDepth 1000000 in
set_option maxHeartbeats 6000000 in
theorem piece_any (s : ByteArray) (hs : s.size ≤ 1073741824) (w : World) : Calls Tryd.prog 65 #[.string s] w fun e w' => e = .returned (.string (pieceB s)) ∧ Below w.heap.size w w' := by
  have HP := Lib.hid (pieceB_eq s)
  have hv := varV_len s.size
  have hsum : (varV (s.size : Int)).length + s.size ≤ 9223372036854775807 := by omega
  go_enter Tryd.func65, Tryd.ntmps65
  go_wp2_with fail
  refine (implVar_any _ _).mono ?_
  rintro e w1 ⟨rfl, hb⟩
  have HB := Lib.hid hb
  clear hb
  go_wp2
  go_ret
  exact ⟨ret_str HP.out, HB.out⟩
set_option maxRecDepth 1000000 in
set_option maxHeartbeats 6000000 in
theorem l7Piece_any (s : ByteArray) (hs : s.size ≤ 1073741824) (w : World) : Calls Tryd.prog 64 #[.string s] w fun e w' => e = .returned (.string (pieceB s)) ∧ Below w.heap.size w w' := by
  have HP := Lib.hid (pieceB_eq s)
  have hv := varV_len s.size
  have hsum : (varV (s.size : Int)).length + s.size ≤ 9223372036854775807 := by omega
  go_enter Tryd.func64, Tryd.ntmps64
  go_wp2_with fail
  refine (specVar_any _ _).mono ?_
  rintro e w1 ⟨rfl, hb⟩
  have HB := Lib.hid hb
  clear hb
  go_wp2
  go_ret
  exact ⟨ret_str HP.out, HB.out⟩
theorem ex_drop (s : ByteArray) (k : Nat) : (s.extract k s.size).data.toList = s.data.toList.drop k := by
  simp only [ByteArray.data_extract, Array.toList_extract]
  rw [List.extract_eq_take_drop, List.take_of_length_le (by simp)]
theorem ex_take (s : ByteArray) (k : Nat) : (s.extract 0 k).data.toList = s.data.toList.take k := by simp [ByteArray.data_extract]
theorem ex_size (s : ByteArray) (k m : Nat) (h : s.size ≤ m) : (s.extract k s.size).size ≤ m := by simp; omega
theorem ex_size0 (s : ByteArray) (k m : Nat) (h : s.size ≤ m) : (s.extract 0 k).size ≤ m := by simp; omega
/-- What a scanner still has to read; nothing if it is bad. -/
def scO (rest : ByteArray) (bad : Bool) : Option (List UInt8) := if bad = true then none else some rest.data.toList
structure ScanAt (w : World) (b : Nat) (o : Option (List UInt8)) (m : Nat) : Prop where
  ex : ∃ rest bad, w.cell? ⟨b, 0, none⟩ = some (.string rest) ∧ w.cell? ⟨b, 1, none⟩ = some (.bool bad) ∧ (w.frozen? ⟨b, 0, none⟩ = false ∧ w.frozen? ⟨b, 1, none⟩ = false) ∧ rest.size ≤ m ∧ o = scO rest bad
theorem ScanAt.kept {w w' : World} {b m : Nat} {o : Option (List UInt8)} (h : ScanAt w b o m) (hb : w'.heap[b]? = w.heap[b]?) : ScanAt w' b o m := by
  obtain ⟨r, bd, h1, h2, ⟨f1, f2⟩, h3, h4⟩ := h.ex
  exact ⟨r, bd, cell_block h1 hb, cell_block h2 hb, ⟨(World.frozen?_of_block (a := ⟨b, 0, none⟩) hb).trans f1, (World.frozen?_of_block (a := ⟨b, 1, none⟩) hb).trans f2⟩, h3, h4⟩
theorem ScanAt.lt {w : World} {b m : Nat} {o : Option (List UInt8)} (h : ScanAt w b o m) : b < w.heap.size := by
  obtain ⟨r, bd, h1, _⟩ := h.ex
  exact World.block_lt_of_cell? w _ h1
theorem ScanAt.below {w w' : World} {b m : Nat} {o : Option (List UInt8)} (h : ScanAt w b o m) (hb : Below w.heap.size w w') : ScanAt w' b o m := h.kept (hb.block b h.lt)
theorem sc_bad (m : Nat) (rest : ByteArray) : scO rest true = none := rfl
theorem sc_ok (rest : ByteArray) : scO rest false = some rest.data.toList := rfl
def ScanPost (b m : Nat) (w : World) (v : Value) (o : Option (List UInt8)) (e : Ending) (w' : World) : Prop := e = .returned v ∧ ScanAt w' b o m ∧ w.grownBy w' (some b)
theorem scan_set (w : World) (b j : Nat) (u : Value) : w.grownBy (w.setCell ⟨b, j, none⟩ u) (some b) :=
  ⟨rfl, rfl, rfl, by simp [World.setCell], fun k _ hk => heap_setCell_other w ⟨b, j, none⟩ k u (fun e => hk (by simp [e]))⟩
theorem set_frozen (w : World) (b j i : Nat) (u : Value) (h : w.frozen? ⟨b, i, none⟩ = false) (hl : b < w.heap.size) : (w.setCell ⟨b, j, none⟩ u).frozen? ⟨b, i, none⟩ = false := by go_simp
theorem numO_none (o : Option (List UInt8)) (h : (numO o).2 = none) : numO o = (0, none) := by
  cases o with
  | none => rfl
  | some r =>
    unfold numO at h ⊢
    simp only at h ⊢
    by_cases c : (rdVar r).2 = 0
    · rw [if_pos c]
    · rw [if_neg c] at h; cases h
/-- So many numbers from a place on. -/
def varsF (s : List UInt8) : Nat → Int → List Int → List Int × Int
  | 0, p, out => (out, p)
  | n + 1, p, out => if p < 0 ∨ (s.length : Int) < p then (out, -1) else if (rdVar (s.drop p.toNat)).2 = 0 then (out, -1) else varsF s n (p + (rdVar (s.drop p.toNat)).2) (out ++ [((rdVar (s.drop p.toNat)).1 : Int)])
def takeP (s : List UInt8) (p : Int) : List UInt8 × Int :=
  if (varsF s 1 p []).2 < 0 ∨ (s.length : Int) - (varsF s 1 p []).2 < (varsF s 1 p []).1.getD 0 0 then ([], -1)
  else ((s.drop (varsF s 1 p []).2.toNat).take ((varsF s 1 p []).1.getD 0 0).toNat, (varsF s 1 p []).2 + (varsF s 1 p []).1.getD 0 0)
def loopS (s : List UInt8) : Nat → Int → OutL → Option OutL
  | 0, _, out => some out
  | n + 1, p, out => if (takeP s (varsF s 1 p []).2).2 < 0 then none else loopS s n (takeP s (varsF s 1 p []).2).2 (out ++ [((varsF s 1 p []).1.getD 0 0, ⟨(takeP s (varsF s 1 p []).2).1.toArray⟩)])
def parseS (s : List UInt8) : Option (Int × OutL) :=
  if (varsF s 2 5 []).2 < 0 ∨ 17 < (varsF s 2 5 []).1.getD 1 0 then none
  else (loopS s ((varsF s 2 5 []).1.getD 1 0).toNat (varsF s 2 5 []).2 []).map (fun l => ((varsF s 2 5 []).1.getD 0 0, l))

theorem varsF_len (s : List UInt8) : ∀ (n : Nat) (p : Int) (out : List Int), (0 ≤ (varsF s n p out).2 → (varsF s n p out).1.length = out.length + n) ∧ out.length ≤ (varsF s n p out).1.length ∧ (varsF s n p out).1.length ≤ out.length + n := by
  intro n
  induction n with
  | zero => intro p out; simp [varsF]
  | succ n ih =>
    intro p out
    rw [varsF]
    split
    · simp
    · split
      · simp
      · have := ih (p + (rdVar (s.drop p.toNat)).2) (out ++ [((rdVar (s.drop p.toNat)).1 : Int)])
        simp only [List.length_append, List.length_cons, List.length_nil] at this
        omega
theorem rdVar_le (l : List UInt8) : (rdVar l).2 ≤ l.length ∧ (rdVar l).1 ≤ 562949953421311 := by
  by_cases h : (rdVar l).2 = 0
  · rw [rdVar_zero l h]; simp
  · have := rdVar_sound l h
    exact ⟨this.2.2, this.2.1⟩
theorem varsF_le (s : List UInt8) : ∀ (n : Nat) (p : Int) (out : List Int), p ≤ (s.length : Int) → -1 ≤ p → -1 ≤ (varsF s n p out).2 ∧ (varsF s n p out).2 ≤ (s.length : Int) := by
  intro n
  induction n with
  | zero => intro p out h h2; simp only [varsF]; omega
  | succ n ih =>
    intro p out h h2
    rw [varsF]
    split
    · dsimp only; omega
    · split
      · dsimp only; omega
      · refine ih _ _ ?_ (by omega)
        have := (rdVar_le (s.drop p.toNat)).1
        rw [List.length_drop] at this
        omega
theorem varsF_le5 (s : List UInt8) (n : Nat) (p : Int) (out : List Int) (h2 : -1 ≤ p) : (varsF s (n + 1) p out).2 ≤ (s.length : Int) ∧ -1 ≤ (varsF s (n + 1) p out).2 := by
  by_cases h : p ≤ (s.length : Int)
  · have := varsF_le s (n + 1) p out h h2
    omega
  · rw [varsF, if_pos (by omega)]
    dsimp only
    omega
theorem varsF_num (s : List UInt8) : ∀ (n : Nat) (p : Int) (out : List Int), (∀ x ∈ out, 0 ≤ x ∧ x ≤ 562949953421311) → ∀ x ∈ (varsF s n p out).1, 0 ≤ x ∧ x ≤ 562949953421311 := by
  intro n
  induction n with
  | zero => intro p out h; simpa [varsF] using h
  | succ n ih =>
    intro p out h
    rw [varsF]
    split
    · exact h
    · split
      · exact h
      · refine ih _ _ fun x hx => ?_
        rcases List.mem_append.1 hx with hx | hx
        · exact h x hx
        · obtain rfl : x = ((rdVar (s.drop p.toNat)).1 : Int) := by simpa using hx
          have := (rdVar_le (s.drop p.toNat)).2
          omega

theorem varsF_hit (pre r : List UInt8) (q : Nat) (hq : q ≤ 562949953421311) (m : Nat) (out : List Int) :
    varsF (pre ++ (varV q ++ r)) (m + 1) (pre.length : Int) out = varsF (pre ++ varV q ++ r) m ((pre ++ varV q).length : Int) (out ++ [(q : Int)]) := by
  have e : (pre ++ (varV q ++ r)).drop (pre.length : Int).toNat = varL q ++ r := by simp [varV_yes q hq]
  have e2 := rdVar_varL q hq r
  have h0 : (varL q).length ≠ 0 := fun c => varL_ne q (List.eq_nil_of_length_eq_zero c)
  rw [varsF, if_neg (by simp; omega), e, e2]
  simp only
  rw [if_neg h0, List.append_assoc]
  congr 1
  rw [varV_yes q hq]
  simp
theorem vars1_hit (pre r : List UInt8) (q : Nat) (hq : q ≤ 562949953421311) : varsF (pre ++ (varV q ++ r)) 1 (pre.length : Int) [] = ([(q : Int)], ((pre ++ varV q).length : Int)) := by
  rw [varsF_hit pre r q hq 0 []]
  rfl
theorem takeP_hit (pre r : List UInt8) (t : ByteArray) (ht : t.size ≤ 562949953421311) : takeP (pre ++ (pieceL t ++ r)) (pre.length : Int) = (t.data.toList, ((pre ++ pieceL t).length : Int)) := by
  have e : pre ++ (pieceL t ++ r) = pre ++ (varV t.size ++ (t.data.toList ++ r)) := by simp [pieceL, List.append_assoc]
  have hl := data_len t
  unfold takeP
  rw [e, vars1_hit pre (t.data.toList ++ r) t.size ht]
  simp only [List.getD_cons_zero]
  rw [if_neg (by simp only [List.length_append]; omega)]
  have e2 : pre ++ (varV t.size ++ (t.data.toList ++ r)) = (pre ++ varV t.size) ++ (t.data.toList ++ r) := by simp [List.append_assoc]
  rw [e2]
  simp only [Int.toNat_natCast]
  rw [List.drop_left, ← hl, List.take_left]
  refine Prod.ext rfl ?_
  simp only [pieceL, List.length_append, hl]
  omega
theorem loopS_hit (r : List UInt8) : ∀ (l : OutL), (∀ x ∈ l, 0 ≤ x.1 ∧ x.1 ≤ 16 ∧ x.2.size ≤ 400) → ∀ (pre : List UInt8) (out : OutL), loopS (pre ++ (l.flatMap outL ++ r)) l.length (pre.length : Int) out = some (out ++ l) := by
  intro l
  induction l with
  | nil => intro _ pre out; simp [loopS]
  | cons x l ih =>
    intro hl pre out
    have hx := hl x List.mem_cons_self
    obtain ⟨q, hq⟩ := Int.eq_ofNat_of_zero_le hx.1
    have e1 : pre ++ ((x :: l).flatMap outL ++ r) = pre ++ (varV q ++ (pieceL x.2 ++ (l.flatMap outL ++ r))) := by simp [outL, hq, List.append_assoc]
    have e2 : pre ++ (varV q ++ (pieceL x.2 ++ (l.flatMap outL ++ r))) = (pre ++ varV q) ++ (pieceL x.2 ++ (l.flatMap outL ++ r)) := by simp [List.append_assoc]
    rw [List.length_cons, loopS, e1, vars1_hit pre _ q (by omega)]
    simp only
    rw [e2, takeP_hit (pre ++ varV q) _ x.2 (by omega)]
    simp only
    rw [if_neg (by omega)]
    have e3 : (pre ++ varV q) ++ (pieceL x.2 ++ (l.flatMap outL ++ r)) = (pre ++ varV q ++ pieceL x.2) ++ (l.flatMap outL ++ r) := by simp [List.append_assoc]
    rw [e3, ih (fun y hy => hl y (List.mem_cons_of_mem _ hy)) (pre ++ varV q ++ pieceL x.2)]
    simp only [List.getD_cons_zero, Option.some.injEq, List.append_assoc, List.cons_append, List.nil_append]
    congr 2
    rw [← hq, ba_self]
theorem parseS_show (seq : Int) (l : OutL) (h : showL seq l ≠ []) : parseS (showL seq l) = some (seq, l) := by
  unfold showL at h ⊢
  by_cases c : txnB seq l = true ∧ (bodyL seq l).length + 4 ≤ 4000
  · rw [if_pos c] at h ⊢
    obtain ⟨h1, h2, h3⟩ := (txnB_iff _ _).1 c.1
    obtain ⟨q, rfl⟩ := Int.eq_ofNat_of_zero_le (show 0 ≤ seq by omega)
    have hO := upTo_out l h3
    have h4 := fixed4 (bodyL q l)
    have e1 : fixedL (crcF (bodyL q l)) 4 ++ bodyL q l = (fixedL (crcF (bodyL q l)) 4 ++ [116]) ++ (varV q ++ (varV l.length ++ l.flatMap outL)) := by
      conv => lhs; arg 2; unfold bodyL
      simp
    rw [e1]
    generalize fixedL (crcF (bodyL q l)) 4 = f at *
    have h5 : ((f ++ [116]).length : Int) = 5 := by simp [h4]
    have e2 : varsF ((f ++ [116]) ++ (varV q ++ (varV l.length ++ l.flatMap outL))) 2 5 [] = ([(q : Int), (l.length : Int)], (((f ++ [116]) ++ varV q ++ varV l.length).length : Int)) := by
      rw [← h5, varsF_hit (f ++ [116]) _ q (by omega) 1 [], varsF_hit (f ++ [116] ++ varV q) _ l.length (by omega) 0]
      rfl
    unfold parseS
    rw [e2]
    simp only [List.getD_cons_zero, List.getD_cons_succ, Int.toNat_natCast]
    rw [if_neg (by omega)]
    have e3 : (f ++ [116]) ++ (varV q ++ (varV l.length ++ l.flatMap outL)) = ((f ++ [116]) ++ varV q ++ varV l.length) ++ (l.flatMap outL ++ []) := by simp [List.append_assoc]
    rw [e3, loopS_hit [] l hO]
    simp
  · rw [if_neg c] at h
    exact absurd rfl h
theorem readT_parse_none (s : List UInt8) (h : parseS s = none) : readT s = none := by
  cases e : readT s with
  | none => rfl
  | some x =>
    obtain ⟨h1, h2⟩ := (readT_iff s x).1 e
    rw [← h2] at h1 h
    rw [parseS_show _ _ h1] at h
    cases h
theorem readT_parse_ne (s : List UInt8) (x : Int × OutL) (h : parseS s = some x) (hn : showL x.1 x.2 ≠ s) : readT s = none := by
  cases e : readT s with
  | none => rfl
  | some y =>
    obtain ⟨h1, h2⟩ := (readT_iff s y).1 e
    have h3 := h1
    rw [← h2] at h3
    have := parseS_show _ _ h3
    rw [h2, h] at this
    cases this
    exact absurd h2 hn
theorem parseS_nil : parseS [] = none := by unfold parseS; rw [if_pos (.inl (by simp [varsF]))]
theorem readT_parse_hit (s : List UInt8) (x : Int × OutL) (h : parseS s = some x) (hn : showL x.1 x.2 = s) : readT s = some x :=
  readT_hit s x (fun c => by rw [c, parseS_nil] at h; cases h) hn
theorem showL_len (seq : Int) (l : OutL) : (showL seq l).length ≤ 4000 := by
  unfold showL
  split
  · rename_i c
    rw [List.length_append, fixed4]
    omega
  · simp
theorem readT_long (s : List UInt8) (h : 4000 < s.length) : readT s = none := by
  cases e : readT s with
  | none => rfl
  | some x =>
    obtain ⟨h1, h2⟩ := (readT_iff s x).1 e
    have := showL_len x.1 x.2
    rw [h2] at this
    omega
def VarsPost (s : List UInt8) (n : Nat) (p : Int) (w : World) (e : Ending) (w' : World) : Prop := ∃ (g : Option Addr) (c : Nat), e = .returned (.tuple #[.slice g (varsF s n p []).1.length c, .int .i64 (varsF s n p []).2]) ∧ Own 3 1 w.heap.size w (.slice g (varsF s n p []).1.length c) (varsF s n p []).1.length (ints (varsF s n p []).1) w'
theorem varsF_out (s : List UInt8) (n : Nat) (p : Int) (out : List Int) (h : p < 0 ∨ (s.length : Int) < p) : varsF s (n + 1) p out = (out, -1) := by rw [varsF, if_pos h]
theorem varsF_no (s : List UInt8) (n : Nat) (k : Nat) (out : List Int) (h : k ≤ s.length) (h0 : (rdVar (s.drop k)).2 = 0) : varsF s (n + 1) (k : Int) out = (out, -1) := by
  rw [varsF, if_neg (by omega), Int.toNat_natCast, if_pos h0]
set_option maxRecDepth 1000000 in
set_option maxHeartbeats 6000000 in
theorem varsF_yes (s : List UInt8) (n : Nat) (k : Nat) (out : List Int) (h : k ≤ s.length) (h0 : (rdVar (s.drop k)).2 ≠ 0) : varsF s (n + 1) (k : Int) out = varsF s n ((k : Int) + (rdVar (s.drop k)).2) (out ++ [((rdVar (s.drop k)).1 : Int)]) := by
  rw [varsF, if_neg (by omega), Int.toNat_natCast, if_neg h0]
theorem take_one (s : List UInt8) (p : Int) : 0 ≤ (varsF s 1 p []).2 → ∃ x, (varsF s 1 p []).1 = [x] ∧ 0 ≤ x ∧ x ≤ 562949953421311 := by
  intro h
  have h1 := (varsF_len s 1 p []).1 h
  have h2 := varsF_num s 1 p [] (fun x hx => by simp at hx)
  match hl : (varsF s 1 p []).1, h1, h2 with
  | [x], _, h2 => exact ⟨x, rfl, h2 x (by simp)⟩
def TakePost (s : List UInt8) (p : Int) (w : World) (e : Ending) (w' : World) : Prop := e = .returned (.tuple #[.string ⟨(takeP s p).1.toArray⟩, .int .i64 (takeP s p).2]) ∧ Below w.heap.size w w'
theorem ex_mid (s : ByteArray) (a b : Nat) : (⟨((s.data.toList.drop a).take b).toArray⟩ : ByteArray) = s.extract a (a + b) := by
  have h : (s.extract a (a + b)).data.toList = (s.data.toList.drop a).take b := by
    simp only [ByteArray.data_extract, Array.toList_extract]
    rw [List.extract_eq_take_drop]
    congr 1
    omega
  rw [← h, ba_self]
end Go.Proofs.YtlkfabkkjfmnmaaDoor
