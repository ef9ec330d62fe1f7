/- Signs are read from bytes: plain, and the program's signAt. -/
import Derived.Test.YtlkfabkkjfmnmaaGreatDoorEncode
import Derived.Test.YtlkfabkkjfmnmaaGreatDoorNum
namespace Go.Proofs.YtlkfabkkjfmnmaaGreatDoor
open Go.RowKit

/-- How many bytes a sign has that begins with b; 0 where it begins none. -/
def szOf (b : Nat) : Nat := if b < 128 then 1 else if b < 192 then 0 else if b < 224 then 2 else if b < 240 then 3 else if b < 248 then 4 else 0
def cOf (b : Nat) : Nat := if b < 128 then b else if b < 224 then b % 32 else if b < 240 then b % 16 else b % 8
def isCont (b : UInt8) : Bool := decide (128 ≤ b.toNat) && decide (b.toNat < 192)
def cont (c : Nat) (l : List UInt8) : Nat := l.foldl (fun c b => c * 64 + b.toNat % 64) c
def leastN (n : Nat) : Nat := if n = 2 then 128 else if n = 3 then 2048 else 65536
/-- The sign at the beginning, and how many bytes it has; 0 where there is none. -/
def sg1 (l : List UInt8) : Int × Nat :=
  match l with
  | [] => (0, 0)
  | b :: r =>
    if szOf b.toNat = 1 then ((b.toNat : Int), 1)
    else if szOf b.toNat = 0 ∨ l.length < szOf b.toNat then (0, 0)
    else if ∀ x ∈ r.take (szOf b.toNat - 1), isCont x = true then
      if leastN (szOf b.toNat) ≤ cont (cOf b.toNat) (r.take (szOf b.toNat - 1)) ∧ isSgn (cont (cOf b.toNat) (r.take (szOf b.toNat - 1))) = true then ((cont (cOf b.toNat) (r.take (szOf b.toNat - 1)) : Int), szOf b.toNat) else (0, 0)
    else (0, 0)
def sgV (l : List UInt8) : Value := .tuple #[.int .i64 (sg1 l).1, .int .i64 ((sg1 l).2 : Int)]

theorem cont_snoc (c : Nat) (l : List UInt8) (b : UInt8) : cont c (l ++ [b]) = cont c l * 64 + b.toNat % 64 := by simp [cont]
theorem cont_lt (c : Nat) (l : List UInt8) : cont c l < (c + 1) * 64 ^ l.length := by
  suffices H : ∀ r : List UInt8, cont c r.reverse < (c + 1) * 64 ^ r.length by have := H l.reverse; simpa using this
  intro r
  induction r with
  | nil => simp [cont]
  | cons b r ih =>
    rw [List.reverse_cons, cont_snoc, List.length_cons, Nat.pow_succ, ← Nat.mul_assoc]
    omega
theorem sz1 (b : Nat) (h : b < 128) : szOf b = 1 := by unfold szOf; rw [if_pos h]
theorem sz2 (b : Nat) (h0 : 192 ≤ b) (h1 : b < 224) : szOf b = 2 := by unfold szOf; rw [if_neg (by omega), if_neg (by omega), if_pos (by omega)]
theorem sz3 (b : Nat) (h0 : 224 ≤ b) (h1 : b < 240) : szOf b = 3 := by unfold szOf; rw [if_neg (by omega), if_neg (by omega), if_neg (by omega), if_pos (by omega)]
theorem sz4 (b : Nat) (h0 : 240 ≤ b) (h1 : b < 248) : szOf b = 4 := by unfold szOf; rw [if_neg (by omega), if_neg (by omega), if_neg (by omega), if_neg (by omega), if_pos (by omega)]
theorem sz0 (b : Nat) (h : (128 ≤ b ∧ b < 192) ∨ 248 ≤ b) : szOf b = 0 := by
  unfold szOf
  rcases h with h | h
  · rw [if_neg (by omega), if_pos (by omega)]
  · rw [if_neg (by omega), if_neg (by omega), if_neg (by omega), if_neg (by omega), if_neg (by omega)]
theorem c2 (b : Nat) (h0 : 192 ≤ b) (h1 : b < 224) : cOf b = b % 32 := by unfold cOf; rw [if_neg (by omega), if_pos (by omega)]
theorem c3 (b : Nat) (h0 : 224 ≤ b) (h1 : b < 240) : cOf b = b % 16 := by unfold cOf; rw [if_neg (by omega), if_neg (by omega), if_pos (by omega)]
theorem c4 (b : Nat) (h0 : 240 ≤ b) (h1 : b < 248) : cOf b = b % 8 := by unfold cOf; rw [if_neg (by omega), if_neg (by omega), if_neg (by omega)]

theorem sg1_one (l : List UInt8) (h0 : 0 < l.length) (h : szOf l[0].toNat = 1) : sg1 l = ((l[0].toNat : Int), 1) := by
  cases l with
  | nil => simp at h0
  | cons b r => simp only [List.getElem_cons_zero] at h ⊢; unfold sg1; simp only; rw [if_pos h]
theorem sg1_zero (l : List UInt8) (h0 : 0 < l.length) (h : szOf l[0].toNat = 0) : sg1 l = (0, 0) := by
  cases l with
  | nil => simp at h0
  | cons b r => simp only [List.getElem_cons_zero] at h; unfold sg1; simp only; rw [if_neg (by omega), if_pos (.inl h)]
theorem sg1_short (l : List UInt8) (n : Nat) (h0 : 0 < l.length) (h : szOf l[0].toNat = n) (hn : n ≠ 1) (hl : l.length < n) : sg1 l = (0, 0) := by
  cases l with
  | nil => simp at h0
  | cons b r => simp only [List.getElem_cons_zero] at h; unfold sg1; simp only; rw [if_neg (by omega), if_pos (.inr (by omega))]
theorem sg1_bad (l : List UInt8) (n : Nat) (h0 : 0 < l.length) (h : szOf l[0].toNat = n) (hn : n ≠ 1) (hb : ¬ ∀ x ∈ (l.drop 1).take (n - 1), isCont x = true) : sg1 l = (0, 0) := by
  cases l with
  | nil => simp at h0
  | cons b r =>
    simp only [List.getElem_cons_zero] at h
    simp only [List.drop_succ_cons, List.drop_zero] at hb
    unfold sg1
    simp only
    rw [if_neg (by omega), h]
    by_cases c : n = 0 ∨ (b :: r).length < n
    · rw [if_pos c]
    · rw [if_neg c, if_neg hb]
theorem sg1_good (l : List UInt8) (n : Nat) (h0 : 0 < l.length) (h : szOf l[0].toNat = n) (hn : n ≠ 1) (hz : n ≠ 0) (hl : n ≤ l.length) (hb : ∀ x ∈ (l.drop 1).take (n - 1), isCont x = true) :
    sg1 l = if leastN n ≤ cont (cOf l[0].toNat) ((l.drop 1).take (n - 1)) ∧ isSgn (cont (cOf l[0].toNat) ((l.drop 1).take (n - 1))) = true then ((cont (cOf l[0].toNat) ((l.drop 1).take (n - 1)) : Int), n) else (0, 0) := by
  cases l with
  | nil => simp at h0
  | cons b r =>
    simp only [List.getElem_cons_zero] at h ⊢
    simp only [List.drop_succ_cons, List.drop_zero] at hb ⊢
    unfold sg1
    simp only
    rw [if_neg (by omega), h, if_neg (by omega), if_pos hb]

theorem u8_and192 (x : Int) (h0 : 0 ≤ x) (h1 : x < 256) : bits .and .u8 x 192 = x / 64 * 64 := by
  obtain ⟨n, rfl⟩ := Int.eq_ofNat_of_zero_le h0
  have H : ∀ m : Fin 256, bits .and .u8 (m.val : Int) 192 = (m.val : Int) / 64 * 64 := by decide +kernel
  exact H ⟨n, by omega⟩

set_option maxRecDepth 1000000 in
set_option maxHeartbeats 6000000 in
theorem least2_any (w : World) : Calls Tryz.prog 145 #[.int .i64 2] w fun e w' => e = .returned (.int .i64 128) ∧ Below w.heap.size w w' := by
  have hc := (Own.lit (e := 3) (size := 1) (n := 5) (Below.refl w.heap.size w) (Nat.le_refl _) #[.int .i64 0, .int .i64 0, .int .i64 128, .int .i64 2048, .int .i64 65536] rfl (by decide)).cell 2 (by decide)
  go_enter Tryz.func145, Tryz.ntmps145
  go_wp2
  go_ret
  exact ⟨rfl, (Below.refl _ _).alloc (Nat.le_refl _) _⟩
set_option maxRecDepth 1000000 in
set_option maxHeartbeats 6000000 in
theorem least3_any (w : World) : Calls Tryz.prog 145 #[.int .i64 3] w fun e w' => e = .returned (.int .i64 2048) ∧ Below w.heap.size w w' := by
  have hc := (Own.lit (e := 3) (size := 1) (n := 5) (Below.refl w.heap.size w) (Nat.le_refl _) #[.int .i64 0, .int .i64 0, .int .i64 128, .int .i64 2048, .int .i64 65536] rfl (by decide)).cell 3 (by decide)
  go_enter Tryz.func145, Tryz.ntmps145
  go_wp2
  go_ret
  exact ⟨rfl, (Below.refl _ _).alloc (Nat.le_refl _) _⟩
set_option maxRecDepth 1000000 in
set_option maxHeartbeats 6000000 in
theorem least4_any (w : World) : Calls Tryz.prog 145 #[.int .i64 4] w fun e w' => e = .returned (.int .i64 65536) ∧ Below w.heap.size w w' := by
  have hc := (Own.lit (e := 3) (size := 1) (n := 5) (Below.refl w.heap.size w) (Nat.le_refl _) #[.int .i64 0, .int .i64 0, .int .i64 128, .int .i64 2048, .int .i64 65536] rfl (by decide)).cell 4 (by decide)
  go_enter Tryz.func145, Tryz.ntmps145
  go_wp2
  go_ret
  exact ⟨rfl, (Below.refl _ _).alloc (Nat.le_refl _) _⟩

set_option maxRecDepth 1000000 in
set_option maxHeartbeats 6000000 in
theorem signAt_any (s : ByteArray) (w : World) (h0 : 0 < s.size) (hs : s.size ≤ 1073741824) :
    Calls Tryz.prog 134 #[.string s] w fun e w' => e = .returned (sgV s.data.toList) ∧ Below w.heap.size w w' := by
  have hs0 : s.data.toList[0]'(by simpa using h0) = s[0] := rfl
  have hb0 := s[0].toNat_lt
  have hp0 : (0 : Int) < (s.size : Int) := by omega
  rcases (show s[0].toNat < 128 ∨ ((128 ≤ s[0].toNat ∧ s[0].toNat < 192) ∨ 248 ≤ s[0].toNat) ∨ (192 ≤ s[0].toNat ∧ s[0].toNat < 224) ∨ (224 ≤ s[0].toNat ∧ s[0].toNat < 240) ∨ (240 ≤ s[0].toNat ∧ s[0].toNat < 248) from by omega) with hr | hr | hr | hr | hr
  · have H : Hid (sg1 s.data.toList = ((s[0].toNat : Int), 1)) := Lib.hid (sg1_one _ (by simpa using h0) (by rw [hs0]; exact sz1 _ hr))
    clear hs0
    go_enter Tryz.func134, Tryz.ntmps134
    go_wp2
    go_ret2
    exact ⟨by rw [sgV, H.out]; rfl, Below.refl _ _⟩
  · have H : Hid (sg1 s.data.toList = (0, 0)) := Lib.hid (sg1_zero _ (by simpa using h0) (by rw [hs0]; exact sz0 _ hr))
    clear hs0
    rcases hr with hr | hr
    all_goals
      go_enter Tryz.func134, Tryz.ntmps134
      go_wp2_with (go_at_call 51; (first | refine (within_yes _ _ _ _ (by omega) (by omega)).mono ?_ | refine (within_no _ _ _ _ (by omega)).mono ?_); rintro e w' ⟨rfl, rfl⟩)
      go_ret2
      exact ⟨by rw [sgV, H.out]; rfl, Below.refl _ _⟩
  · obtain ⟨hr1, hr2⟩ := hr
    -- a sign of 2 bytes
    have hq := i64_and31 (s[0].toNat : Int) (by omega) (by omega)
    by_cases hlen : s.size < 2
    · have H : Hid (sg1 s.data.toList = (0, 0)) := Lib.hid (sg1_short s.data.toList 2 (by simpa using h0) (by rw [hs0]; exact sz2 _ (by omega) (by omega)) (by decide) (by simpa using hlen))
      have hl2 : (s.size : Int) < 2 := by omega
      clear hs0
      go_enter Tryz.func134, Tryz.ntmps134
      go_wp2_with (go_at_call 51; (first | refine (within_yes _ _ _ _ (by omega) (by omega)).mono ?_ | refine (within_no _ _ _ _ (by omega)).mono ?_); rintro e w' ⟨rfl, rfl⟩)
      go_ret2
      exact ⟨by rw [sgV, H.out]; rfl, Below.refl _ _⟩
    · have hl2 : ¬ (s.size : Int) < 2 := by omega
      have HSZ : Hid (szOf (s.data.toList[0]'(by simpa using h0)).toNat = 2) := Lib.hid (by rw [hs0]; exact sz2 _ (by omega) (by omega))
      have HS0 := Lib.hid hs0
      clear hs0
      go_enter Tryz.func134, Tryz.ntmps134
      go_wp2_with (go_at_call 51; (first | refine (within_yes _ _ _ _ (by omega) (by omega)).mono ?_ | refine (within_no _ _ _ _ (by omega)).mono ?_); rintro e w' ⟨rfl, rfl⟩)
      go_loopg [6, 7] 1 (fun g c i wr => ∃ j : Nat, j + g = 1 ∧ i = .int .i64 (1 + (j : Int)) ∧ c = .int .i64 (cont (s[0].toNat % 32) ((s.data.toList.drop 1).take j) : Nat) ∧ (∀ b ∈ (s.data.toList.drop 1).take j, isCont b = true) ∧ wr = w)
      case atStart => exact ⟨0, by omega, by go_num, by simp [cont], by simp, rfl⟩
      case round =>
        obtain ⟨j, hj, rfl, rfl, hall, rfl⟩ := hrel
        by_cases hlt : j < 1
        · have hjs : 1 + j < s.size := by omega
          have hD : ∃ h : j < (s.data.toList.drop 1).length, (s.data.toList.drop 1)[j]'h = s[1 + j] := ⟨by simp; omega, by simp only [List.getElem_drop]; rfl⟩
          obtain ⟨hD1, hD2⟩ := hD
          have hts : (s.data.toList.drop 1).take (j + 1) = (s.data.toList.drop 1).take j ++ [s[1 + j]] := by rw [List.take_succ_eq_append_getElem hD1, hD2]
          have hmem : s[1 + j] ∈ (s.data.toList.drop 1).take 1 := by
            rw [← hD2]
            exact List.mem_take_iff_getElem.2 ⟨j, by simp; omega, rfl⟩
          have hb0 := (s[1 + j]).toNat_lt
          have hcb := cont_lt (s[0].toNat % 32) ((s.data.toList.drop 1).take j)
          have hcb2 : cont (s[0].toNat % 32) ((s.data.toList.drop 1).take j) < 134217728 := by
            refine Nat.lt_of_lt_of_le hcb ?_
            have h2 : ((s.data.toList.drop 1).take j).length ≤ 3 := by rw [List.length_take]; omega
            have h3 := pow_le_of 64 _ 3 h2 (by decide)
            have h4 : s[0].toNat % 32 + 1 ≤ 32 := by omega
            exact Nat.le_trans (Nat.mul_le_mul h4 h3) (by decide)
          have ha := u8_and192 ((s[1 + j]).toNat : Int) (by omega) (by omega)
          have ha2 := u8_and63 ((s[1 + j]).toNat : Int) (by omega) (by omega)
          have hi0 : (0 : Int) ≤ 1 + (j : Int) := by omega
          have hi1 : 1 + (j : Int) < (s.size : Int) := by omega
          clear hcb hD2 hD1
          by_cases hco : isCont s[1 + j] = true
          · have H1 : Hid (cont (s[0].toNat % 32) ((s.data.toList.drop 1).take (j + 1)) = cont (s[0].toNat % 32) ((s.data.toList.drop 1).take j) * 64 + s[1 + j].toNat % 64) := Lib.hid (by rw [hts, cont_snoc])
            have H2 : Hid (∀ b ∈ (s.data.toList.drop 1).take (j + 1), isCont b = true) := Lib.hid (by
              rw [hts]
              intro b hb
              rcases List.mem_append.1 hb with hb | hb
              · exact hall b hb
              · rw [List.mem_singleton.1 hb]; exact hco)
            simp only [isCont, Bool.and_eq_true, decide_eq_true_eq] at hco
            have hne : (((s[1 + j]).toNat : Int) / 64 * 64 != 128) = false := by simp; omega
            have hor := i64_or 6 ((cont (s[0].toNat % 32) ((s.data.toList.drop 1).take j) : Int) * 64) (((s[1 + j]).toNat : Int) % 64) (by omega) (by omega) (by omega) (by omega) (by omega) (by omega)
            clear hts hmem hall hco
            generalize cont (s[0].toNat % 32) ((s.data.toList.drop 1).take j) = q at *
            go_wp2
            go_roundg (gk - 1)
            case measure => omega
            case rel => exact ⟨j + 1, by omega, by go_num, by rw [H1.out]; go_num, H2.out, rfl⟩
          · have H : Hid (sg1 s.data.toList = (0, 0)) := Lib.hid (sg1_bad s.data.toList 2 (by simpa using h0) HSZ.out (by decide) (by intro hh; exact hco (hh _ hmem)))
            have hne : (((s[1 + j]).toNat : Int) / 64 * 64 != 128) = true := by
              simp only [isCont, Bool.and_eq_true, decide_eq_true_eq] at hco
              simp; omega
            clear hts hmem hall hco
            generalize cont (s[0].toNat % 32) ((s.data.toList.drop 1).take j) = q at *
            go_wp2
            go_ret2
            exact ⟨by rw [sgV, H.out]; rfl, Below.refl _ _⟩
        · have hjn : j = 1 := by omega
          subst hjn
          have hcb := cont_lt (s[0].toNat % 32) ((s.data.toList.drop 1).take 1)
          have hlen3 : ((s.data.toList.drop 1).take 1).length = 1 := by rw [List.length_take, List.length_drop]; simp; omega
          rw [hlen3] at hcb
          have hcb2 : cont (s[0].toNat % 32) ((s.data.toList.drop 1).take 1) < 2048 := by
            have h4 : s[0].toNat % 32 + 1 ≤ 32 := by omega
            exact Nat.lt_of_lt_of_le hcb (Nat.le_trans (Nat.mul_le_mul_right _ h4) (by decide))
          have hV := sg1_good s.data.toList 2 (by simpa using h0) HSZ.out (by decide) (by decide) (by simp; omega) hall
          rw [HS0.out, show cOf s[0].toNat = s[0].toNat % 32 from c2 _ (by omega) (by omega)] at hV
          have HV := Lib.hid hV
          clear hV hall hcb hlen3
          generalize cont (s[0].toNat % 32) ((s.data.toList.drop 1).take 1) = q at *
          have hlst : leastN 2 = 128 := rfl
          by_cases hq1 : q < 128
          · have H : Hid (sg1 s.data.toList = (0, 0)) := Lib.hid (by rw [HV.out, if_neg (by rw [hlst]; omega)])
            clear hlst
            go_wp2_with (go_at_call 145; refine (least2_any _).mono ?_; rintro e w1 ⟨rfl, hb1⟩)
            go_ret2
            exact ⟨by rw [sgV, H.out]; rfl, hb1⟩
          · by_cases hq2 : isSgn q = true
            · have H : Hid (sg1 s.data.toList = ((q : Int), 2)) := Lib.hid (by rw [HV.out, if_pos ⟨by rw [hlst]; omega, hq2⟩])
              simp only [isSgn, decide_eq_true_eq] at hq2
              have k1 := hq2.1
              have k2 := hq2.2.1
              have HK : Hid ((q : Int) < 55296 ∨ 57343 < (q : Int)) := Lib.hid (by omega)
              clear hlst hq2
              go_wp2_with (first | (go_at_call 145; refine (least2_any _).mono ?_; rintro e w1 ⟨rfl, hb1⟩) | (go_at_call 135; refine (isSign_yes _ _ (by omega) (by omega) HK.out).mono ?_; rintro e w' ⟨rfl, rfl⟩))
              go_ret2
              exact ⟨by rw [sgV, H.out]; rfl, hb1⟩
            · have H : Hid (sg1 s.data.toList = (0, 0)) := Lib.hid (by rw [HV.out, if_neg (fun h => hq2 h.2)])
              simp only [isSgn, decide_eq_true_eq] at hq2
              have HK : Hid ((q : Int) < 0 ∨ 1114111 < (q : Int) ∨ (55296 ≤ (q : Int) ∧ (q : Int) ≤ 57343)) := Lib.hid (by omega)
              clear hlst hq2
              go_wp2_with (first | (go_at_call 145; refine (least2_any _).mono ?_; rintro e w1 ⟨rfl, hb1⟩) | (go_at_call 135; refine (isSign_no _ _ HK.out).mono ?_; rintro e w' ⟨rfl, rfl⟩))
              go_ret2
              exact ⟨by rw [sgV, H.out]; rfl, hb1⟩
  · obtain ⟨hr1, hr2⟩ := hr
    -- a sign of 3 bytes
    have hq := i64_and15 (s[0].toNat : Int) (by omega) (by omega)
    by_cases hlen : s.size < 3
    · have H : Hid (sg1 s.data.toList = (0, 0)) := Lib.hid (sg1_short s.data.toList 3 (by simpa using h0) (by rw [hs0]; exact sz3 _ (by omega) (by omega)) (by decide) (by simpa using hlen))
      have hl2 : (s.size : Int) < 3 := by omega
      clear hs0
      go_enter Tryz.func134, Tryz.ntmps134
      go_wp2_with (go_at_call 51; (first | refine (within_yes _ _ _ _ (by omega) (by omega)).mono ?_ | refine (within_no _ _ _ _ (by omega)).mono ?_); rintro e w' ⟨rfl, rfl⟩)
      go_ret2
      exact ⟨by rw [sgV, H.out]; rfl, Below.refl _ _⟩
    · have hl2 : ¬ (s.size : Int) < 3 := by omega
      have HSZ : Hid (szOf (s.data.toList[0]'(by simpa using h0)).toNat = 3) := Lib.hid (by rw [hs0]; exact sz3 _ (by omega) (by omega))
      have HS0 := Lib.hid hs0
      clear hs0
      go_enter Tryz.func134, Tryz.ntmps134
      go_wp2_with (go_at_call 51; (first | refine (within_yes _ _ _ _ (by omega) (by omega)).mono ?_ | refine (within_no _ _ _ _ (by omega)).mono ?_); rintro e w' ⟨rfl, rfl⟩)
      go_loopg [6, 7] 2 (fun g c i wr => ∃ j : Nat, j + g = 2 ∧ i = .int .i64 (1 + (j : Int)) ∧ c = .int .i64 (cont (s[0].toNat % 16) ((s.data.toList.drop 1).take j) : Nat) ∧ (∀ b ∈ (s.data.toList.drop 1).take j, isCont b = true) ∧ wr = w)
      case atStart => exact ⟨0, by omega, by go_num, by simp [cont], by simp, rfl⟩
      case round =>
        obtain ⟨j, hj, rfl, rfl, hall, rfl⟩ := hrel
        by_cases hlt : j < 2
        · have hjs : 1 + j < s.size := by omega
          have hD : ∃ h : j < (s.data.toList.drop 1).length, (s.data.toList.drop 1)[j]'h = s[1 + j] := ⟨by simp; omega, by simp only [List.getElem_drop]; rfl⟩
          obtain ⟨hD1, hD2⟩ := hD
          have hts : (s.data.toList.drop 1).take (j + 1) = (s.data.toList.drop 1).take j ++ [s[1 + j]] := by rw [List.take_succ_eq_append_getElem hD1, hD2]
          have hmem : s[1 + j] ∈ (s.data.toList.drop 1).take 2 := by
            rw [← hD2]
            exact List.mem_take_iff_getElem.2 ⟨j, by simp; omega, rfl⟩
          have hb0 := (s[1 + j]).toNat_lt
          have hcb := cont_lt (s[0].toNat % 16) ((s.data.toList.drop 1).take j)
          have hcb2 : cont (s[0].toNat % 16) ((s.data.toList.drop 1).take j) < 134217728 := by
            refine Nat.lt_of_lt_of_le hcb ?_
            have h2 : ((s.data.toList.drop 1).take j).length ≤ 3 := by rw [List.length_take]; omega
            have h3 := pow_le_of 64 _ 3 h2 (by decide)
            have h4 : s[0].toNat % 16 + 1 ≤ 32 := by omega
            exact Nat.le_trans (Nat.mul_le_mul h4 h3) (by decide)
          have ha := u8_and192 ((s[1 + j]).toNat : Int) (by omega) (by omega)
          have ha2 := u8_and63 ((s[1 + j]).toNat : Int) (by omega) (by omega)
          have hi0 : (0 : Int) ≤ 1 + (j : Int) := by omega
          have hi1 : 1 + (j : Int) < (s.size : Int) := by omega
          clear hcb hD2 hD1
          by_cases hco : isCont s[1 + j] = true
          · have H1 : Hid (cont (s[0].toNat % 16) ((s.data.toList.drop 1).take (j + 1)) = cont (s[0].toNat % 16) ((s.data.toList.drop 1).take j) * 64 + s[1 + j].toNat % 64) := Lib.hid (by rw [hts, cont_snoc])
            have H2 : Hid (∀ b ∈ (s.data.toList.drop 1).take (j + 1), isCont b = true) := Lib.hid (by
              rw [hts]
              intro b hb
              rcases List.mem_append.1 hb with hb | hb
              · exact hall b hb
              · rw [List.mem_singleton.1 hb]; exact hco)
            simp only [isCont, Bool.and_eq_true, decide_eq_true_eq] at hco
            have hne : (((s[1 + j]).toNat : Int) / 64 * 64 != 128) = false := by simp; omega
            have hor := i64_or 6 ((cont (s[0].toNat % 16) ((s.data.toList.drop 1).take j) : Int) * 64) (((s[1 + j]).toNat : Int) % 64) (by omega) (by omega) (by omega) (by omega) (by omega) (by omega)
            clear hts hmem hall hco
            generalize cont (s[0].toNat % 16) ((s.data.toList.drop 1).take j) = q at *
            go_wp2
            go_roundg (gk - 1)
            case measure => omega
            case rel => exact ⟨j + 1, by omega, by go_num, by rw [H1.out]; go_num, H2.out, rfl⟩
          · have H : Hid (sg1 s.data.toList = (0, 0)) := Lib.hid (sg1_bad s.data.toList 3 (by simpa using h0) HSZ.out (by decide) (by intro hh; exact hco (hh _ hmem)))
            have hne : (((s[1 + j]).toNat : Int) / 64 * 64 != 128) = true := by
              simp only [isCont, Bool.and_eq_true, decide_eq_true_eq] at hco
              simp; omega
            clear hts hmem hall hco
            generalize cont (s[0].toNat % 16) ((s.data.toList.drop 1).take j) = q at *
            go_wp2
            go_ret2
            exact ⟨by rw [sgV, H.out]; rfl, Below.refl _ _⟩
        · have hjn : j = 2 := by omega
          subst hjn
          have hcb := cont_lt (s[0].toNat % 16) ((s.data.toList.drop 1).take 2)
          have hlen3 : ((s.data.toList.drop 1).take 2).length = 2 := by rw [List.length_take, List.length_drop]; simp; omega
          rw [hlen3] at hcb
          have hcb2 : cont (s[0].toNat % 16) ((s.data.toList.drop 1).take 2) < 65536 := by
            have h4 : s[0].toNat % 16 + 1 ≤ 16 := by omega
            exact Nat.lt_of_lt_of_le hcb (Nat.le_trans (Nat.mul_le_mul_right _ h4) (by decide))
          have hV := sg1_good s.data.toList 3 (by simpa using h0) HSZ.out (by decide) (by decide) (by simp; omega) hall
          rw [HS0.out, show cOf s[0].toNat = s[0].toNat % 16 from c3 _ (by omega) (by omega)] at hV
          have HV := Lib.hid hV
          clear hV hall hcb hlen3
          generalize cont (s[0].toNat % 16) ((s.data.toList.drop 1).take 2) = q at *
          have hlst : leastN 3 = 2048 := rfl
          by_cases hq1 : q < 2048
          · have H : Hid (sg1 s.data.toList = (0, 0)) := Lib.hid (by rw [HV.out, if_neg (by rw [hlst]; omega)])
            clear hlst
            go_wp2_with (go_at_call 145; refine (least3_any _).mono ?_; rintro e w1 ⟨rfl, hb1⟩)
            go_ret2
            exact ⟨by rw [sgV, H.out]; rfl, hb1⟩
          · by_cases hq2 : isSgn q = true
            · have H : Hid (sg1 s.data.toList = ((q : Int), 3)) := Lib.hid (by rw [HV.out, if_pos ⟨by rw [hlst]; omega, hq2⟩])
              simp only [isSgn, decide_eq_true_eq] at hq2
              have k1 := hq2.1
              have k2 := hq2.2.1
              have HK : Hid ((q : Int) < 55296 ∨ 57343 < (q : Int)) := Lib.hid (by omega)
              clear hlst hq2
              go_wp2_with (first | (go_at_call 145; refine (least3_any _).mono ?_; rintro e w1 ⟨rfl, hb1⟩) | (go_at_call 135; refine (isSign_yes _ _ (by omega) (by omega) HK.out).mono ?_; rintro e w' ⟨rfl, rfl⟩))
              go_ret2
              exact ⟨by rw [sgV, H.out]; rfl, hb1⟩
            · have H : Hid (sg1 s.data.toList = (0, 0)) := Lib.hid (by rw [HV.out, if_neg (fun h => hq2 h.2)])
              simp only [isSgn, decide_eq_true_eq] at hq2
              have HK : Hid ((q : Int) < 0 ∨ 1114111 < (q : Int) ∨ (55296 ≤ (q : Int) ∧ (q : Int) ≤ 57343)) := Lib.hid (by omega)
              clear hlst hq2
              go_wp2_with (first | (go_at_call 145; refine (least3_any _).mono ?_; rintro e w1 ⟨rfl, hb1⟩) | (go_at_call 135; refine (isSign_no _ _ HK.out).mono ?_; rintro e w' ⟨rfl, rfl⟩))
              go_ret2
              exact ⟨by rw [sgV, H.out]; rfl, hb1⟩
  · obtain ⟨hr1, hr2⟩ := hr
    -- a sign of 4 bytes
    have hq := i64_and7 (s[0].toNat : Int) (by omega) (by omega)
    by_cases hlen : s.size < 4
    · have H : Hid (sg1 s.data.toList = (0, 0)) := Lib.hid (sg1_short s.data.toList 4 (by simpa using h0) (by rw [hs0]; exact sz4 _ (by omega) (by omega)) (by decide) (by simpa using hlen))
      have hl2 : (s.size : Int) < 4 := by omega
      clear hs0
      go_enter Tryz.func134, Tryz.ntmps134
      go_wp2_with (go_at_call 51; (first | refine (within_yes _ _ _ _ (by omega) (by omega)).mono ?_ | refine (within_no _ _ _ _ (by omega)).mono ?_); rintro e w' ⟨rfl, rfl⟩)
      go_ret2
      exact ⟨by rw [sgV, H.out]; rfl, Below.refl _ _⟩
    · have hl2 : ¬ (s.size : Int) < 4 := by omega
      have HSZ : Hid (szOf (s.data.toList[0]'(by simpa using h0)).toNat = 4) := Lib.hid (by rw [hs0]; exact sz4 _ (by omega) (by omega))
      have HS0 := Lib.hid hs0
      clear hs0
      go_enter Tryz.func134, Tryz.ntmps134
      go_wp2_with (go_at_call 51; (first | refine (within_yes _ _ _ _ (by omega) (by omega)).mono ?_ | refine (within_no _ _ _ _ (by omega)).mono ?_); rintro e w' ⟨rfl, rfl⟩)
      go_loopg [6, 7] 3 (fun g c i wr => ∃ j : Nat, j + g = 3 ∧ i = .int .i64 (1 + (j : Int)) ∧ c = .int .i64 (cont (s[0].toNat % 8) ((s.data.toList.drop 1).take j) : Nat) ∧ (∀ b ∈ (s.data.toList.drop 1).take j, isCont b = true) ∧ wr = w)
      case atStart => exact ⟨0, by omega, by go_num, by simp [cont], by simp, rfl⟩
      case round =>
        obtain ⟨j, hj, rfl, rfl, hall, rfl⟩ := hrel
        by_cases hlt : j < 3
        · have hjs : 1 + j < s.size := by omega
          have hD : ∃ h : j < (s.data.toList.drop 1).length, (s.data.toList.drop 1)[j]'h = s[1 + j] := ⟨by simp; omega, by simp only [List.getElem_drop]; rfl⟩
          obtain ⟨hD1, hD2⟩ := hD
          have hts : (s.data.toList.drop 1).take (j + 1) = (s.data.toList.drop 1).take j ++ [s[1 + j]] := by rw [List.take_succ_eq_append_getElem hD1, hD2]
          have hmem : s[1 + j] ∈ (s.data.toList.drop 1).take 3 := by
            rw [← hD2]
            exact List.mem_take_iff_getElem.2 ⟨j, by simp; omega, rfl⟩
          have hb0 := (s[1 + j]).toNat_lt
          have hcb := cont_lt (s[0].toNat % 8) ((s.data.toList.drop 1).take j)
          have hcb2 : cont (s[0].toNat % 8) ((s.data.toList.drop 1).take j) < 134217728 := by
            refine Nat.lt_of_lt_of_le hcb ?_
            have h2 : ((s.data.toList.drop 1).take j).length ≤ 3 := by rw [List.length_take]; omega
            have h3 := pow_le_of 64 _ 3 h2 (by decide)
            have h4 : s[0].toNat % 8 + 1 ≤ 32 := by omega
            exact Nat.le_trans (Nat.mul_le_mul h4 h3) (by decide)
          have ha := u8_and192 ((s[1 + j]).toNat : Int) (by omega) (by omega)
          have ha2 := u8_and63 ((s[1 + j]).toNat : Int) (by omega) (by omega)
          have hi0 : (0 : Int) ≤ 1 + (j : Int) := by omega
          have hi1 : 1 + (j : Int) < (s.size : Int) := by omega
          clear hcb hD2 hD1
          by_cases hco : isCont s[1 + j] = true
          · have H1 : Hid (cont (s[0].toNat % 8) ((s.data.toList.drop 1).take (j + 1)) = cont (s[0].toNat % 8) ((s.data.toList.drop 1).take j) * 64 + s[1 + j].toNat % 64) := Lib.hid (by rw [hts, cont_snoc])
            have H2 : Hid (∀ b ∈ (s.data.toList.drop 1).take (j + 1), isCont b = true) := Lib.hid (by
              rw [hts]
              intro b hb
              rcases List.mem_append.1 hb with hb | hb
              · exact hall b hb
              · rw [List.mem_singleton.1 hb]; exact hco)
            simp only [isCont, Bool.and_eq_true, decide_eq_true_eq] at hco
            have hne : (((s[1 + j]).toNat : Int) / 64 * 64 != 128) = false := by simp; omega
            have hor := i64_or 6 ((cont (s[0].toNat % 8) ((s.data.toList.drop 1).take j) : Int) * 64) (((s[1 + j]).toNat : Int) % 64) (by omega) (by omega) (by omega) (by omega) (by omega) (by omega)
            clear hts hmem hall hco
            generalize cont (s[0].toNat % 8) ((s.data.toList.drop 1).take j) = q at *
            go_wp2
            go_roundg (gk - 1)
            case measure => omega
            case rel => exact ⟨j + 1, by omega, by go_num, by rw [H1.out]; go_num, H2.out, rfl⟩
          · have H : Hid (sg1 s.data.toList = (0, 0)) := Lib.hid (sg1_bad s.data.toList 4 (by simpa using h0) HSZ.out (by decide) (by intro hh; exact hco (hh _ hmem)))
            have hne : (((s[1 + j]).toNat : Int) / 64 * 64 != 128) = true := by
              simp only [isCont, Bool.and_eq_true, decide_eq_true_eq] at hco
              simp; omega
            clear hts hmem hall hco
            generalize cont (s[0].toNat % 8) ((s.data.toList.drop 1).take j) = q at *
            go_wp2
            go_ret2
            exact ⟨by rw [sgV, H.out]; rfl, Below.refl _ _⟩
        · have hjn : j = 3 := by omega
          subst hjn
          have hcb := cont_lt (s[0].toNat % 8) ((s.data.toList.drop 1).take 3)
          have hlen3 : ((s.data.toList.drop 1).take 3).length = 3 := by rw [List.length_take, List.length_drop]; simp; omega
          rw [hlen3] at hcb
          have hcb2 : cont (s[0].toNat % 8) ((s.data.toList.drop 1).take 3) < 2097152 := by
            have h4 : s[0].toNat % 8 + 1 ≤ 8 := by omega
            exact Nat.lt_of_lt_of_le hcb (Nat.le_trans (Nat.mul_le_mul_right _ h4) (by decide))
          have hV := sg1_good s.data.toList 4 (by simpa using h0) HSZ.out (by decide) (by decide) (by simp; omega) hall
          rw [HS0.out, show cOf s[0].toNat = s[0].toNat % 8 from c4 _ (by omega) (by omega)] at hV
          have HV := Lib.hid hV
          clear hV hall hcb hlen3
          generalize cont (s[0].toNat % 8) ((s.data.toList.drop 1).take 3) = q at *
          have hlst : leastN 4 = 65536 := rfl
          by_cases hq1 : q < 65536
          · have H : Hid (sg1 s.data.toList = (0, 0)) := Lib.hid (by rw [HV.out, if_neg (by rw [hlst]; omega)])
            clear hlst
            go_wp2_with (go_at_call 145; refine (least4_any _).mono ?_; rintro e w1 ⟨rfl, hb1⟩)
            go_ret2
            exact ⟨by rw [sgV, H.out]; rfl, hb1⟩
          · by_cases hq2 : isSgn q = true
            · have H : Hid (sg1 s.data.toList = ((q : Int), 4)) := Lib.hid (by rw [HV.out, if_pos ⟨by rw [hlst]; omega, hq2⟩])
              simp only [isSgn, decide_eq_true_eq] at hq2
              have k1 := hq2.1
              have k2 := hq2.2.1
              have HK : Hid ((q : Int) < 55296 ∨ 57343 < (q : Int)) := Lib.hid (by omega)
              clear hlst hq2
              go_wp2_with (first | (go_at_call 145; refine (least4_any _).mono ?_; rintro e w1 ⟨rfl, hb1⟩) | (go_at_call 135; refine (isSign_yes _ _ (by omega) (by omega) HK.out).mono ?_; rintro e w' ⟨rfl, rfl⟩))
              go_ret2
              exact ⟨by rw [sgV, H.out]; rfl, hb1⟩
            · have H : Hid (sg1 s.data.toList = (0, 0)) := Lib.hid (by rw [HV.out, if_neg (fun h => hq2 h.2)])
              simp only [isSgn, decide_eq_true_eq] at hq2
              have HK : Hid ((q : Int) < 0 ∨ 1114111 < (q : Int) ∨ (55296 ≤ (q : Int) ∧ (q : Int) ≤ 57343)) := Lib.hid (by omega)
              clear hlst hq2
              go_wp2_with (first | (go_at_call 145; refine (least4_any _).mono ?_; rintro e w1 ⟨rfl, hb1⟩) | (go_at_call 135; refine (isSign_no _ _ HK.out).mono ?_; rintro e w' ⟨rfl, rfl⟩))
              go_ret2
              exact ⟨by rw [sgV, H.out]; rfl, hb1⟩
end Go.Proofs.YtlkfabkkjfmnmaaGreatDoor
