/- Is a text a name; its key; are two alike; its hash: the program's and the reference's come to one answer. -/
import Derived.Test.YtlkfabkkjfmnmaaGreatDoorAlikeF
import Derived.Test.YtlkfabkkjfmnmaaGreatDoorKnownI
import Derived.Test.YtlkfabkkjfmnmaaGreatDoorStrs
import Derived.Test.YtlkfabkkjfmnmaaGreatDoorDecode
import Derived.Test.YtlkfabkkjfmnmaaGreatDoorEncode
import Derived.Test.YtlkfabkkjfmnmaaGreatDoorFold
import Derived.Test.YtlkfabkkjfmnmaaGreatDoorApart
import Derived.Test.YtlkfabkkjfmnmaaGreatDoorApartS
import Derived.Test.YtlkfabkkjfmnmaaGreatDoorCrc
namespace Go.Proofs.YtlkfabkkjfmnmaaGreatDoor
open Go.RowKit

def nameB (s : ByteArray) : Bool := decB s.data.toList && decide (1 ≤ s.size ∧ s.size ≤ 24) && !(s.toList == [46]) && !(s.toList == [46, 46]) && (decR s.data.toList).all knownF
theorem decR_no (l : List UInt8) (h : decB l = false) : decR l = [] := by
  unfold decB at h
  unfold decR
  cases e : decO l with
  | none => rfl
  | some x => rw [e] at h; cases h
theorem decF_len : ∀ (f : Nat) (t : List UInt8) (l : List Int), decF f t = some l → l.length ≤ t.length := by
  intro f
  induction f with
  | zero =>
    intro t l h
    cases t with
    | nil => simp [decF] at h; simp [h]
    | cons b r => simp [decF] at h
  | succ f ih =>
    intro t l h
    cases t with
    | nil => simp [decF] at h; simp [h]
    | cons b r =>
      rw [decF_cons] at h
      split at h
      · cases h
      · rename_i h0
        obtain ⟨l', hl', rfl⟩ := Option.map_eq_some_iff.1 h
        have h1 := ih _ _ hl'
        have h2 := (sg1_le (b :: r)).1
        simp only [List.length_drop, List.length_cons] at h1 h2 ⊢
        omega
theorem decR_len (t : List UInt8) : (decR t).length ≤ t.length := by
  unfold decR
  cases e : decO t with
  | none => simp
  | some l => exact decF_len _ _ _ e
theorem all_step {α : Type} (l : List α) (p : α → Bool) (k : Nat) (h : k < l.length) (h0 : (l.take k).all p = true) (hp : p l[k] = true) : (l.take (k + 1)).all p = true := by
  rw [List.take_succ_eq_append_getElem h, List.all_append, h0, List.all_cons, List.all_nil, hp]; rfl
theorem all_no {α : Type} (l : List α) (p : α → Bool) (k : Nat) (h : k < l.length) (hp : p l[k] = false) : l.all p = false := by
  rw [Bool.eq_false_iff]
  intro c
  rw [List.all_eq_true] at c
  rw [c _ (List.getElem_mem h)] at hp
  cases hp
set_option maxRecDepth 1000000 in
set_option maxHeartbeats 6000000 in
theorem implNameOk_any (s : ByteArray) (w : World) (hs : s.size ≤ 1073741824) (hT : KTab w) : Calls Tryz.prog 107 #[.string s] w fun e w' => e = .returned (.bool (nameB s)) ∧ Below w.heap.size w w' := by
  have HT := Lib.hid hT
  clear hT
  go_enter Tryz.func107, Tryz.ntmps107
  go_wp2_with fail
  refine (implDecode_any s _ hs).mono ?_
  rintro e w1 ⟨a, c, rfl, hO⟩
  have HO := Lib.hid hO
  have HD := Lib.hid (decR_no s.data.toList)
  have HB : Hid (nameB s = (decB s.data.toList && decide (1 ≤ s.size ∧ s.size ≤ 24) && !(s.toList == [46]) && !(s.toList == [46, 46]) && (decR s.data.toList).all knownF)) := Lib.hid rfl
  have hlen : (decR s.data.toList).length ≤ s.size := Nat.le_trans (decR_len _) (Nat.le_of_eq Array.length_toList)
  clear hO
  generalize decR s.data.toList = l at *
  generalize decB s.data.toList = ok at *
  cases ok with
  | false =>
    go_wp2
    go_ret
    exact ⟨ret_bool (by rw [HB.out]; rfl), HO.out.below⟩
  | true =>
    by_cases hin : 1 ≤ s.size ∧ s.size ≤ 24
    · have HI := Lib.hid hin
      obtain ⟨h1, h2⟩ := hin
      cases h46 : (s.toList == [46]) with
      | true =>
        go_wp2_with (first | (go_at_call 51; (first | refine (within_yes _ _ _ _ (by omega) (by omega)).mono ?_ | refine (within_no _ _ _ _ (by omega)).mono ?_); rintro e w' ⟨rfl, rfl⟩))
        go_ret
        exact ⟨ret_bool (by rw [HB.out, h46]; simp), HO.out.below⟩
      | false =>
        cases h47 : (s.toList == [46, 46]) with
        | true =>
          go_wp2_with (first | (go_at_call 51; (first | refine (within_yes _ _ _ _ (by omega) (by omega)).mono ?_ | refine (within_no _ _ _ _ (by omega)).mono ?_); rintro e w' ⟨rfl, rfl⟩))
          go_ret
          exact ⟨ret_bool (by rw [HB.out, h47]; simp), HO.out.below⟩
        | false =>
          have HF : Hid (nameB s = l.all knownF) := Lib.hid (by rw [HB.out, h46, h47, decide_eq_true HI.out]; simp)
          clear HB HD HI
          go_wp2_with (first | (go_at_call 51; (first | refine (within_yes _ _ _ _ (by omega) (by omega)).mono ?_ | refine (within_no _ _ _ _ (by omega)).mono ?_); rintro e w' ⟨rfl, rfl⟩))
          go_loopg [6, 30] l.length (fun gg x6 i wr => ∃ k : Nat, k + gg = l.length ∧ i = .int .i64 (k : Int) ∧ Hid ((l.take k).all knownF = true) ∧ Hid (Below w1.heap.size w1 wr))
          case atStart => exact ⟨0, by omega, rfl, Lib.hid rfl, Lib.hid (Below.refl _ _)⟩
          case round =>
            obtain ⟨k, hk, rfl, HA, HW⟩ := hrel
            by_cases hlt : k < l.length
            · have hr := (HO.out.rd.below HW.out (Nat.le_refl _))
              obtain ⟨b, off, rfl, hbs, hc⟩ := hr.at' (by omega)
              have hc1 := hc k (by simpa using hlt)
              rw [ints_get l k hlt] at hc1
              have HN := Lib.hid (all_step l knownF k hlt HA.out)
              have HX := Lib.hid (all_no l knownF k hlt)
              have hi : (k : Int) < (l.length : Int) := by omega
              have hkT := Lib.hid ((HT.out.step HO.out.below).below HW.out (Nat.le_refl _))
              clear hc hr hbs
              generalize l[k] = x at *
              clear hlt
              go_wp2_with fail
              refine (implKnown_any x _ hkT.out).mono ?_
              rintro e w2 ⟨rfl, hb⟩
              have HW2 := Lib.hid (HW.out.trans (hb.mono HW.out.size))
              clear hb
              cases hkx : knownF x with
              | true =>
                have HN2 := Lib.hid (HN.out hkx)
                clear HN HX hkx
                go_wp2
                go_roundg (gk - 1)
                case measure => omega
                case rel => exact ⟨k + 1, by omega, by go_num, HN2, HW2⟩
              | false =>
                have HE := Lib.hid (HX.out hkx)
                clear HN HX hkx
                go_wp2
                go_ret
                exact ⟨ret_bool (by rw [HF.out]; exact HE.out.symm), HO.out.below.trans (HW2.out.mono HO.out.below.size)⟩
            · have hi : ¬ (k : Int) < (l.length : Int) := by omega
              have HE : Hid (l.all knownF = true) := Lib.hid (by have := HA.out; rwa [List.take_of_length_le (by omega)] at this)
              go_wp2
              go_ret
              exact ⟨ret_bool (by rw [HF.out]; exact HE.out.symm), HO.out.below.trans (HW.out.mono HO.out.below.size)⟩
    · have HI := Lib.hid hin
      have hin2 : (s.size : Int) < 1 ∨ 24 < (s.size : Int) := by omega
      clear hin
      go_wp2_with (first | (go_at_call 51; (first | refine (within_yes _ _ _ _ (by omega) (by omega)).mono ?_ | refine (within_no _ _ _ _ (by omega)).mono ?_); rintro e w' ⟨rfl, rfl⟩))
      go_ret
      exact ⟨ret_bool (by rw [HB.out, decide_eq_false HI.out]; rfl), HO.out.below⟩
set_option maxRecDepth 1000000 in
set_option maxHeartbeats 6000000 in
theorem specNameOk_any (s : ByteArray) (w : World) (hs : s.size ≤ 1073741824) : Calls Tryz.prog 93 #[.string s] w fun e w' => e = .returned (.bool (nameB s)) ∧ Below w.heap.size w w' := by
  have HD := Lib.hid (decR_no s.data.toList)
  have HB : Hid (nameB s = (decB s.data.toList && decide (1 ≤ s.size ∧ s.size ≤ 24) && !(s.toList == [46]) && !(s.toList == [46, 46]) && (decR s.data.toList).all knownF)) := Lib.hid rfl
  by_cases hin : 1 ≤ s.size ∧ s.size ≤ 24
  · have HI := Lib.hid hin
    obtain ⟨h1, h2⟩ := hin
    cases h46 : (s.toList == [46]) with
    | true =>
      go_enter Tryz.func93, Tryz.ntmps93
      go_wp2_with (first | (go_at_call 39; (first | refine (l1In_yes _ _ _ _ (by omega) (by omega)).mono ?_ | refine (l1In_no _ _ _ _ (by omega)).mono ?_); rintro e w' ⟨rfl, rfl⟩))
      go_ret
      exact ⟨ret_bool (by rw [HB.out, h46]; simp), Below.refl _ _⟩
    | false =>
      cases h47 : (s.toList == [46, 46]) with
      | true =>
        go_enter Tryz.func93, Tryz.ntmps93
        go_wp2_with (first | (go_at_call 39; (first | refine (l1In_yes _ _ _ _ (by omega) (by omega)).mono ?_ | refine (l1In_no _ _ _ _ (by omega)).mono ?_); rintro e w' ⟨rfl, rfl⟩))
        go_ret
        exact ⟨ret_bool (by rw [HB.out, h47]; simp), Below.refl _ _⟩
      | false =>
        have HF : Hid (nameB s = (decB s.data.toList && (decR s.data.toList).all knownF)) := Lib.hid (by rw [HB.out, h46, h47, decide_eq_true HI.out]; simp)
        clear HB HI
        go_enter Tryz.func93, Tryz.ntmps93
        go_wp2_with (first | (go_at_call 39; (first | refine (l1In_yes _ _ _ _ (by omega) (by omega)).mono ?_ | refine (l1In_no _ _ _ _ (by omega)).mono ?_); rintro e w' ⟨rfl, rfl⟩) | fail)
        refine (specDecode_any s _ hs).mono ?_
        rintro e w1 ⟨a, c, rfl, hO⟩
        have HO := Lib.hid hO
        have hlen : (decR s.data.toList).length ≤ s.size := Nat.le_trans (decR_len _) (Nat.le_of_eq Array.length_toList)
        clear hO
        generalize decR s.data.toList = l at *
        generalize decB s.data.toList = ok at *
        go_wp2
        go_loopg [4, 5] l.length (fun gg b i wr => ∃ k : Nat, k + gg = l.length ∧ i = .int .i64 (k : Int) ∧ b = .bool (ok && (l.take k).all knownF) ∧ Hid (Below w1.heap.size w1 wr))
        case atStart => exact ⟨0, by omega, rfl, by simp, Lib.hid (Below.refl _ _)⟩
        case round =>
          obtain ⟨k, hk, rfl, rfl, HW⟩ := hrel
          by_cases hlt : k < l.length
          · have hr := (HO.out.rd.below HW.out (Nat.le_refl _))
            obtain ⟨b, off, rfl, hbs, hc⟩ := hr.at' (by omega)
            have hc1 := hc k (by simpa using hlt)
            rw [ints_get l k hlt] at hc1
            have HN : Hid ((ok && (l.take (k + 1)).all knownF) = (ok && (l.take k).all knownF && knownF l[k])) := Lib.hid (by rw [List.take_succ_eq_append_getElem hlt, List.all_append, List.all_cons, List.all_nil, Bool.and_true, Bool.and_assoc])
            have hi : (k : Int) < (l.length : Int) := by omega
            clear hc hr hbs
            generalize l[k] = x at *
            generalize (ok && (l.take k).all knownF) = t at *
            clear hlt
            cases t with
            | true =>
              go_wp2_with fail
              refine (specKnown_any x _).mono ?_
              rintro e w2 ⟨rfl, hb⟩
              have HW2 := Lib.hid (HW.out.trans (hb.mono HW.out.size))
              clear hb
              go_wp2
              go_roundg (gk - 1)
              case measure => omega
              case rel => exact ⟨k + 1, by omega, by go_num, by rw [HN.out]; simp, HW2⟩
            | false =>
              go_wp2
              go_roundg (gk - 1)
              case measure => omega
              case rel => exact ⟨k + 1, by omega, by go_num, by rw [HN.out]; rfl, HW⟩
          · have hi : ¬ (k : Int) < (l.length : Int) := by omega
            have HE : Hid ((ok && (l.take k).all knownF) = (ok && l.all knownF)) := Lib.hid (by rw [List.take_of_length_le (by omega)])
            go_wp2
            go_ret
            exact ⟨ret_bool (by rw [HF.out]; exact HE.out), HO.out.below.trans (HW.out.mono HO.out.below.size)⟩
  · have HI := Lib.hid hin
    have hin2 : (s.size : Int) < 1 ∨ 24 < (s.size : Int) := by omega
    clear hin
    go_enter Tryz.func93, Tryz.ntmps93
    go_wp2_with (first | (go_at_call 39; (first | refine (l1In_yes _ _ _ _ (by omega) (by omega)).mono ?_ | refine (l1In_no _ _ _ _ (by omega)).mono ?_); rintro e w' ⟨rfl, rfl⟩))
    go_ret
    exact ⟨ret_bool (by rw [HB.out, decide_eq_false HI.out]; simp), Below.refl _ _⟩
end Go.Proofs.YtlkfabkkjfmnmaaGreatDoor
