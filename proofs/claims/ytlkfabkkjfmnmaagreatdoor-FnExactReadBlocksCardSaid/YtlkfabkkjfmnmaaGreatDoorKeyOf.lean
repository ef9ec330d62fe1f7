/- The key of a name; are two names alike; the hash: the program's and the reference's come to one answer. (Printed by gen_keyof.py.) -/
import Derived.Test.YtlkfabkkjfmnmaaGreatDoorNameOk
import Derived.Test.YtlkfabkkjfmnmaaGreatDoorCrcF
namespace Go.Proofs.YtlkfabkkjfmnmaaGreatDoor
open Go.RowKit

theorem takeF_mem (x : Int) : ∀ (n : Nat) (c : Int), x ∈ takeF n c → x = c ∨ (0 ≤ x ∧ x ≤ 65535) := by
  intro n
  induction n with
  | zero => intro c h; left; simpa [takeF] using h
  | succ n ih =>
    intro c h
    rw [takeF] at h
    split at h
    · left; simpa using h
    · obtain ⟨y, hy, hx⟩ := List.mem_flatMap.1 h
      rcases ih y hx with rfl | h2
      · exact .inr (partsF_range c x hy)
      · exact .inr h2
theorem apartF_wide (l : List Int) (h : ∀ x ∈ l, 0 ≤ x ∧ x ≤ 1114143) : ∀ x ∈ apartF l, 0 ≤ x ∧ x ≤ 1114143 := by
  intro x hx
  unfold apartF at hx
  rw [insAll_mem] at hx
  obtain ⟨c, hc, hx⟩ := List.mem_flatMap.1 hx
  rcases takeF_mem x 3 c hx with rfl | h2
  · exact h x hc
  · omega
theorem decR_wide (t : List UInt8) : ∀ x ∈ decR t, 0 ≤ x ∧ x ≤ 1114143 := by
  intro x hx
  unfold decR at hx
  cases e : decO t with
  | none => rw [e] at hx; simp at hx
  | some l =>
    rw [e] at hx
    have := (isSgn_iff x).1 (decO_sgn t l e x hx)
    omega
/-- The key of a text. -/
def keyS (s : ByteArray) : ByteArray := ⟨(encL (keyZ (decR s.data.toList))).toArray⟩
def keyR (s : ByteArray) : ByteArray := if nameB s = true then keyS s else ByteArray.empty
def alikeB (s t : ByteArray) : Bool := nameB s && nameB t && (keyS s).toList == (keyS t).toList
def hashF (s : ByteArray) : Int := if nameB s = true then crcF (keyS s).data.toList % 16 else -1
theorem nameB_size (s : ByteArray) (h : nameB s = true) : s.size ≤ 24 := by
  unfold nameB at h
  simp only [Bool.and_eq_true, decide_eq_true_eq] at h
  exact h.1.1.1.2.2
theorem encs_size (l : List Int) : (encL l).length ≤ 4 * l.length := by
  have h1 := encs_len l
  unfold encL
  split <;> simp <;> omega
theorem keyS_size (s : ByteArray) (h : nameB s = true) : (keyS s).size ≤ 1000000 := by
  have h0 := nameB_size s h
  have h1 := decR_len s.data.toList
  have h2 : s.data.toList.length = s.size := Array.length_toList
  have h3 := apartF_len (decR s.data.toList)
  have h4 := foldL_len (apartF (decR s.data.toList))
  have h5 := apartF_len (foldL (apartF (decR s.data.toList)))
  have h6 := encs_size (keyZ (decR s.data.toList))
  have h7 : (keyS s).size = (encL (keyZ (decR s.data.toList))).length := List.size_toArray
  unfold keyZ at h6 h7
  omega

set_option maxRecDepth 1000000 in
set_option maxHeartbeats 6000000 in
theorem implKeyOf_any (s : ByteArray) (w : World) (hs : s.size ≤ 1073741824) (hT : KTab w) : Calls Tryz.prog 80 #[.string s] w fun e w' => e = .returned (.tuple #[.string (keyR s), .bool (nameB s)]) ∧ Below w.heap.size w w' := by
  have HT := Lib.hid hT
  clear hT
  go_enter Tryz.func80, Tryz.ntmps80
  go_wp2_with fail
  refine (implNameOk_any s _ hs HT.out).mono ?_
  rintro e w1 ⟨rfl, hb⟩
  have HB1 := Lib.hid hb
  clear hb
  have HK : Hid (keyR s = if nameB s = true then keyS s else ByteArray.empty) := Lib.hid rfl
  have HSZ : Hid (nameB s = true → s.size ≤ 24) := Lib.hid (nameB_size s)
  obtain ⟨nb, hnb⟩ : ∃ b, nameB s = b := ⟨_, rfl⟩
  rw [hnb] at HK HSZ ⊢
  have HN := Lib.hid hnb
  clear hnb
  cases nb with
  | false =>
    go_wp2
    go_ret2
    exact ⟨by rw [HK.out, HN.out]; rfl, HB1.out⟩
  | true =>
    have hs24 := HSZ.out rfl
    go_wp2_with fail
    refine (implDecode_any s _ hs).mono ?_
    rintro e w2 ⟨a1, c1, rfl, hO⟩
    have HR := Lib.hid hO.rd
    have HB2 := Lib.hid (below_step1 HB1.out hO.below)
    have hl1 : (decR s.data.toList).length ≤ 24 := by have h1 := decR_len s.data.toList; have h2 : s.data.toList.length = s.size := Array.length_toList; omega
    have HW := Lib.hid (decR_wide s.data.toList)
    have HK2 : Hid (keyR s = ⟨(encL (apartF (foldL (apartF (decR s.data.toList))))).toArray⟩) := Lib.hid HK.out
    clear hO HB1 HK HSZ
    generalize decR s.data.toList = l1 at *
    generalize decB s.data.toList = b1 at *
    go_wp2_with fail
    refine (implApart_any _ _ _ l1 _ HR.out (by omega)).mono ?_
    rintro e w3 ⟨a2, c2, rfl, hO⟩
    have HR2 := Lib.hid hO.rd
    have HB3 := Lib.hid (below_step1 HB2.out hO.below)
    have hl2 := apartF_len l1
    have HW2 := Lib.hid (apartF_wide l1 HW.out)
    clear hO HR HB2 HW
    generalize apartF l1 = l2 at *
    go_wp2_with fail
    refine (implFold_any _ _ _ l2 _ HR2.out (by omega) (fun x hx => by have := HW2.out x hx; omega)).mono ?_
    rintro e w4 ⟨a3, c3, rfl, hO⟩
    have HR3 := Lib.hid hO.rd
    have HB4 := Lib.hid (below_step1 HB3.out hO.below)
    have hl3 := foldL_len l2
    clear hO HR2 HB3 HW2
    generalize foldL l2 = l3 at *
    go_wp2_with fail
    refine (implApart_any _ _ _ l3 _ HR3.out (by omega)).mono ?_
    rintro e w5 ⟨a4, c4, rfl, hO⟩
    have HR4 := Lib.hid hO.rd
    have HB5 := Lib.hid (below_step1 HB4.out hO.below)
    have hl4 := apartF_len l3
    clear hO HR3 HB4
    generalize apartF l3 = l4 at *
    go_wp2_with fail
    refine (implEncode_any _ _ _ l4 _ HR4.out (by omega)).mono ?_
    rintro e w6 ⟨rfl, hb⟩
    have HB6 := Lib.hid (below_step1 HB5.out hb)
    clear hb HR4 HB5
    go_wp2
    go_ret2
    exact ⟨by rw [HK2.out, HN.out]; rfl, HB6.out⟩
set_option maxRecDepth 1000000 in
set_option maxHeartbeats 6000000 in
theorem implHashOf_any (s : ByteArray) (w : World) (hs : s.size ≤ 1073741824) (hT : KTab w) : Calls Tryz.prog 54 #[.string s] w fun e w' => e = .returned (.int .i64 (hashF s)) ∧ Below w.heap.size w w' := by
  have HT := Lib.hid hT
  clear hT
  go_enter Tryz.func54, Tryz.ntmps54
  go_wp2_with fail
  refine (implKeyOf_any s _ hs HT.out).mono ?_
  rintro e w1 ⟨rfl, hb⟩
  have HB1 := Lib.hid hb
  clear hb
  have HH : Hid (hashF s = if nameB s = true then crcF (keyS s).data.toList % 16 else -1) := Lib.hid rfl
  have HK1 : Hid (keyR s = if nameB s = true then keyS s else ByteArray.empty) := Lib.hid rfl
  have HZ : Hid (nameB s = true → (keyS s).size ≤ 1000000) := Lib.hid (keyS_size s)
  generalize nameB s = b1 at *
  cases b1 with
  | false =>
    go_wp2
    go_ret
    exact ⟨ret_int (by rw [HH.out]; rfl), HB1.out⟩
  | true =>
    have HH2 : Hid (hashF s = crcF (keyR s).data.toList % 16) := Lib.hid (by rw [HH.out, HK1.out]; rfl)
    have hz : (keyR s).size ≤ 140737488355328 := by have h1 := HZ.out rfl; have h2 : keyR s = keyS s := HK1.out; rw [h2]; omega
    clear HH HK1 HZ
    generalize keyR s = x at *
    have hc := crcF_range x.data.toList
    go_wp2_with fail
    refine (implCrc_any x _ hz).mono ?_
    rintro e w2 ⟨rfl, rfl⟩
    generalize crcF x.data.toList = y at *
    have hy : y.tmod 16 = y % 16 := Int.tmod_eq_emod_of_nonneg hc.1
    have hyw : IntKind.i64.wrap (y.tmod 16) = y % 16 := by rw [hy]; exact IntWalk.i64_in _ ⟨by omega, by omega⟩
    go_wp2
    go_ret
    exact ⟨ret_int (by rw [HH2.out]), HB1.out⟩
set_option maxRecDepth 1000000 in
set_option maxHeartbeats 6000000 in
theorem specKeyOf_any (s : ByteArray) (w : World) (hs : s.size ≤ 1073741824) : Calls Tryz.prog 78 #[.string s] w fun e w' => e = .returned (.tuple #[.string (keyR s), .bool (nameB s)]) ∧ Below w.heap.size w w' := by
  go_enter Tryz.func78, Tryz.ntmps78
  go_wp2_with fail
  refine (specNameOk_any s _ hs).mono ?_
  rintro e w1 ⟨rfl, hb⟩
  have HB1 := Lib.hid hb
  clear hb
  have HK : Hid (keyR s = if nameB s = true then keyS s else ByteArray.empty) := Lib.hid rfl
  have HSZ : Hid (nameB s = true → s.size ≤ 24) := Lib.hid (nameB_size s)
  obtain ⟨nb, hnb⟩ : ∃ b, nameB s = b := ⟨_, rfl⟩
  rw [hnb] at HK HSZ ⊢
  have HN := Lib.hid hnb
  clear hnb
  cases nb with
  | false =>
    go_wp2
    go_ret2
    exact ⟨by rw [HK.out, HN.out]; rfl, HB1.out⟩
  | true =>
    have hs24 := HSZ.out rfl
    go_wp2_with fail
    refine (specDecode_any s _ hs).mono ?_
    rintro e w2 ⟨a1, c1, rfl, hO⟩
    have HR := Lib.hid hO.rd
    have HB2 := Lib.hid (below_step1 HB1.out hO.below)
    have hl1 : (decR s.data.toList).length ≤ 24 := by have h1 := decR_len s.data.toList; have h2 : s.data.toList.length = s.size := Array.length_toList; omega
    have HW := Lib.hid (decR_wide s.data.toList)
    have HK2 : Hid (keyR s = ⟨(encL (apartF (foldL (apartF (decR s.data.toList))))).toArray⟩) := Lib.hid HK.out
    clear hO HB1 HK HSZ
    generalize decR s.data.toList = l1 at *
    generalize decB s.data.toList = b1 at *
    go_wp2_with fail
    refine (specApart_any _ _ _ l1 _ HR.out (by omega)).mono ?_
    rintro e w3 ⟨a2, c2, rfl, hO⟩
    have HR2 := Lib.hid hO.rd
    have HB3 := Lib.hid (below_step1 HB2.out hO.below)
    have hl2 := apartF_len l1
    have HW2 := Lib.hid (apartF_wide l1 HW.out)
    clear hO HR HB2 HW
    generalize apartF l1 = l2 at *
    go_wp2_with fail
    refine (specFold_any _ _ _ l2 _ HR2.out (by omega) (fun x hx => by have := HW2.out x hx; omega)).mono ?_
    rintro e w4 ⟨a3, c3, rfl, hO⟩
    have HR3 := Lib.hid hO.rd
    have HB4 := Lib.hid (below_step1 HB3.out hO.below)
    have hl3 := foldL_len l2
    clear hO HR2 HB3 HW2
    generalize foldL l2 = l3 at *
    go_wp2_with fail
    refine (specApart_any _ _ _ l3 _ HR3.out (by omega)).mono ?_
    rintro e w5 ⟨a4, c4, rfl, hO⟩
    have HR4 := Lib.hid hO.rd
    have HB5 := Lib.hid (below_step1 HB4.out hO.below)
    have hl4 := apartF_len l3
    clear hO HR3 HB4
    generalize apartF l3 = l4 at *
    go_wp2_with fail
    refine (specEncode_any _ _ _ l4 _ HR4.out (by omega)).mono ?_
    rintro e w6 ⟨rfl, hb⟩
    have HB6 := Lib.hid (below_step1 HB5.out hb)
    clear hb HR4 HB5
    go_wp2
    go_ret2
    exact ⟨by rw [HK2.out, HN.out]; rfl, HB6.out⟩
set_option maxRecDepth 1000000 in
set_option maxHeartbeats 6000000 in
theorem specAlike_any (s t : ByteArray) (w : World) (hs : s.size ≤ 1073741824) (ht : t.size ≤ 1073741824) : Calls Tryz.prog 95 #[.string s, .string t] w fun e w' => e = .returned (.bool (alikeB s t)) ∧ Below w.heap.size w w' := by
  go_enter Tryz.func95, Tryz.ntmps95
  go_wp2_with fail
  refine (specKeyOf_any s _ hs).mono ?_
  rintro e w1 ⟨rfl, hb⟩
  have HB1 := Lib.hid hb
  clear hb
  go_wp2_with fail
  refine (specKeyOf_any t _ ht).mono ?_
  rintro e w2 ⟨rfl, hb⟩
  have HB2 := Lib.hid (below_step1 HB1.out hb)
  clear hb HB1
  have HA : Hid (alikeB s t = (nameB s && nameB t && (keyS s).toList == (keyS t).toList)) := Lib.hid rfl
  have HK1 : Hid (keyR s = if nameB s = true then keyS s else ByteArray.empty) := Lib.hid rfl
  have HK2 : Hid (keyR t = if nameB t = true then keyS t else ByteArray.empty) := Lib.hid rfl
  generalize nameB s = b1 at *
  generalize nameB t = b2 at *
  cases b1 with
  | false =>
    go_wp2
    go_ret
    exact ⟨ret_bool (by rw [HA.out]; rfl), HB2.out⟩
  | true =>
    cases b2 with
    | false =>
      go_wp2
      go_ret
      exact ⟨ret_bool (by rw [HA.out]; rfl), HB2.out⟩
    | true =>
      have HA2 : Hid (alikeB s t = ((keyR s).toList == (keyR t).toList)) := Lib.hid (by rw [HA.out, HK1.out, HK2.out]; simp)
      clear HA HK1 HK2
      generalize keyR s = x at *
      generalize keyR t = y at *
      cases he : (x.toList == y.toList) with
      | true =>
        have HE := Lib.hid he
        go_wp2
        go_ret
        exact ⟨ret_bool (by rw [HA2.out, HE.out]), HB2.out⟩
      | false =>
        have HE := Lib.hid he
        go_wp2
        go_ret
        exact ⟨ret_bool (by rw [HA2.out, HE.out]), HB2.out⟩
set_option maxRecDepth 1000000 in
set_option maxHeartbeats 6000000 in
theorem specHashOf_any (s : ByteArray) (w : World) (hs : s.size ≤ 1073741824) : Calls Tryz.prog 50 #[.string s] w fun e w' => e = .returned (.int .i64 (hashF s)) ∧ Below w.heap.size w w' := by
  go_enter Tryz.func50, Tryz.ntmps50
  go_wp2_with fail
  refine (specKeyOf_any s _ hs).mono ?_
  rintro e w1 ⟨rfl, hb⟩
  have HB1 := Lib.hid hb
  clear hb
  have HH : Hid (hashF s = if nameB s = true then crcF (keyS s).data.toList % 16 else -1) := Lib.hid rfl
  have HK1 : Hid (keyR s = if nameB s = true then keyS s else ByteArray.empty) := Lib.hid rfl
  have HZ : Hid (nameB s = true → (keyS s).size ≤ 1000000) := Lib.hid (keyS_size s)
  generalize nameB s = b1 at *
  cases b1 with
  | false =>
    go_wp2
    go_ret
    exact ⟨ret_int (by rw [HH.out]; rfl), HB1.out⟩
  | true =>
    have HH2 : Hid (hashF s = crcF (keyR s).data.toList % 16) := Lib.hid (by rw [HH.out, HK1.out]; rfl)
    have hz : (keyR s).size ≤ 140737488355328 := by have h1 := HZ.out rfl; have h2 : keyR s = keyS s := HK1.out; rw [h2]; omega
    clear HH HK1 HZ
    generalize keyR s = x at *
    have hc := crcF_range x.data.toList
    go_wp2_with fail
    refine (specCrc_any x _ hz).mono ?_
    rintro e w2 ⟨rfl, rfl⟩
    generalize crcF x.data.toList = y at *
    have hy : y.tmod 16 = y % 16 := Int.tmod_eq_emod_of_nonneg hc.1
    have hyw : IntKind.i64.wrap (y.tmod 16) = y % 16 := by rw [hy]; exact IntWalk.i64_in _ ⟨by omega, by omega⟩
    go_wp2
    go_ret
    exact ⟨ret_int (by rw [HH2.out]), HB1.out⟩
end Go.Proofs.YtlkfabkkjfmnmaaGreatDoor
