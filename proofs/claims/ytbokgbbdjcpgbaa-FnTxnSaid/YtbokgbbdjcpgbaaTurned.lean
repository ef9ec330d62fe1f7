/- Nothing with one byte turned is read: a text that differs in one byte from a record's is no record's. -/
import Derived.Test.YtbokgbbdjcpgbaaCrcF
import Derived.Test.YtbokgbbdjcpgbaaNumF
import Derived.Test.YtbokgbbdjcpgbaaFixed2
import Derived.Test.YtbokgbbdjcpgbaaTxnF
namespace Go.Proofs.Ytbokgbbdjcpgbaa
open Go.RowKit

theorem fixed4_inj (a b : List UInt8) (h : fixedL (crcF a) 4 = fixedL (crcF b) 4) : crcF a = crcF b := by
  obtain ⟨a0, a1⟩ := crcF_range a
  obtain ⟨b0, b1⟩ := crcF_range b
  obtain ⟨m, hm⟩ := Int.eq_ofNat_of_zero_le a0
  obtain ⟨n, hn⟩ := Int.eq_ofNat_of_zero_le b0
  rw [hm, hn] at h ⊢
  have hp : (256 : Nat) ^ 4 = 4294967296 := by decide
  have hm4 : m < 256 ^ 4 := by omega
  have hn4 : n < 256 ^ 4 := by omega
  have e1 : fixedL (m : Int) 4 = lowBE m 4 := fixedL_yes m 4 (by omega) (by omega) hm4
  have e2 : fixedL (n : Int) 4 = lowBE n 4 := fixedL_yes n 4 (by omega) (by omega) hn4
  rw [e1, e2] at h
  have h2 := congrArg rdF h
  rw [rdF_lowBE, rdF_lowBE, Nat.mod_eq_of_lt hm4, Nat.mod_eq_of_lt hn4] at h2
  rw [h2]
theorem showL_form (seq : Int) (l : OutL) (h : showL seq l ≠ []) : (showL seq l).take 4 = fixedL (crcF ((showL seq l).drop 4)) 4 ∧ 4 ≤ (showL seq l).length := by
  unfold showL at h ⊢
  split
  · have h4 := fixed4 (bodyL seq l)
    rw [List.take_left' h4, List.drop_left' h4]
    exact ⟨rfl, by rw [List.length_append]; omega⟩
  · rename_i hc
    rw [if_neg hc] at h
    exact absurd rfl h
theorem turned_none (s : List UInt8) (seq : Int) (l : OutL) (hs : showL seq l = s) (hne : s ≠ []) (k : Nat) (hk : k < s.length) (b : UInt8) (hb : b ≠ s[k]) : readT (s.set k b) = none := by
  cases e : readT (s.set k b) with
  | none => rfl
  | some y =>
    exfalso
    obtain ⟨h1, h2⟩ := (readT_iff _ _).1 e
    have f1 := showL_form seq l (by rw [hs]; exact hne)
    rw [hs] at f1
    have f2 := showL_form y.1 y.2 (by rw [h2]; exact h1)
    rw [h2] at f2
    by_cases k4 : k < 4
    · have hd : (s.set k b).drop 4 = s.drop 4 := by rw [List.drop_set]; simp [k4]
      rw [hd] at f2
      have ht := f2.1.trans f1.1.symm
      have hi := congrArg (fun l : List UInt8 => l[k]?) ht
      simp only [List.getElem?_take, if_pos k4, List.getElem?_set_self hk, List.getElem?_eq_getElem hk] at hi
      exact hb (Option.some.inj hi)
    · have ht : (s.set k b).take 4 = s.take 4 := by
        rw [List.take_set, List.set_eq_of_length_le]
        rw [List.length_take]; omega
      have hc := f2.1.symm.trans (ht.trans f1.1)
      have hc := fixed4_inj _ _ hc
      have hd : (s.set k b).drop 4 = (s.drop 4).set (k - 4) b := by rw [List.drop_set]; simp [k4]
      have hl : k - 4 < (s.drop 4).length := by rw [List.length_drop]; omega
      have hg : (s.drop 4)[k - 4] = s[k] := by rw [List.getElem_drop]; congr 1; omega
      have hself : (s.drop 4).set (k - 4) s[k] = s.drop 4 := by rw [← hg]; exact List.set_getElem_self hl
      rw [hd, ← hself] at hc
      rw [List.set_set, List.set_eq_take_append_cons_drop, List.set_eq_take_append_cons_drop, if_pos hl, if_pos hl] at hc
      exact crcF_turned _ _ _ _ hb hc
theorem turned_bytes (s : ByteArray) (k : Nat) (b : UInt8) (hk : k < s.size) : (s.extract 0 k ++ (⟨#[b]⟩ : ByteArray) ++ s.extract (k + 1) s.size).data.toList = s.data.toList.set k b := by
  have hl : k < s.data.toList.length := by rw [data_len]; exact hk
  rw [List.set_eq_take_append_cons_drop, if_pos hl]
  simp only [ByteArray.data_append, ByteArray.data_extract, Array.toList_append, Array.toList_extract, List.extract_eq_take_drop]
  have e : s.size - (k + 1) = (s.data.toList.drop (k + 1)).length := by rw [List.length_drop, data_len]
  rw [e, List.take_length]
  simp
theorem xor_ne (a q : Nat) (h : 0 < q) : a ^^^ q ≠ a := by
  intro e
  have h2 : a ^^^ q = a ^^^ 0 := by rw [e, Nat.xor_zero]
  have := xor_left_inj _ _ _ h2
  omega
end Go.Proofs.Ytbokgbbdjcpgbaa
