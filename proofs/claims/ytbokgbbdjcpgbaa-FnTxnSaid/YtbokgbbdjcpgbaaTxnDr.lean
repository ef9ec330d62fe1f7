/- Records of the journal, and texts of them, that are drawn of a code. -/
import Derived.Test.YtbokgbbdjcpgbaaTxnD
import Derived.Test.YtbokgbbdjcpgbaaTxnS
import Derived.Test.YtbokgbbdjcpgbaaRdTxnS
import Derived.Test.YtbokgbbdjcpgbaaCrc
import Derived.Test.YtbokgbbdjcpgbaaFixed2
namespace Go.Proofs.Ytbokgbbdjcpgbaa
open Go.RowKit

def DrewShow (w : World) (e : Ending) (w' : World) : Prop := ∃ (v : Value) (seq : Int) (l : OutL), e = .returned v ∧ TxnRd w' v seq l ∧ OkInt seq ∧ l.length ≤ 10 ∧ outsOk l ∧ Below w.heap.size w w'
set_option maxRecDepth 1000000 in
set_option maxHeartbeats 6000000 in
theorem drawShowTxn_any (a : Option Addr) (n cap : Nat) (bs : List Int) (w : World) (h : Rd w a n cap 1 (bs.map (Value.int .u8))) (hb : ∀ z ∈ bs, 0 ≤ z ∧ z ≤ 255) (hn : n ≤ 1048576) :
    Calls Try.prog 61 #[.slice a n cap] w (DrewShow w) := by
  have HR0 := Lib.hid (two_new w 72 (.int .i64 0) (.slice none 0 0))
  have HB0 := Lib.hid (box_alloc w (.cells #[.int .i64 0, .slice none 0 0] 72))
  have H := Lib.hid h
  clear h
  go_enter Try.func61, Try.ntmps61
  go_wp2_with fail
  refine (l1New_any a n cap bs _ (H.out.alloc _) hb hn).mono ?_
  rintro e w1 ⟨rfl, hC, hB⟩
  have e1 : (w.alloc (.cells #[.int .i64 0, .slice none 0 0] 72)).heap.size = w.heap.size + 1 := by simp
  rw [e1] at hC ⊢
  clear e1
  have HC := Lib.hid hC
  have HB := Lib.hid (below_step1 HB0.out hB)
  have HR1 := Lib.hid (HR0.out.grown (grown_of_below none hB) (fun e => by cases e))
  clear hC hB HR0 HB0
  go_wp2_with fail
  refine (l9Txn_any a n cap bs _ _ _ HC.out).mono ?_
  rintro e w2 ⟨seq, l, s, v, rfl, hO, hs, hl, ho, hC, hG⟩
  obtain ⟨p, c, rfl, hOw⟩ := hO.ex
  have HO := Lib.hid hOw
  have HB2 := Lib.hid (HB.out.grown hG HB.out.size (fun k hk => by cases hk; omega))
  have HR2 := Lib.hid (HR1.out.grown hG (fun e => by have := Option.some.inj e; omega))
  have HP := Lib.hid (And.intro hs (And.intro hl ho))
  have hz2 := HR2.out.lt
  have hw1 := HB.out.size
  have hz1 := HR1.out.lt
  obtain ⟨⟨r0, r1⟩, f0, f1⟩ := HR2.out
  clear hO hOw hC hG hs hl ho HC HR1 HB
  unfold txV
  go_wp2
  refine bodyPost_ret (v := .agg #[.int .i64 seq, .slice p l.length c]) (by simp [results, Try.results61, go_sem, r0, r1, hz2]) rfl ?_
  refine ⟨_, seq, l, rfl, ⟨p, c, rfl, ?_⟩, HP.out.1, HP.out.2.1, HP.out.2.2, (HB2.out.setCell (by dsimp only; omega) _).setCell (by dsimp only; omega) _⟩
  have hq : ∀ k, (Value.slice p l.length c).ownBlock = some k → k ≠ w.heap.size := fun k hk => by have := (HO.out.blk k hk).1; omega
  exact ((HO.out.setFar w.heap.size 0 _ hq).setFar w.heap.size 1 _ hq).rd
theorem fixed_len4 (n : Int) : (fixedL n 4).length ≤ 4 := by
  unfold fixedL
  split
  · rw [lowBE_length]; decide
  · simp
set_option maxRecDepth 1000000 in
set_option maxHeartbeats 6000000 in
theorem drawReadTxn_any (a : Option Addr) (n cap : Nat) (bs : List Int) (w : World) (h : Rd w a n cap 1 (bs.map (Value.int .u8))) (hb : ∀ z ∈ bs, 0 ≤ z ∧ z ≤ 255) (hn : n ≤ 1048576) :
    Calls Try.prog 63 #[.slice a n cap] w (DrewText 4100 w) := by
  go_enter Try.func63, Try.ntmps63
  go_wp2_with fail
  refine (l1New_any a n cap bs _ h hb hn).mono ?_
  rintro e w1 ⟨rfl, hC, hB⟩
  have HC := Lib.hid hC
  have HB := Lib.hid hB
  clear hC hB h hb
  go_wp2_with fail
  refine (l9Txn_any a n cap bs _ _ _ HC.out).mono ?_
  rintro e w2 ⟨seq, l, s, v, rfl, hO, hs, hl, ho, hC, hG⟩
  obtain ⟨p, c, rfl, hOw⟩ := hO.ex
  have HO := Lib.hid hOw.rd
  have HC2 := Lib.hid hC
  have HB2 := Lib.hid (HB.out.grown hG HB.out.size (fun k hk => by cases hk; exact Nat.le_refl _))
  clear hO hOw hC hG hs ho HC HB
  go_wp2_with fail
  refine (specShow_any seq p c l _ HO.out (by omega)).mono ?_
  rintro e w3 ⟨rfl, hb3⟩
  have hs4 : (showB seq l).size ≤ 4000 := by have := showL_len seq l; unfold showB; rw [ba_len_eq]; exact this
  have HC3 := Lib.hid (HC2.out.kept hb3)
  have HB3 := Lib.hid (HB2.out.trans (hb3.mono HB2.out.size))
  clear hb3 HC2 HB2 HO
  generalize showB seq l = S at *
  go_wp2_with fail
  refine (l1Below_any a n cap bs _ s 4 _ HC3.out (by omega)).mono ?_
  rintro e w4 ⟨rfl, hC4, hG4⟩
  have HC4 := Lib.hid hC4
  have HB4 := Lib.hid (HB3.out.grown hG4 HB3.out.size (fun k hk => by cases hk; exact Nat.le_refl _))
  clear hC4 hG4 HC3 HB3
  simp only at HC4 ⊢
  generalize (belowF bs 4 s).2 = s4 at *
  generalize (belowF bs 4 s).1 = m at *
  by_cases m0 : m = 0
  · subst m0
    have hsp := spoilF_size bs S s4
    go_wp2_with fail
    refine (l1Spoil_any a n cap bs _ s4 S _ HC4.out (by omega)).mono ?_
    rintro e w5 ⟨rfl, hC5, hG5⟩
    have HB5 := Lib.hid (HB4.out.grown hG5 HB4.out.size (fun k hk => by cases hk; exact Nat.le_refl _))
    clear hC5 hG5
    go_wp2
    go_ret
    exact ⟨_, rfl, by omega, HB5.out⟩
  · by_cases m1 : m = 1
    · subst m1
      clear m0
      by_cases h4 : 4 < S.size
      · have h4i : (4 : Int) < (S.size : Int) := by omega
        obtain ⟨U, hU, hUs⟩ : ∃ U : ByteArray, U = S.extract 4 S.size ∧ U.size ≤ 4000 := ⟨_, rfl, by simp; omega⟩
        have HU := Lib.hid hU
        clear hU
        have h4a : (4 : Int) ≤ (S.size : Int) := by omega
        go_wp2_with fail
        first | rw [← HU.out] | skip
        refine (l1Spoil_any a n cap bs _ s4 U _ HC4.out (by omega)).mono ?_
        rintro e w5 ⟨rfl, hC5, hG5⟩
        have hsp := spoilF_size bs U s4
        have HB5 := Lib.hid (HB4.out.grown hG5 HB4.out.size (fun k hk => by cases hk; exact Nat.le_refl _))
        clear hC5 hG5 HC4 HB4
        generalize (spoilF bs U s4).1 = X at *
        go_wp2_with fail
        refine (specCrc_any X _ (by omega)).mono ?_
        rintro e w6 ⟨rfl, rfl⟩
        have hwf := crc_wf X.data.toList
        have h44 := fixed_len4 (crcF X.data.toList)
        generalize crcF X.data.toList = q at *
        go_wp2_with fail
        refine (specFixed_any q 4 hwf _).mono ?_
        rintro e w7 ⟨rfl, hb7⟩
        have HB7 := Lib.hid (HB5.out.trans (hb7.mono HB5.out.size))
        have hFs : (⟨(fixedL q 4).toArray⟩ : ByteArray).size ≤ 4 := by rw [ba_len_eq]; exact h44
        clear hb7 HB5 h44
        generalize (⟨(fixedL q 4).toArray⟩ : ByteArray) = F at *
        go_wp2
        go_ret
        exact ⟨_, rfl, by rw [ByteArray.size_append]; omega, HB7.out⟩
      · have h4i : ¬ (4 : Int) < (S.size : Int) := by omega
        go_wp2
        go_ret
        exact ⟨S, rfl, by omega, HB4.out⟩
    · have e0 : (m == 0) = false := by simp [m0]
      have e1 : (m == 1) = false := by simp [m1]
      clear m0 m1
      go_wp2
      go_ret
      exact ⟨S, rfl, by omega, HB4.out⟩
end Go.Proofs.Ytbokgbbdjcpgbaa
