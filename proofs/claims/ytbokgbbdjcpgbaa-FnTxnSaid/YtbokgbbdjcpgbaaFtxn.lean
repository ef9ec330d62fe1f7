/- A record of the journal is read from the text that it is shown as; nothing else is read, and nothing with one byte turned: the law, walked. (Printed by gen_ftxn.py.) -/
import Derived.Test.YtbokgbbdjcpgbaaTxnDr
import Derived.Test.YtbokgbbdjcpgbaaTurned
import Derived.Test.YtbokgbbdjcpgbaaAt
import Derived.Test.YtbokgbbdjcpgbaaSpoil
import Derived.Deep.DeepCutAuto
namespace Go.Proofs.Ytbokgbbdjcpgbaa
open Go.RowKit

theorem str_mt (s : ByteArray) (h : s.data.toList = []) : s.toList.isEmpty = true := by rw [ByteArray.toList_eq, h]; rfl
theorem str_nmt (s : ByteArray) (h : s.data.toList ≠ []) : s.toList.isEmpty = false := by rw [ByteArray.toList_eq]; simpa using h
theorem readX_turned (s : ByteArray) (seq : Int) (l : OutL) (hs : s.data.toList = showL seq l) (hne : s.data.toList ≠ []) (k : Nat) (hk : k < s.size) (b : UInt8) (hb : b ≠ s[k]) : readX (s.extract 0 k ++ (⟨#[b]⟩ : ByteArray) ++ s.extract (k + 1) s.size).data.toList = (0, [], false) := by
  rw [turned_bytes s k b hk]
  exact readX_no (turned_none _ seq l hs.symm hne k (by rw [data_len]; exact hk) b hb)
theorem readX_back (u : ByteArray) (s : Int) (l : OutL) (h : readX u.data.toList = (s, l, true)) : showB s l = u := by
  unfold readX at h
  cases e : readT u.data.toList with
  | none => rw [e] at h; simp at h
  | some x =>
    rw [e] at h
    simp only [Prod.mk.injEq, and_true] at h
    obtain ⟨_, h2⟩ := (readT_iff _ _).1 e
    rw [h.1, h.2] at h2
    unfold showB
    rw [h2]
theorem readX_len2 (s : List UInt8) : (readX s).2.1.length ≤ 17 := by
  unfold readX
  cases e : readT s with
  | none => simp
  | some x =>
    obtain ⟨h1, h2⟩ := (readT_iff s x).1 e
    have hb : txnB x.1 x.2 = true := by
      by_cases c : txnB x.1 x.2 = true
      · exact c
      · exfalso
        have := showL_no x.1 x.2 (by simpa using c)
        rw [h2] at this
        exact h1 this
    exact ((txnB_iff _ _).1 hb).2.1.2
set_option maxRecDepth 1000000 in
set_option maxHeartbeats 6000000 in
theorem lawFnTxn_walk (a : Option Addr) (len cap : Nat) (zs0 : List Int) (w : World) (hrow : IsRow .u8 w a len cap zs0) : Calls Try.prog 14 #[.slice a len cap] w fun e w' => e = .returned (.bool true) ∧ Below w.heap.size w w' := by
  have hm : len ≤ maxLen := by have h := hrow.rd.1; exact Nat.le_trans h.le h.max
  by_cases hs : 1048576 < len
  · clear hrow
    go_enter Try.func14, Try.ntmps14
    go_wp2_with fail
    refine (big_any_any _ _ _ _ hs hm).mono ?_
    rintro e w' ⟨rfl, rfl⟩
    go_wp2
    go_ret
    exact ⟨rfl, Below.refl _ _⟩
  · obtain ⟨hR, hz⟩ := hrow.rd
    have HR := Lib.hid hR
    have HZ := Lib.hid hz
    have HZ2 : Hid (∀ z ∈ zs0.take len, 0 ≤ z ∧ z ≤ 255) := Lib.hid (fun z hz' => by have := hz z hz'; simpa [Lit.wf, IntKind.min, IntKind.max, IntKind.signed, IntKind.bits] using this)
    have hn : len ≤ 1048576 := by omega
    clear hrow hR hz hs hm
    generalize zs0.take len = zs at *
    go_enter Try.func14, Try.ntmps14
    go_wp2_with fail
    refine (big_no_any _ _ _ _ hn).mono ?_
    rintro e w' ⟨rfl, rfl⟩
    go_wp2_with fail
    refine (drawShowTxn_any _ _ _ _ _ HR.out HZ2.out hn).mono ?_
    rintro e w1 ⟨v, seq, l, rfl, hT, hq, hl10, ho, hb⟩
    obtain ⟨p, c, rfl, hRd⟩ := hT.ex
    have HB1 := Lib.hid hb
    have HL := Lib.hid hRd
    have HSP : Hid (∀ W, Rd W p l.length c 2 (wrs l) → Calls Try.prog 53 #[.agg #[.int .i64 seq, .slice p l.length c]] W fun e w' => e = .returned (.string (showB seq l)) ∧ Below W.heap.size W w') := Lib.hid (fun W h => specShow_any seq p c l W h (by omega))
    have HSD : Hid ((showB seq l).data.toList = showL seq l) := Lib.hid rfl
    have hSs : (showB seq l).size ≤ 4000 := by have := showL_len seq l; unfold showB; rw [ba_len_eq]; exact this
    clear hT hb hRd ho hq
    unfold txV
    go_wp2_with fail
    have HBX := Lib.hid (box_alloc w1 (.cells #[.int .i64 seq, .slice p l.length c] 72))
    have t0 := box0 w1 72 (.int .i64 seq) (.slice p l.length c)
    have t1 := box1 w1 72 (.int .i64 seq) (.slice p l.length c)
    refine (implShow_any seq p c l _ (HL.out.alloc _) (by omega)).mono ?_
    rintro e w2 ⟨rfl, hb⟩
    replace t0 := box_below t0 hb
    replace t1 := box_below t1 hb
    have HL2 := Lib.hid ((HL.out.alloc (.cells #[.int .i64 seq, .slice p l.length c] 72)).below hb (Nat.le_refl _))
    have HB2 := Lib.hid (below_step1 HB1.out (below_step1 HBX.out hb))
    have hz2 : w1.heap.size < w2.heap.size := World.block_lt_of_cell? w2 _ t0
    clear hb HBX HL HB1
    generalize showB seq l = S at *
    generalize w1.heap.size = T at *
    go_wp2_with fail
    refine (implReadTxn_any S _ (by omega)).mono ?_
    rintro e w3 ⟨v, rfl, hO, hb⟩
    replace t0 := box_below t0 hb
    replace t1 := box_below t1 hb
    have HL3 := Lib.hid (HL2.out.below hb (Nat.le_refl _))
    have HB3 := Lib.hid (below_step1 HB2.out hb)
    have hz3 : T < w3.heap.size := World.block_lt_of_cell? w3 _ t0
    clear hb HL2 HB2 hz2
    by_cases hne : S.data.toList = []
    · have hx : readX S.data.toList = (0, [], false) := by rw [hne]; exact readX_no readT_nil
      have hem := str_mt S hne
      rw [hx] at hO ⊢
      obtain ⟨p2, c2, rfl, hO2⟩ := hO.ex
      clear hO hO2 hx hne HSD
      unfold txV
      simp only [List.length_nil]
      go_wp2_with fail
      refine (HSP.out _ (HL3.out.alloc _)).mono ?_
      rintro e w4 ⟨rfl, hb⟩
      have HB4 := Lib.hid (below_step1 (below_step1 HB3.out (box_alloc w3 (.cells #[.int .i64 0, .slice p2 0 c2] 72))) hb)
      clear hb
      go_wp2
      go_ret
      exact ⟨rfl, HB4.out⟩
    · have hx : readX S.data.toList = (seq, l, true) := by
        rw [HSD.out]
        rw [HSD.out] at hne
        exact readX_yes (readT_show seq l hne)
      have hem := str_nmt S hne
      have hS0 : 0 < S.size := by rw [← data_len]; exact List.length_pos_iff.2 hne
      have HNE := Lib.hid hne
      rw [hx] at hO ⊢
      obtain ⟨p2, c2, rfl, hO2⟩ := hO.ex
      have HX3 := Lib.hid hO2.rd
      clear hO hO2 hx hne
      unfold txV
      go_wp2_with fail
      have x0 := box0 w3 72 (.int .i64 seq) (.slice p2 l.length c2)
      have x1 := box1 w3 72 (.int .i64 seq) (.slice p2 l.length c2)
      refine (HSP.out _ (HL3.out.alloc _)).mono ?_
      rintro e w4 ⟨rfl, hb⟩
      have HBX := Lib.hid (below_step1 (box_alloc w3 (.cells #[.int .i64 seq, .slice p2 l.length c2] 72)) hb)
      replace x0 := box_below x0 hb
      replace x1 := box_below x1 hb
      replace t0 := box_below t0 HBX.out
      replace t1 := box_below t1 HBX.out
      have HL4 := Lib.hid (HL3.out.below HBX.out (Nat.le_refl _))
      have HX4 := Lib.hid (HX3.out.below HBX.out (Nat.le_refl _))
      have HB4 := Lib.hid (below_step1 HB3.out HBX.out)
      have hz4 : T < w4.heap.size := World.block_lt_of_cell? w4 _ t0
      have hz4x : w3.heap.size < w4.heap.size := World.block_lt_of_cell? w4 _ x0
      clear hb HL3 HX3 HB3 hz3 HBX HSP
      generalize w3.heap.size = X at *
      have HCE : Hid (∀ W, Below w4.heap.size w4 W → (W.cell? ⟨T, 0, none⟩ = some (.int .i64 seq) ∧ W.cell? ⟨T, 1, none⟩ = some (.slice p l.length c)) ∧ (W.cell? ⟨X, 0, none⟩ = some (.int .i64 seq) ∧ W.cell? ⟨X, 1, none⟩ = some (.slice p2 l.length c2))) := Lib.hid (fun W hb => ⟨⟨box_below t0 hb, box_below t1 hb⟩, ⟨box_below x0 hb, box_below x1 hb⟩⟩)
      clear t0 t1 x0 x1
      go_wp2_with fail
      refine (at_any _ _ _ _ 0 _ (HR.out.below HB4.out (Nat.le_refl _)) HZ.out hn (by omega)).mono ?_
      rintro e w' ⟨⟨y0, ⟨l0, m0⟩, rfl⟩, rfl⟩
      go_wp2_with fail
      refine (at_any _ _ _ _ 1 _ (HR.out.below HB4.out (Nat.le_refl _)) HZ.out hn (by omega)).mono ?_
      rintro e w' ⟨⟨y1, ⟨l1, m1⟩, rfl⟩, rfl⟩
      have hSi : (0 : Int) < (S.size : Int) := by omega
      obtain ⟨K, hK⟩ : ∃ K : Nat, (y0 * 256 + y1) % (S.size : Int) = (K : Int) := ⟨((y0 * 256 + y1) % (S.size : Int)).toNat, by have := Int.emod_nonneg (y0 * 256 + y1) (show (S.size : Int) ≠ 0 by omega); omega⟩
      have hKS : K < S.size := by have := Int.emod_lt_of_pos (y0 * 256 + y1) hSi; omega
      go_upto_region 11 with (fail)
      first | rw [hK] | skip
      clear hK l0 m0 l1 m1 hSi
      go_cut [8, 9] (fun t8 t9 wx => ∃ b : Nat, t8 = .pointer (some ⟨b, 0, none⟩) ∧ t9 = .bool false ∧ Hid (Below w4.heap.size w4 wx))
      case first =>
        have hbk := byteAt_get S K hKS
        have hbl := byteAt_lt S K
        have hw1 : IntKind.i64.wrap ((K : Int) + 1) = (K : Int) + 1 := IntWalk.i64_in _ ⟨by omega, by omega⟩
        have hw2 : ((K : Int) + 1).toNat = K + 1 := by omega
        have hw3 : (0 : Int) ≤ (K : Int) + 1 := by omega
        have hw4 : (K : Int) + 1 ≤ (S.size : Int) := by omega
        have hw5 : (K : Int) ≤ (S.size : Int) := by omega
        have hkt := hKS
        have hv1 : IntKind.i64.wrap ((S[K]'hkt).toNat : Int) = ((S[K]'hkt).toNat : Int) := IntWalk.i64_in _ (by omega)
        have HTU := Lib.hid (fun b => readX_turned S seq l HSD.out HNE.out K hKS b)
        have hB0 := Below.refl w4.heap.size w4
        refine wp_region_held_drew (S := (fun W => Below w4.heap.size w4 W)) (by kernel_rfl) ?_ (fun hHeld => ?_)
        · try dsimp only
          (first | assumption | exact hB0.drew | exact below_step1 (by assumption) (box_alloc _ _) | exact below_step1 (by assumption) (by assumption) | (refine Below.setCell (Below.setCell ?_ ?_ _) ?_ _ <;> first | assumption | exact hbb) | exact below_step1 hPre (box_alloc _ _))
        change wpAnyH _ _ _ _ _ 28 #[false, false, false, false, false, false, false, false, false, false, false, false, false, false, false, false, false, false, false, false, false, false, false, false, false, false, false, false] _ _
        clear hB0
        refine wpH_take (i := 0) (v := ?_) rfl (by kernel_rfl) (by kernel_rfl) (by kernel_rfl) (fun _ _ _ h => h) (by rfl) ?_ (by assumption) ?_; rotate_left; (focus (intro w hSw; (try dsimp only at hSw); go_simp; try with_reducible rfl)); try simp only [Act.put, List.setIfInBounds_toArray, List.set_cons_zero, List.set_cons_succ]
        refine wpH_take (i := 1) (v := ?_) rfl (by kernel_rfl) (by kernel_rfl) (by kernel_rfl) (fun _ _ _ h => h) (by rfl) ?_ (by assumption) ?_; rotate_left; (focus (intro w hSw; (try dsimp only at hSw); go_simp; try with_reducible rfl)); try simp only [Act.put, List.setIfInBounds_toArray, List.set_cons_zero, List.set_cons_succ]
        refine wpH_take (i := 2) (v := ?_) rfl (by kernel_rfl) (by kernel_rfl) (by kernel_rfl) (fun _ _ _ h => h) (by rfl) ?_ (by assumption) ?_; rotate_left; (focus (intro w hSw; (try dsimp only at hSw); go_simp; try with_reducible rfl)); try simp only [Act.put, List.setIfInBounds_toArray, List.set_cons_zero, List.set_cons_succ]
        refine wpH_take (i := 3) (v := ?_) rfl (by kernel_rfl) (by kernel_rfl) (by kernel_rfl) (fun _ _ _ h => h) (by rfl) ?_ (by assumption) ?_; rotate_left; (focus (intro w hSw; (try dsimp only at hSw); go_simp; try with_reducible rfl)); try simp only [Act.put, List.setIfInBounds_toArray, List.set_cons_zero, List.set_cons_succ]
        refine wpH_take (i := 4) (v := ?_) rfl (by kernel_rfl) (by kernel_rfl) (by kernel_rfl) (fun _ _ _ h => h) (by rfl) ?_ (by assumption) ?_; rotate_left; (focus (intro w hSw; (try dsimp only at hSw); go_simp; try with_reducible rfl)); try simp only [Act.put, List.setIfInBounds_toArray, List.set_cons_zero, List.set_cons_succ]
        refine wpH_take (i := 5) (v := ?_) rfl (by kernel_rfl) (by kernel_rfl) (by kernel_rfl) (fun _ _ _ h => h) (by rfl) ?_ (by assumption) ?_; rotate_left; (focus (intro w hSw; (try dsimp only at hSw); go_simp; try with_reducible rfl)); try simp only [Act.put, List.setIfInBounds_toArray, List.set_cons_zero, List.set_cons_succ]
        refine wpH_take (i := 6) (v := ?_) rfl (by kernel_rfl) (by kernel_rfl) (by kernel_rfl) (fun _ _ _ h => h) (by rfl) ?_ (by assumption) ?_; rotate_left; (focus (intro w hSw; (try dsimp only at hSw); go_simp; try with_reducible rfl)); try simp only [Act.put, List.setIfInBounds_toArray, List.set_cons_zero, List.set_cons_succ]
        refine wpH_take (i := 7) (v := ?_) rfl (by kernel_rfl) (by kernel_rfl) (by kernel_rfl) (fun _ _ _ h => h) (by rfl) ?_ (by assumption) ?_; rotate_left; (focus (intro w hSw; (try dsimp only at hSw); go_simp; try with_reducible rfl)); try simp only [Act.put, List.setIfInBounds_toArray, List.set_cons_zero, List.set_cons_succ]
        refine wpH_take (i := 16) (v := ?_) rfl (by kernel_rfl) (by kernel_rfl) (by kernel_rfl) (fun _ _ _ h => h) (by rfl) ?_ (by assumption) ?_; rotate_left; (focus (intro w hSw; (try dsimp only at hSw); go_simp; try with_reducible rfl)); try simp only [Act.put, List.setIfInBounds_toArray, List.set_cons_zero, List.set_cons_succ]
        refine wpH_take (i := 17) (v := ?_) rfl (by kernel_rfl) (by kernel_rfl) (by kernel_rfl) (fun _ _ _ h => h) (by rfl) ?_ (by assumption) ?_; rotate_left; (focus (intro w hSw; (try dsimp only at hSw); go_simp; try with_reducible rfl)); try simp only [Act.put, List.setIfInBounds_toArray, List.set_cons_zero, List.set_cons_succ]
        refine wpH_take (i := 18) (v := ?_) rfl (by kernel_rfl) (by kernel_rfl) (by kernel_rfl) (fun _ _ _ h => h) (by rfl) ?_ (by assumption) ?_; rotate_left; (focus (intro w hSw; (try dsimp only at hSw); go_simp; try with_reducible rfl)); try simp only [Act.put, List.setIfInBounds_toArray, List.set_cons_zero, List.set_cons_succ]
        refine wpH_take (i := 19) (v := ?_) rfl (by kernel_rfl) (by kernel_rfl) (by kernel_rfl) (fun _ _ _ h => h) (by rfl) ?_ (by assumption) ?_; rotate_left; (focus (intro w hSw; (try dsimp only at hSw); go_simp; try with_reducible rfl)); try simp only [Act.put, List.setIfInBounds_toArray, List.set_cons_zero, List.set_cons_succ]
        refine wpAnyH_ready (rs := [8, 25]) (by kernel_rfl) (by simp) ?_
        refine AllReadyH.cons rfl (fun K hK => ?_) (AllReadyH.cons rfl (fun K hK => ?_) AllReadyH.nil)
        · try dsimp only at hHeld
          go_simp
          (go_at_call 62; refine (at_any _ _ _ _ 2 _ (HR.out.below (HB4.out.trans (hHeld.mono HB4.out.size)) (Nat.le_refl _)) HZ.out hn (by omega)).mono ?_; rintro e w' ⟨⟨y2, ⟨l2, m2⟩, rfl⟩, rfl⟩)
          refine hK.out _ _ ?_ (fun hHeld2 => ?_)
          · try dsimp only
            (first | assumption | exact below_step1 (by assumption) (box_alloc _ _) | exact below_step1 (by assumption) (by assumption) | exact below_step1 hPre (box_alloc _ _))
          clear hK K hHeld
          have hHeld := hHeld2
          clear hHeld2
          obtain ⟨q, hq, hq255⟩ : ∃ q : Nat, y2 % 255 = (q : Int) ∧ q < 255 := ⟨(y2 % 255).toNat, by omega, by omega⟩
          have hq0 : (0 : Int) ≤ (q : Int) := by omega
          have hq1 : (q : Int) < 255 := by omega
          refine wpH_take (i := 9) (v := ?_) rfl (by kernel_rfl) (by kernel_rfl) (by kernel_rfl) (fun _ _ _ h => h) (by rfl) ?_ (by assumption) ?_; rotate_left; (focus (intro w hSw; (try dsimp only at hSw); go_simp; try with_reducible rfl)); try simp only [Act.put, List.setIfInBounds_toArray, List.set_cons_zero, List.set_cons_succ]
          have hqt : y2.tmod 255 = (q : Int) := by rw [Int.tmod_eq_emod_of_nonneg (by omega)]; exact hq
          rw [hqt]
          clear hq hqt
          have hv2 : IntKind.i64.wrap (1 + (q : Int)) = 1 + (q : Int) := IntWalk.i64_in _ (by omega)
          obtain ⟨hxe, hxl⟩ := xor_byte (byteAt S K) (1 + q) hbl (by omega)
          rw [hbk, show ((1 + q : Nat) : Int) = 1 + (q : Int) from by omega] at hxe
          rw [hbk] at hxl
          have hxn := xor_ne ((S[K]'hkt).toNat) (1 + q) (by omega)
          refine wpH_take (i := 10) (v := ?_) rfl (by kernel_rfl) (by kernel_rfl) (by kernel_rfl) (fun _ _ _ h => h) (by rfl) ?_ (by assumption) ?_; rotate_left; (focus (intro w hSw; (try dsimp only at hSw); go_simp; try with_reducible rfl)); try simp only [Act.put, List.setIfInBounds_toArray, List.set_cons_zero, List.set_cons_succ]
          refine wpH_take (i := 11) (v := ?_) rfl (by kernel_rfl) (by kernel_rfl) (by kernel_rfl) (fun _ _ _ h => h) (by rfl) ?_ (by assumption) ?_; rotate_left; (focus (intro w hSw; (try dsimp only at hSw); go_simp; try with_reducible rfl)); try simp only [Act.put, List.setIfInBounds_toArray, List.set_cons_zero, List.set_cons_succ]
          generalize (S[K]'hkt).toNat ^^^ (1 + q) = z at *
          have hz0 : (0 : Int) ≤ (z : Int) := by omega
          have hz1 : (z : Int) < 256 := by omega
          have hwx := u8_in (z : Int) hz0 hz1
          have HTX : Hid (readX (S.extract 0 K ++ (⟨#[UInt8.ofNat z]⟩ : ByteArray) ++ S.extract (K + 1) S.size).data.toList = (0, [], false)) := Lib.hid (HTU.out _ (fun e => hxn (by rw [← e]; simp; omega)))
          clear hxe hxn
          refine wpH_take (i := 12) (v := ?_) rfl (by kernel_rfl) (by kernel_rfl) (by kernel_rfl) (fun _ _ _ h => h) (by rfl) ?_ (by assumption) ?_; rotate_left; (focus (intro w hSw; (try dsimp only at hSw); go_simp; try with_reducible rfl)); try simp only [Act.put, List.setIfInBounds_toArray, List.set_cons_zero, List.set_cons_succ]
          refine wpAnyH_ready (rs := [13, 25]) (by kernel_rfl) (by simp) ?_
          refine AllReadyH.cons rfl (fun K hK => ?_) (AllReadyH.cons rfl (fun K hK => ?_) AllReadyH.nil)
          · try dsimp only at hHeld
            go_simp
            skip
            refine hK.out _ _ ?_ (fun hHeld2 => ?_)
            · try dsimp only
              (first | assumption | exact below_step1 (by assumption) (box_alloc _ _) | exact below_step1 (by assumption) (by assumption) | exact below_step1 hPre (box_alloc _ _))
            clear hK K hHeld
            have hHeld := hHeld2
            clear hHeld2
            have hrb := (rd_byte w4 5 (z : Int) hz0 hz1).drew
            have hcv := run_str (P := Try.prog) 47 9 5 Try.underlying47 Try.underlying5 Try.underlying9 hrb
            clear hrb
            refine wpAnyH_ready (rs := [14, 25]) (by kernel_rfl) (by simp) ?_
            refine AllReadyH.cons rfl (fun K hK => ?_) (AllReadyH.cons rfl (fun K hK => ?_) AllReadyH.nil)
            · try dsimp only at hHeld
              go_simp
              skip
              refine hK.out _ _ ?_ (fun hHeld2 => ?_)
              · try dsimp only
                (first | assumption | exact below_step1 (by assumption) (box_alloc _ _) | exact below_step1 (by assumption) (by assumption) | exact below_step1 hPre (box_alloc _ _))
              clear hK K hHeld
              have hHeld := hHeld2
              clear hHeld2
              clear hcv
              have hmin : min K S.size = K := Nat.min_eq_left (by omega)
              have hs1 : ¬ 9223372036854775807 < K + 1 := by omega
              have hs2 : ¬ 9223372036854775807 < K + 1 + (S.size - K) := by omega
              have hs3 : ¬ 9223372036854775807 < K + 1 + (S.size - (K + 1)) := by omega
              have HXS : (S.extract 0 K ++ (⟨#[UInt8.ofNat z]⟩ : ByteArray) ++ S.extract (K + 1) S.size).size ≤ 1048576 := by simp only [ByteArray.size_append, ByteArray.size_extract, size_one]; omega
              have HI : Hid (∀ W, Calls Try.prog 58 #[.string (S.extract 0 K ++ (⟨#[UInt8.ofNat z]⟩ : ByteArray) ++ S.extract (K + 1) S.size)] W fun e w' => ∃ (q0 : Option Addr) (d0 : Nat), e = .returned (.tuple #[.agg #[.int .i64 0, .slice q0 0 d0], .bool false]) ∧ Below W.heap.size W w') := Lib.hid (fun W => (implReadTxn_any _ W HXS).mono (fun e w' h => by
                obtain ⟨v, rfl, hO, hb⟩ := h
                rw [HTX.out] at hO ⊢
                obtain ⟨q0, d0, rfl, _⟩ := hO.ex
                exact ⟨q0, d0, rfl, hb⟩))
              clear HXS
              refine wpH_take (i := 15) (v := ?_) rfl (by kernel_rfl) (by kernel_rfl) (by kernel_rfl) (fun _ _ _ h => h) (by rfl) ?_ (by assumption) ?_; rotate_left; (focus (intro w hSw; (try dsimp only at hSw); go_simp; try with_reducible rfl)); try simp only [Act.put, List.setIfInBounds_toArray, List.set_cons_zero, List.set_cons_succ]
              refine wpH_take (i := 20) (v := ?_) rfl (by kernel_rfl) (by kernel_rfl) (by kernel_rfl) (fun _ _ _ h => h) (by rfl) ?_ (by assumption) ?_; rotate_left; (focus (intro w hSw; (try dsimp only at hSw); go_simp; try with_reducible rfl)); try simp only [Act.put, List.setIfInBounds_toArray, List.set_cons_zero, List.set_cons_succ]
              refine wpAnyH_ready (rs := [21, 25]) (by kernel_rfl) (by simp) ?_
              refine AllReadyH.cons rfl (fun K hK => ?_) (AllReadyH.cons rfl (fun K hK => ?_) AllReadyH.nil)
              · try dsimp only at hHeld
                go_simp
                (go_at_call 58; refine (HI.out _).mono ?_; rintro e w7 ⟨q0, d0, rfl, hb7⟩)
                refine hK.out _ _ ?_ (fun hHeld2 => ?_)
                · try dsimp only
                  (first | assumption | exact below_step1 (by assumption) (box_alloc _ _) | exact below_step1 (by assumption) (by assumption) | exact below_step1 hPre (box_alloc _ _))
                clear hK K hHeld
                have hHeld := hHeld2
                clear hHeld2
                refine wpH_take (i := 22) (v := ?_) rfl (by kernel_rfl) (by kernel_rfl) (by kernel_rfl) (fun _ _ _ h => h) (by rfl) ?_ (by assumption) ?_; rotate_left; (focus (intro w hSw; (try dsimp only at hSw); go_simp; try with_reducible rfl)); try simp only [Act.put, List.setIfInBounds_toArray, List.set_cons_zero, List.set_cons_succ]
                refine wpH_take (i := 23) (v := ?_) rfl (by kernel_rfl) (by kernel_rfl) (by kernel_rfl) (fun _ _ _ h => h) (by rfl) ?_ (by assumption) ?_; rotate_left; (focus (intro w hSw; (try dsimp only at hSw); go_simp; try with_reducible rfl)); try simp only [Act.put, List.setIfInBounds_toArray, List.set_cons_zero, List.set_cons_succ]
                refine wpH_take (i := 24) (v := ?_) rfl (by kernel_rfl) (by kernel_rfl) (by kernel_rfl) (fun _ _ _ h => h) (by rfl) ?_ (by assumption) ?_; rotate_left; (focus (intro w hSw; (try dsimp only at hSw); go_simp; try with_reducible rfl)); try simp only [Act.put, List.setIfInBounds_toArray, List.set_cons_zero, List.set_cons_succ]
                have hPre := hHeld
                refine wpAnyH_ready (rs := [25]) (by kernel_rfl) (by simp) ?_
                refine AllReadyH.cons rfl (fun K hK => ?_) AllReadyH.nil
                try dsimp only at hHeld
                go_simp
                skip
                refine hK.out _ _ ?_ (fun hHeld2 => ?_)
                · try dsimp only
                  (first | assumption | exact hB0.drew | exact below_step1 (by assumption) (box_alloc _ _) | exact below_step1 (by assumption) (by assumption) | (refine Below.setCell (Below.setCell ?_ ?_ _) ?_ _ <;> first | assumption | exact hbb) | exact below_step1 hPre (box_alloc _ _))
                clear hK K hHeld
                have hHeld := hHeld2
                clear hHeld2
                have HBX : Hid (Two (w7.alloc (.cells #[.int .i64 0, .slice none 0 0] 72)) w7.heap.size (.int .i64 0) (.slice none 0 0)) := Lib.hid (by
                  have h := two_new w7 72 (.int .i64 0) (.slice none 0 0)
                  have e : w7.heap.size = w7.heap.size := by simp
                  rw [e] at h
                  exact h.kept rfl)
                have hbb : w4.heap.size ≤ (⟨w7.heap.size, 0, none⟩ : Addr).block := hPre.size
                obtain ⟨⟨u0, u1⟩, f0, f1⟩ := HBX.out
                have hul := HBX.out.lt
                refine wpAnyH_ready (rs := [26]) (by kernel_rfl) (by simp) ?_
                refine AllReadyH.cons rfl (fun K hK => ?_) AllReadyH.nil
                try dsimp only at hHeld
                go_simp
                skip
                refine hK.out _ _ ?_ (fun hHeld2 => ?_)
                · try dsimp only
                  (first | assumption | exact hB0.drew | exact below_step1 (by assumption) (box_alloc _ _) | exact below_step1 (by assumption) (by assumption) | (refine Below.setCell (Below.setCell ?_ ?_ _) ?_ _ <;> first | assumption | exact hbb) | exact below_step1 hPre (box_alloc _ _))
                clear hK K hHeld
                have hHeld := hHeld2
                clear hHeld2
                refine wpH_take (i := 27) (v := ?_) rfl (by kernel_rfl) (by kernel_rfl) (by kernel_rfl) (fun _ _ _ h => h) (by rfl) ?_ (by assumption) ?_; rotate_left; (focus (intro w hSw; (try dsimp only at hSw); go_simp; try with_reducible rfl)); try simp only [Act.put, List.setIfInBounds_toArray, List.set_cons_zero, List.set_cons_succ]
                refine wpAnyH_done (by kernel_rfl) ?_ _
                try dsimp only at hHeld
                clear u0 u1 f0 f1 hul
                go_wp2_with fail
                go_meet
                exact ⟨_, rfl, rfl, Lib.hid hHeld⟩
              · try dsimp only at hHeld
                go_simp
                skip
                refine hK.out _ _ ?_ (fun hHeld2 => ?_)
                · try dsimp only
                  (first | assumption | exact below_step1 (by assumption) (box_alloc _ _) | exact below_step1 (by assumption) (by assumption) | exact below_step1 hPre (box_alloc _ _))
                clear hK K hHeld
                have hHeld := hHeld2
                clear hHeld2
                have HBX : Hid (Two ((w4.alloc (.cells #[.int .u8 (z : Int)] 5)).alloc (.cells #[.int .i64 0, .slice none 0 0] 72)).drew (w4.heap.size + 1) (.int .i64 0) (.slice none 0 0)) := Lib.hid (by
                  have h := two_new (w4.alloc (.cells #[.int .u8 (z : Int)] 5)) 72 (.int .i64 0) (.slice none 0 0)
                  have e : (w4.alloc (.cells #[.int .u8 (z : Int)] 5)).heap.size = (w4.heap.size + 1) := by simp
                  rw [e] at h
                  exact h.kept rfl)
                have hbb : w4.heap.size ≤ (⟨w4.heap.size + 1, 0, none⟩ : Addr).block := by dsimp only; omega
                refine wpAnyH_ready (rs := [21]) (by kernel_rfl) (by simp) ?_
                refine AllReadyH.cons rfl (fun K hK => ?_) AllReadyH.nil
                try dsimp only at hHeld
                go_simp
                (go_at_call 58; refine (HI.out _).mono ?_; rintro e w7 ⟨q0, d0, rfl, hb7⟩)
                refine hK.out _ _ ?_ (fun hHeld2 => ?_)
                · try dsimp only
                  (first | assumption | exact hB0.drew | exact below_step1 (by assumption) (box_alloc _ _) | exact below_step1 (by assumption) (by assumption) | (refine Below.setCell (Below.setCell ?_ ?_ _) ?_ _ <;> first | assumption | exact hbb) | exact below_step1 hPre (box_alloc _ _))
                clear hK K hHeld
                have hHeld := hHeld2
                clear hHeld2
                replace HBX := Lib.hid (HBX.out.grown (grown_of_below none hb7) (fun e => by cases e))
                refine wpH_take (i := 22) (v := ?_) rfl (by kernel_rfl) (by kernel_rfl) (by kernel_rfl) (fun _ _ _ h => h) (by rfl) ?_ (by assumption) ?_; rotate_left; (focus (intro w hSw; (try dsimp only at hSw); go_simp; try with_reducible rfl)); try simp only [Act.put, List.setIfInBounds_toArray, List.set_cons_zero, List.set_cons_succ]
                refine wpH_take (i := 23) (v := ?_) rfl (by kernel_rfl) (by kernel_rfl) (by kernel_rfl) (fun _ _ _ h => h) (by rfl) ?_ (by assumption) ?_; rotate_left; (focus (intro w hSw; (try dsimp only at hSw); go_simp; try with_reducible rfl)); try simp only [Act.put, List.setIfInBounds_toArray, List.set_cons_zero, List.set_cons_succ]
                refine wpH_take (i := 24) (v := ?_) rfl (by kernel_rfl) (by kernel_rfl) (by kernel_rfl) (fun _ _ _ h => h) (by rfl) ?_ (by assumption) ?_; rotate_left; (focus (intro w hSw; (try dsimp only at hSw); go_simp; try with_reducible rfl)); try simp only [Act.put, List.setIfInBounds_toArray, List.set_cons_zero, List.set_cons_succ]
                obtain ⟨⟨u0, u1⟩, f0, f1⟩ := HBX.out
                have hul := HBX.out.lt
                refine wpAnyH_ready (rs := [26]) (by kernel_rfl) (by simp) ?_
                refine AllReadyH.cons rfl (fun K hK => ?_) AllReadyH.nil
                try dsimp only at hHeld
                go_simp
                skip
                refine hK.out _ _ ?_ (fun hHeld2 => ?_)
                · try dsimp only
                  (first | assumption | exact hB0.drew | exact below_step1 (by assumption) (box_alloc _ _) | exact below_step1 (by assumption) (by assumption) | (refine Below.setCell (Below.setCell ?_ ?_ _) ?_ _ <;> first | assumption | exact hbb) | exact below_step1 hPre (box_alloc _ _))
                clear hK K hHeld
                have hHeld := hHeld2
                clear hHeld2
                refine wpH_take (i := 27) (v := ?_) rfl (by kernel_rfl) (by kernel_rfl) (by kernel_rfl) (fun _ _ _ h => h) (by rfl) ?_ (by assumption) ?_; rotate_left; (focus (intro w hSw; (try dsimp only at hSw); go_simp; try with_reducible rfl)); try simp only [Act.put, List.setIfInBounds_toArray, List.set_cons_zero, List.set_cons_succ]
                refine wpAnyH_done (by kernel_rfl) ?_ _
                try dsimp only at hHeld
                clear u0 u1 f0 f1 hul
                go_wp2_with fail
                go_meet
                exact ⟨_, rfl, rfl, Lib.hid hHeld⟩
            · try dsimp only at hHeld
              go_simp
              skip
              refine hK.out _ _ ?_ (fun hHeld2 => ?_)
              · try dsimp only
                (first | assumption | exact below_step1 (by assumption) (box_alloc _ _) | exact below_step1 (by assumption) (by assumption) | exact below_step1 hPre (box_alloc _ _))
              clear hK K hHeld
              have hHeld := hHeld2
              clear hHeld2
              have HBX : Hid (Two ((w4.alloc (.cells #[.int .u8 (z : Int)] 5)).alloc (.cells #[.int .i64 0, .slice none 0 0] 72)).drew (w4.heap.size + 1) (.int .i64 0) (.slice none 0 0)) := Lib.hid (by
                have h := two_new (w4.alloc (.cells #[.int .u8 (z : Int)] 5)) 72 (.int .i64 0) (.slice none 0 0)
                have e : (w4.alloc (.cells #[.int .u8 (z : Int)] 5)).heap.size = (w4.heap.size + 1) := by simp
                rw [e] at h
                exact h.kept rfl)
              have hbb : w4.heap.size ≤ (⟨w4.heap.size + 1, 0, none⟩ : Addr).block := by dsimp only; omega
              clear hcv
              have hrb := ((rd_byte w4 5 (z : Int) hz0 hz1).alloc (.cells #[.int .i64 0, .slice none 0 0] 72)).drew
              have hcv := run_str (P := Try.prog) 47 9 5 Try.underlying47 Try.underlying5 Try.underlying9 hrb
              clear hrb
              refine wpAnyH_ready (rs := [14]) (by kernel_rfl) (by simp) ?_
              refine AllReadyH.cons rfl (fun K hK => ?_) AllReadyH.nil
              try dsimp only at hHeld
              go_simp
              skip
              refine hK.out _ _ ?_ (fun hHeld2 => ?_)
              · try dsimp only
                (first | assumption | exact hB0.drew | exact below_step1 (by assumption) (box_alloc _ _) | exact below_step1 (by assumption) (by assumption) | (refine Below.setCell (Below.setCell ?_ ?_ _) ?_ _ <;> first | assumption | exact hbb) | exact below_step1 hPre (box_alloc _ _))
              clear hK K hHeld
              have hHeld := hHeld2
              clear hHeld2
              clear hcv
              have hmin : min K S.size = K := Nat.min_eq_left (by omega)
              have hs1 : ¬ 9223372036854775807 < K + 1 := by omega
              have hs2 : ¬ 9223372036854775807 < K + 1 + (S.size - K) := by omega
              have hs3 : ¬ 9223372036854775807 < K + 1 + (S.size - (K + 1)) := by omega
              have HXS : (S.extract 0 K ++ (⟨#[UInt8.ofNat z]⟩ : ByteArray) ++ S.extract (K + 1) S.size).size ≤ 1048576 := by simp only [ByteArray.size_append, ByteArray.size_extract, size_one]; omega
              have HI : Hid (∀ W, Calls Try.prog 58 #[.string (S.extract 0 K ++ (⟨#[UInt8.ofNat z]⟩ : ByteArray) ++ S.extract (K + 1) S.size)] W fun e w' => ∃ (q0 : Option Addr) (d0 : Nat), e = .returned (.tuple #[.agg #[.int .i64 0, .slice q0 0 d0], .bool false]) ∧ Below W.heap.size W w') := Lib.hid (fun W => (implReadTxn_any _ W HXS).mono (fun e w' h => by
                obtain ⟨v, rfl, hO, hb⟩ := h
                rw [HTX.out] at hO ⊢
                obtain ⟨q0, d0, rfl, _⟩ := hO.ex
                exact ⟨q0, d0, rfl, hb⟩))
              clear HXS
              refine wpH_take (i := 15) (v := ?_) rfl (by kernel_rfl) (by kernel_rfl) (by kernel_rfl) (fun _ _ _ h => h) (by rfl) ?_ (by assumption) ?_; rotate_left; (focus (intro w hSw; (try dsimp only at hSw); go_simp; try with_reducible rfl)); try simp only [Act.put, List.setIfInBounds_toArray, List.set_cons_zero, List.set_cons_succ]
              refine wpH_take (i := 20) (v := ?_) rfl (by kernel_rfl) (by kernel_rfl) (by kernel_rfl) (fun _ _ _ h => h) (by rfl) ?_ (by assumption) ?_; rotate_left; (focus (intro w hSw; (try dsimp only at hSw); go_simp; try with_reducible rfl)); try simp only [Act.put, List.setIfInBounds_toArray, List.set_cons_zero, List.set_cons_succ]
              refine wpAnyH_ready (rs := [21]) (by kernel_rfl) (by simp) ?_
              refine AllReadyH.cons rfl (fun K hK => ?_) AllReadyH.nil
              try dsimp only at hHeld
              go_simp
              (go_at_call 58; refine (HI.out _).mono ?_; rintro e w7 ⟨q0, d0, rfl, hb7⟩)
              refine hK.out _ _ ?_ (fun hHeld2 => ?_)
              · try dsimp only
                (first | assumption | exact hB0.drew | exact below_step1 (by assumption) (box_alloc _ _) | exact below_step1 (by assumption) (by assumption) | (refine Below.setCell (Below.setCell ?_ ?_ _) ?_ _ <;> first | assumption | exact hbb) | exact below_step1 hPre (box_alloc _ _))
              clear hK K hHeld
              have hHeld := hHeld2
              clear hHeld2
              replace HBX := Lib.hid (HBX.out.grown (grown_of_below none hb7) (fun e => by cases e))
              refine wpH_take (i := 22) (v := ?_) rfl (by kernel_rfl) (by kernel_rfl) (by kernel_rfl) (fun _ _ _ h => h) (by rfl) ?_ (by assumption) ?_; rotate_left; (focus (intro w hSw; (try dsimp only at hSw); go_simp; try with_reducible rfl)); try simp only [Act.put, List.setIfInBounds_toArray, List.set_cons_zero, List.set_cons_succ]
              refine wpH_take (i := 23) (v := ?_) rfl (by kernel_rfl) (by kernel_rfl) (by kernel_rfl) (fun _ _ _ h => h) (by rfl) ?_ (by assumption) ?_; rotate_left; (focus (intro w hSw; (try dsimp only at hSw); go_simp; try with_reducible rfl)); try simp only [Act.put, List.setIfInBounds_toArray, List.set_cons_zero, List.set_cons_succ]
              refine wpH_take (i := 24) (v := ?_) rfl (by kernel_rfl) (by kernel_rfl) (by kernel_rfl) (fun _ _ _ h => h) (by rfl) ?_ (by assumption) ?_; rotate_left; (focus (intro w hSw; (try dsimp only at hSw); go_simp; try with_reducible rfl)); try simp only [Act.put, List.setIfInBounds_toArray, List.set_cons_zero, List.set_cons_succ]
              obtain ⟨⟨u0, u1⟩, f0, f1⟩ := HBX.out
              have hul := HBX.out.lt
              refine wpAnyH_ready (rs := [26]) (by kernel_rfl) (by simp) ?_
              refine AllReadyH.cons rfl (fun K hK => ?_) AllReadyH.nil
              try dsimp only at hHeld
              go_simp
              skip
              refine hK.out _ _ ?_ (fun hHeld2 => ?_)
              · try dsimp only
                (first | assumption | exact hB0.drew | exact below_step1 (by assumption) (box_alloc _ _) | exact below_step1 (by assumption) (by assumption) | (refine Below.setCell (Below.setCell ?_ ?_ _) ?_ _ <;> first | assumption | exact hbb) | exact below_step1 hPre (box_alloc _ _))
              clear hK K hHeld
              have hHeld := hHeld2
              clear hHeld2
              refine wpH_take (i := 27) (v := ?_) rfl (by kernel_rfl) (by kernel_rfl) (by kernel_rfl) (fun _ _ _ h => h) (by rfl) ?_ (by assumption) ?_; rotate_left; (focus (intro w hSw; (try dsimp only at hSw); go_simp; try with_reducible rfl)); try simp only [Act.put, List.setIfInBounds_toArray, List.set_cons_zero, List.set_cons_succ]
              refine wpAnyH_done (by kernel_rfl) ?_ _
              try dsimp only at hHeld
              clear u0 u1 f0 f1 hul
              go_wp2_with fail
              go_meet
              exact ⟨_, rfl, rfl, Lib.hid hHeld⟩
          · try dsimp only at hHeld
            go_simp
            skip
            refine hK.out _ _ ?_ (fun hHeld2 => ?_)
            · try dsimp only
              (first | assumption | exact below_step1 (by assumption) (box_alloc _ _) | exact below_step1 (by assumption) (by assumption) | exact below_step1 hPre (box_alloc _ _))
            clear hK K hHeld
            have hHeld := hHeld2
            clear hHeld2
            have HBX : Hid (Two (w4.alloc (.cells #[.int .i64 0, .slice none 0 0] 72)).drew w4.heap.size (.int .i64 0) (.slice none 0 0)) := Lib.hid (by
              have h := two_new w4 72 (.int .i64 0) (.slice none 0 0)
              have e : w4.heap.size = w4.heap.size := by simp
              rw [e] at h
              exact h.kept rfl)
            have hbb : w4.heap.size ≤ (⟨w4.heap.size, 0, none⟩ : Addr).block := Nat.le_refl _
            generalize (w4.alloc (.cells #[.int .i64 0, .slice none 0 0] 72)).drew = wA at *
            refine wpAnyH_ready (rs := [13]) (by kernel_rfl) (by simp) ?_
            refine AllReadyH.cons rfl (fun K hK => ?_) AllReadyH.nil
            try dsimp only at hHeld
            go_simp
            skip
            refine hK.out _ _ ?_ (fun hHeld2 => ?_)
            · try dsimp only
              (first | assumption | exact hB0.drew | exact below_step1 (by assumption) (box_alloc _ _) | exact below_step1 (by assumption) (by assumption) | (refine Below.setCell (Below.setCell ?_ ?_ _) ?_ _ <;> first | assumption | exact hbb) | exact below_step1 hPre (box_alloc _ _))
            clear hK K hHeld
            have hHeld := hHeld2
            clear hHeld2
            replace HBX := Lib.hid (HBX.out.alloc (.cells #[.int .u8 (z : Int)] 5))
            have hrb := rd_byte wA 5 (z : Int) hz0 hz1
            have hcv := run_str (P := Try.prog) 47 9 5 Try.underlying47 Try.underlying5 Try.underlying9 hrb
            clear hrb
            refine wpAnyH_ready (rs := [14]) (by kernel_rfl) (by simp) ?_
            refine AllReadyH.cons rfl (fun K hK => ?_) AllReadyH.nil
            try dsimp only at hHeld
            go_simp
            skip
            refine hK.out _ _ ?_ (fun hHeld2 => ?_)
            · try dsimp only
              (first | assumption | exact hB0.drew | exact below_step1 (by assumption) (box_alloc _ _) | exact below_step1 (by assumption) (by assumption) | (refine Below.setCell (Below.setCell ?_ ?_ _) ?_ _ <;> first | assumption | exact hbb) | exact below_step1 hPre (box_alloc _ _))
            clear hK K hHeld
            have hHeld := hHeld2
            clear hHeld2
            clear hcv
            have hmin : min K S.size = K := Nat.min_eq_left (by omega)
            have hs1 : ¬ 9223372036854775807 < K + 1 := by omega
            have hs2 : ¬ 9223372036854775807 < K + 1 + (S.size - K) := by omega
            have hs3 : ¬ 9223372036854775807 < K + 1 + (S.size - (K + 1)) := by omega
            have HXS : (S.extract 0 K ++ (⟨#[UInt8.ofNat z]⟩ : ByteArray) ++ S.extract (K + 1) S.size).size ≤ 1048576 := by simp only [ByteArray.size_append, ByteArray.size_extract, size_one]; omega
            have HI : Hid (∀ W, Calls Try.prog 58 #[.string (S.extract 0 K ++ (⟨#[UInt8.ofNat z]⟩ : ByteArray) ++ S.extract (K + 1) S.size)] W fun e w' => ∃ (q0 : Option Addr) (d0 : Nat), e = .returned (.tuple #[.agg #[.int .i64 0, .slice q0 0 d0], .bool false]) ∧ Below W.heap.size W w') := Lib.hid (fun W => (implReadTxn_any _ W HXS).mono (fun e w' h => by
              obtain ⟨v, rfl, hO, hb⟩ := h
              rw [HTX.out] at hO ⊢
              obtain ⟨q0, d0, rfl, _⟩ := hO.ex
              exact ⟨q0, d0, rfl, hb⟩))
            clear HXS
            refine wpH_take (i := 15) (v := ?_) rfl (by kernel_rfl) (by kernel_rfl) (by kernel_rfl) (fun _ _ _ h => h) (by rfl) ?_ (by assumption) ?_; rotate_left; (focus (intro w hSw; (try dsimp only at hSw); go_simp; try with_reducible rfl)); try simp only [Act.put, List.setIfInBounds_toArray, List.set_cons_zero, List.set_cons_succ]
            refine wpH_take (i := 20) (v := ?_) rfl (by kernel_rfl) (by kernel_rfl) (by kernel_rfl) (fun _ _ _ h => h) (by rfl) ?_ (by assumption) ?_; rotate_left; (focus (intro w hSw; (try dsimp only at hSw); go_simp; try with_reducible rfl)); try simp only [Act.put, List.setIfInBounds_toArray, List.set_cons_zero, List.set_cons_succ]
            refine wpAnyH_ready (rs := [21]) (by kernel_rfl) (by simp) ?_
            refine AllReadyH.cons rfl (fun K hK => ?_) AllReadyH.nil
            try dsimp only at hHeld
            go_simp
            (go_at_call 58; refine (HI.out _).mono ?_; rintro e w7 ⟨q0, d0, rfl, hb7⟩)
            refine hK.out _ _ ?_ (fun hHeld2 => ?_)
            · try dsimp only
              (first | assumption | exact hB0.drew | exact below_step1 (by assumption) (box_alloc _ _) | exact below_step1 (by assumption) (by assumption) | (refine Below.setCell (Below.setCell ?_ ?_ _) ?_ _ <;> first | assumption | exact hbb) | exact below_step1 hPre (box_alloc _ _))
            clear hK K hHeld
            have hHeld := hHeld2
            clear hHeld2
            replace HBX := Lib.hid (HBX.out.grown (grown_of_below none hb7) (fun e => by cases e))
            refine wpH_take (i := 22) (v := ?_) rfl (by kernel_rfl) (by kernel_rfl) (by kernel_rfl) (fun _ _ _ h => h) (by rfl) ?_ (by assumption) ?_; rotate_left; (focus (intro w hSw; (try dsimp only at hSw); go_simp; try with_reducible rfl)); try simp only [Act.put, List.setIfInBounds_toArray, List.set_cons_zero, List.set_cons_succ]
            refine wpH_take (i := 23) (v := ?_) rfl (by kernel_rfl) (by kernel_rfl) (by kernel_rfl) (fun _ _ _ h => h) (by rfl) ?_ (by assumption) ?_; rotate_left; (focus (intro w hSw; (try dsimp only at hSw); go_simp; try with_reducible rfl)); try simp only [Act.put, List.setIfInBounds_toArray, List.set_cons_zero, List.set_cons_succ]
            refine wpH_take (i := 24) (v := ?_) rfl (by kernel_rfl) (by kernel_rfl) (by kernel_rfl) (fun _ _ _ h => h) (by rfl) ?_ (by assumption) ?_; rotate_left; (focus (intro w hSw; (try dsimp only at hSw); go_simp; try with_reducible rfl)); try simp only [Act.put, List.setIfInBounds_toArray, List.set_cons_zero, List.set_cons_succ]
            obtain ⟨⟨u0, u1⟩, f0, f1⟩ := HBX.out
            have hul := HBX.out.lt
            refine wpAnyH_ready (rs := [26]) (by kernel_rfl) (by simp) ?_
            refine AllReadyH.cons rfl (fun K hK => ?_) AllReadyH.nil
            try dsimp only at hHeld
            go_simp
            skip
            refine hK.out _ _ ?_ (fun hHeld2 => ?_)
            · try dsimp only
              (first | assumption | exact hB0.drew | exact below_step1 (by assumption) (box_alloc _ _) | exact below_step1 (by assumption) (by assumption) | (refine Below.setCell (Below.setCell ?_ ?_ _) ?_ _ <;> first | assumption | exact hbb) | exact below_step1 hPre (box_alloc _ _))
            clear hK K hHeld
            have hHeld := hHeld2
            clear hHeld2
            refine wpH_take (i := 27) (v := ?_) rfl (by kernel_rfl) (by kernel_rfl) (by kernel_rfl) (fun _ _ _ h => h) (by rfl) ?_ (by assumption) ?_; rotate_left; (focus (intro w hSw; (try dsimp only at hSw); go_simp; try with_reducible rfl)); try simp only [Act.put, List.setIfInBounds_toArray, List.set_cons_zero, List.set_cons_succ]
            refine wpAnyH_done (by kernel_rfl) ?_ _
            try dsimp only at hHeld
            clear u0 u1 f0 f1 hul
            go_wp2_with fail
            go_meet
            exact ⟨_, rfl, rfl, Lib.hid hHeld⟩
        · try dsimp only at hHeld
          go_simp
          skip
          refine hK.out _ _ ?_ (fun hHeld2 => ?_)
          · try dsimp only
            (first | assumption | exact below_step1 (by assumption) (box_alloc _ _) | exact below_step1 (by assumption) (by assumption) | exact below_step1 hPre (box_alloc _ _))
          clear hK K hHeld
          have hHeld := hHeld2
          clear hHeld2
          have HBX : Hid (Two (w4.alloc (.cells #[.int .i64 0, .slice none 0 0] 72)).drew w4.heap.size (.int .i64 0) (.slice none 0 0)) := Lib.hid (by
            have h := two_new w4 72 (.int .i64 0) (.slice none 0 0)
            have e : w4.heap.size = w4.heap.size := by simp
            rw [e] at h
            exact h.kept rfl)
          have hbb : w4.heap.size ≤ (⟨w4.heap.size, 0, none⟩ : Addr).block := Nat.le_refl _
          generalize (w4.alloc (.cells #[.int .i64 0, .slice none 0 0] 72)).drew = wA at *
          refine wpAnyH_ready (rs := [8]) (by kernel_rfl) (by simp) ?_
          refine AllReadyH.cons rfl (fun K hK => ?_) AllReadyH.nil
          try dsimp only at hHeld
          go_simp
          (go_at_call 62; refine (at_any _ _ _ _ 2 _ (HR.out.below (HB4.out.trans (hHeld.mono HB4.out.size)) (Nat.le_refl _)) HZ.out hn (by omega)).mono ?_; rintro e w' ⟨⟨y2, ⟨l2, m2⟩, rfl⟩, rfl⟩)
          refine hK.out _ _ ?_ (fun hHeld2 => ?_)
          · try dsimp only
            (first | assumption | exact hB0.drew | exact below_step1 (by assumption) (box_alloc _ _) | exact below_step1 (by assumption) (by assumption) | (refine Below.setCell (Below.setCell ?_ ?_ _) ?_ _ <;> first | assumption | exact hbb) | exact below_step1 hPre (box_alloc _ _))
          clear hK K hHeld
          have hHeld := hHeld2
          clear hHeld2
          obtain ⟨q, hq, hq255⟩ : ∃ q : Nat, y2 % 255 = (q : Int) ∧ q < 255 := ⟨(y2 % 255).toNat, by omega, by omega⟩
          have hq0 : (0 : Int) ≤ (q : Int) := by omega
          have hq1 : (q : Int) < 255 := by omega
          refine wpH_take (i := 9) (v := ?_) rfl (by kernel_rfl) (by kernel_rfl) (by kernel_rfl) (fun _ _ _ h => h) (by rfl) ?_ (by assumption) ?_; rotate_left; (focus (intro w hSw; (try dsimp only at hSw); go_simp; try with_reducible rfl)); try simp only [Act.put, List.setIfInBounds_toArray, List.set_cons_zero, List.set_cons_succ]
          have hqt : y2.tmod 255 = (q : Int) := by rw [Int.tmod_eq_emod_of_nonneg (by omega)]; exact hq
          rw [hqt]
          clear hq hqt
          have hv2 : IntKind.i64.wrap (1 + (q : Int)) = 1 + (q : Int) := IntWalk.i64_in _ (by omega)
          obtain ⟨hxe, hxl⟩ := xor_byte (byteAt S K) (1 + q) hbl (by omega)
          rw [hbk, show ((1 + q : Nat) : Int) = 1 + (q : Int) from by omega] at hxe
          rw [hbk] at hxl
          have hxn := xor_ne ((S[K]'hkt).toNat) (1 + q) (by omega)
          refine wpH_take (i := 10) (v := ?_) rfl (by kernel_rfl) (by kernel_rfl) (by kernel_rfl) (fun _ _ _ h => h) (by rfl) ?_ (by assumption) ?_; rotate_left; (focus (intro w hSw; (try dsimp only at hSw); go_simp; try with_reducible rfl)); try simp only [Act.put, List.setIfInBounds_toArray, List.set_cons_zero, List.set_cons_succ]
          refine wpH_take (i := 11) (v := ?_) rfl (by kernel_rfl) (by kernel_rfl) (by kernel_rfl) (fun _ _ _ h => h) (by rfl) ?_ (by assumption) ?_; rotate_left; (focus (intro w hSw; (try dsimp only at hSw); go_simp; try with_reducible rfl)); try simp only [Act.put, List.setIfInBounds_toArray, List.set_cons_zero, List.set_cons_succ]
          generalize (S[K]'hkt).toNat ^^^ (1 + q) = z at *
          have hz0 : (0 : Int) ≤ (z : Int) := by omega
          have hz1 : (z : Int) < 256 := by omega
          have hwx := u8_in (z : Int) hz0 hz1
          have HTX : Hid (readX (S.extract 0 K ++ (⟨#[UInt8.ofNat z]⟩ : ByteArray) ++ S.extract (K + 1) S.size).data.toList = (0, [], false)) := Lib.hid (HTU.out _ (fun e => hxn (by rw [← e]; simp; omega)))
          clear hxe hxn
          refine wpH_take (i := 12) (v := ?_) rfl (by kernel_rfl) (by kernel_rfl) (by kernel_rfl) (fun _ _ _ h => h) (by rfl) ?_ (by assumption) ?_; rotate_left; (focus (intro w hSw; (try dsimp only at hSw); go_simp; try with_reducible rfl)); try simp only [Act.put, List.setIfInBounds_toArray, List.set_cons_zero, List.set_cons_succ]
          refine wpAnyH_ready (rs := [13]) (by kernel_rfl) (by simp) ?_
          refine AllReadyH.cons rfl (fun K hK => ?_) AllReadyH.nil
          try dsimp only at hHeld
          go_simp
          skip
          refine hK.out _ _ ?_ (fun hHeld2 => ?_)
          · try dsimp only
            (first | assumption | exact hB0.drew | exact below_step1 (by assumption) (box_alloc _ _) | exact below_step1 (by assumption) (by assumption) | (refine Below.setCell (Below.setCell ?_ ?_ _) ?_ _ <;> first | assumption | exact hbb) | exact below_step1 hPre (box_alloc _ _))
          clear hK K hHeld
          have hHeld := hHeld2
          clear hHeld2
          replace HBX := Lib.hid (HBX.out.alloc (.cells #[.int .u8 (z : Int)] 5))
          have hrb := rd_byte wA 5 (z : Int) hz0 hz1
          have hcv := run_str (P := Try.prog) 47 9 5 Try.underlying47 Try.underlying5 Try.underlying9 hrb
          clear hrb
          refine wpAnyH_ready (rs := [14]) (by kernel_rfl) (by simp) ?_
          refine AllReadyH.cons rfl (fun K hK => ?_) AllReadyH.nil
          try dsimp only at hHeld
          go_simp
          skip
          refine hK.out _ _ ?_ (fun hHeld2 => ?_)
          · try dsimp only
            (first | assumption | exact hB0.drew | exact below_step1 (by assumption) (box_alloc _ _) | exact below_step1 (by assumption) (by assumption) | (refine Below.setCell (Below.setCell ?_ ?_ _) ?_ _ <;> first | assumption | exact hbb) | exact below_step1 hPre (box_alloc _ _))
          clear hK K hHeld
          have hHeld := hHeld2
          clear hHeld2
          clear hcv
          have hmin : min K S.size = K := Nat.min_eq_left (by omega)
          have hs1 : ¬ 9223372036854775807 < K + 1 := by omega
          have hs2 : ¬ 9223372036854775807 < K + 1 + (S.size - K) := by omega
          have hs3 : ¬ 9223372036854775807 < K + 1 + (S.size - (K + 1)) := by omega
          have HXS : (S.extract 0 K ++ (⟨#[UInt8.ofNat z]⟩ : ByteArray) ++ S.extract (K + 1) S.size).size ≤ 1048576 := by simp only [ByteArray.size_append, ByteArray.size_extract, size_one]; omega
          have HI : Hid (∀ W, Calls Try.prog 58 #[.string (S.extract 0 K ++ (⟨#[UInt8.ofNat z]⟩ : ByteArray) ++ S.extract (K + 1) S.size)] W fun e w' => ∃ (q0 : Option Addr) (d0 : Nat), e = .returned (.tuple #[.agg #[.int .i64 0, .slice q0 0 d0], .bool false]) ∧ Below W.heap.size W w') := Lib.hid (fun W => (implReadTxn_any _ W HXS).mono (fun e w' h => by
            obtain ⟨v, rfl, hO, hb⟩ := h
            rw [HTX.out] at hO ⊢
            obtain ⟨q0, d0, rfl, _⟩ := hO.ex
            exact ⟨q0, d0, rfl, hb⟩))
          clear HXS
          refine wpH_take (i := 15) (v := ?_) rfl (by kernel_rfl) (by kernel_rfl) (by kernel_rfl) (fun _ _ _ h => h) (by rfl) ?_ (by assumption) ?_; rotate_left; (focus (intro w hSw; (try dsimp only at hSw); go_simp; try with_reducible rfl)); try simp only [Act.put, List.setIfInBounds_toArray, List.set_cons_zero, List.set_cons_succ]
          refine wpH_take (i := 20) (v := ?_) rfl (by kernel_rfl) (by kernel_rfl) (by kernel_rfl) (fun _ _ _ h => h) (by rfl) ?_ (by assumption) ?_; rotate_left; (focus (intro w hSw; (try dsimp only at hSw); go_simp; try with_reducible rfl)); try simp only [Act.put, List.setIfInBounds_toArray, List.set_cons_zero, List.set_cons_succ]
          refine wpAnyH_ready (rs := [21]) (by kernel_rfl) (by simp) ?_
          refine AllReadyH.cons rfl (fun K hK => ?_) AllReadyH.nil
          try dsimp only at hHeld
          go_simp
          (go_at_call 58; refine (HI.out _).mono ?_; rintro e w7 ⟨q0, d0, rfl, hb7⟩)
          refine hK.out _ _ ?_ (fun hHeld2 => ?_)
          · try dsimp only
            (first | assumption | exact hB0.drew | exact below_step1 (by assumption) (box_alloc _ _) | exact below_step1 (by assumption) (by assumption) | (refine Below.setCell (Below.setCell ?_ ?_ _) ?_ _ <;> first | assumption | exact hbb) | exact below_step1 hPre (box_alloc _ _))
          clear hK K hHeld
          have hHeld := hHeld2
          clear hHeld2
          replace HBX := Lib.hid (HBX.out.grown (grown_of_below none hb7) (fun e => by cases e))
          refine wpH_take (i := 22) (v := ?_) rfl (by kernel_rfl) (by kernel_rfl) (by kernel_rfl) (fun _ _ _ h => h) (by rfl) ?_ (by assumption) ?_; rotate_left; (focus (intro w hSw; (try dsimp only at hSw); go_simp; try with_reducible rfl)); try simp only [Act.put, List.setIfInBounds_toArray, List.set_cons_zero, List.set_cons_succ]
          refine wpH_take (i := 23) (v := ?_) rfl (by kernel_rfl) (by kernel_rfl) (by kernel_rfl) (fun _ _ _ h => h) (by rfl) ?_ (by assumption) ?_; rotate_left; (focus (intro w hSw; (try dsimp only at hSw); go_simp; try with_reducible rfl)); try simp only [Act.put, List.setIfInBounds_toArray, List.set_cons_zero, List.set_cons_succ]
          refine wpH_take (i := 24) (v := ?_) rfl (by kernel_rfl) (by kernel_rfl) (by kernel_rfl) (fun _ _ _ h => h) (by rfl) ?_ (by assumption) ?_; rotate_left; (focus (intro w hSw; (try dsimp only at hSw); go_simp; try with_reducible rfl)); try simp only [Act.put, List.setIfInBounds_toArray, List.set_cons_zero, List.set_cons_succ]
          obtain ⟨⟨u0, u1⟩, f0, f1⟩ := HBX.out
          have hul := HBX.out.lt
          refine wpAnyH_ready (rs := [26]) (by kernel_rfl) (by simp) ?_
          refine AllReadyH.cons rfl (fun K hK => ?_) AllReadyH.nil
          try dsimp only at hHeld
          go_simp
          skip
          refine hK.out _ _ ?_ (fun hHeld2 => ?_)
          · try dsimp only
            (first | assumption | exact hB0.drew | exact below_step1 (by assumption) (box_alloc _ _) | exact below_step1 (by assumption) (by assumption) | (refine Below.setCell (Below.setCell ?_ ?_ _) ?_ _ <;> first | assumption | exact hbb) | exact below_step1 hPre (box_alloc _ _))
          clear hK K hHeld
          have hHeld := hHeld2
          clear hHeld2
          refine wpH_take (i := 27) (v := ?_) rfl (by kernel_rfl) (by kernel_rfl) (by kernel_rfl) (fun _ _ _ h => h) (by rfl) ?_ (by assumption) ?_; rotate_left; (focus (intro w hSw; (try dsimp only at hSw); go_simp; try with_reducible rfl)); try simp only [Act.put, List.setIfInBounds_toArray, List.set_cons_zero, List.set_cons_succ]
          refine wpAnyH_done (by kernel_rfl) ?_ _
          try dsimp only at hHeld
          clear u0 u1 f0 f1 hul
          go_wp2_with fail
          go_meet
          exact ⟨_, rfl, rfl, Lib.hid hHeld⟩
      case rest =>
        obtain ⟨b8, rfl, rfl, HBC⟩ := hcut
        have HBW := Lib.hid (below_step1 HB4.out HBC.out)
        go_wp2_with fail
        refine (drawReadTxn_any _ _ _ _ _ (HR.out.below HBW.out (Nat.le_refl _)) HZ2.out hn).mono ?_
        rintro e w8 ⟨U, rfl, hU, hb8⟩
        have HBC8 := Lib.hid (below_step1 HBC.out hb8)
        have HBW8 := Lib.hid (below_step1 HBW.out hb8)
        clear hb8 HBC HBW
        go_wp2_with fail
        refine (implReadTxn_any U _ (by omega)).mono ?_
        rintro e w9 ⟨v, rfl, hO, hb9⟩
        have HBC9 := Lib.hid (below_step1 HBC8.out hb9)
        have HBW9 := Lib.hid (below_step1 HBW8.out hb9)
        have HUB := Lib.hid (readX_back U)
        have h17 := readX_len2 U.data.toList
        obtain ⟨⟨s3, l3, ok3⟩, hx3⟩ : ∃ x, readX U.data.toList = x := ⟨_, rfl⟩
        rw [hx3] at hO HUB h17 ⊢
        simp only at hO h17 ⊢
        obtain ⟨p3, c3, rfl, hO3⟩ := hO.ex
        have HY := Lib.hid hO3.rd
        clear hO hO3 hb9 HBC8 HBW8 hx3
        unfold txV
        have HBX := Lib.hid (box_alloc w9 (.cells #[.int .i64 s3, .slice p3 l3.length c3] 72))
        have HBC10 := Lib.hid (below_step1 HBC9.out HBX.out)
        have HBW10 := Lib.hid (below_step1 HBW9.out HBX.out)
        have HY10 := Lib.hid (HY.out.below HBX.out (Nat.le_refl _))
        have HYC : Hid (∀ W, Below (w9.alloc (.cells #[.int .i64 s3, .slice p3 l3.length c3] 72)).heap.size (w9.alloc (.cells #[.int .i64 s3, .slice p3 l3.length c3] 72)) W → W.cell? ⟨w9.heap.size, 0, none⟩ = some (.int .i64 s3) ∧ W.cell? ⟨w9.heap.size, 1, none⟩ = some (.slice p3 l3.length c3)) := Lib.hid (fun W hb => ⟨box_below (box0 w9 72 (.int .i64 s3) (.slice p3 l3.length c3)) hb, box_below (box1 w9 72 (.int .i64 s3) (.slice p3 l3.length c3)) hb⟩)
        obtain ⟨⟨t0, t1⟩, x0, x1⟩ := HCE.out _ HBC10.out
        have htT : T < (w9.alloc (.cells #[.int .i64 s3, .slice p3 l3.length c3] 72)).heap.size := World.block_lt_of_cell? _ _ t0
        have htX : X < (w9.alloc (.cells #[.int .i64 s3, .slice p3 l3.length c3] 72)).heap.size := World.block_lt_of_cell? _ _ x0
        have htT9 : T < w9.heap.size := by have := HBC9.out.size; omega
        have htX9 : X < w9.heap.size := by have := HBC9.out.size; omega
        go_wp2
        clear t0 t1 x0 x1 htT htX htT9 htX9
        generalize hW10 : w9.alloc (.cells #[.int .i64 s3, .slice p3 l3.length c3] 72) = w10 at *
        clear hW10 HBX
        generalize w9.heap.size = Y at *
        go_loopg [13] l.length (fun gg i wr => ∃ k : Nat, k + gg = l.length ∧ i = .int .i64 (k : Int) ∧ Hid (Below w10.heap.size w10 wr))
        case atStart => exact ⟨0, by omega, rfl, Lib.hid (Below.refl _ _)⟩
        case round =>
          obtain ⟨k, hk, rfl, HBW⟩ := hrel
          have HBWc := Lib.hid (below_step1 HBC10.out HBW.out)
          obtain ⟨⟨t0, t1⟩, x0, x1⟩ := HCE.out _ HBWc.out
          by_cases hlt : k < l.length
          · obtain ⟨ba, oa, rfl, hba, ha0, ha1⟩ := wrs_cells (HL4.out.below HBWc.out (Nat.le_refl _)) k hlt
            obtain ⟨bb, ob, rfl, hbb, hb0, hb1⟩ := wrs_cells (HX4.out.below HBWc.out (Nat.le_refl _)) k hlt
            have hi : (k : Int) < (l.length : Int) := by omega
            have hi0 : (0 : Int) ≤ (k : Int) := by omega
            have HF := Lib.hid (And.intro t0 (And.intro t1 (And.intro x0 (And.intro x1 (And.intro ha0 (And.intro ha1 (And.intro hb0 hb1)))))))
            have ht := World.block_lt_of_cell? _ _ t0
            have hx := World.block_lt_of_cell? _ _ x0
            generalize l[k] = x at *
            obtain ⟨xz, xs⟩ := x
            try simp only at HF
            go_upto_region 19 with (fail)
            clear t0 t1 x0 x1 ha0 ha1 hb0 hb1
            refine wp_region_held_drew (S := (fun W => W.cell? ⟨T, 0, none⟩ = some (.int .i64 seq) ∧ W.cell? ⟨T, 1, none⟩ = some (.slice (some ⟨ba, oa, none⟩) l.length c) ∧ W.cell? ⟨X, 0, none⟩ = some (.int .i64 seq) ∧ W.cell? ⟨X, 1, none⟩ = some (.slice (some ⟨bb, ob, none⟩) l.length c2) ∧ W.cell? ⟨ba, oa + k * 2, none⟩ = some (.int .i64 xz) ∧ W.cell? ⟨ba, oa + k * 2 + 1, none⟩ = some (.string xs) ∧ W.cell? ⟨bb, ob + k * 2, none⟩ = some (.int .i64 xz) ∧ W.cell? ⟨bb, ob + k * 2 + 1, none⟩ = some (.string xs))) (by kernel_rfl) ?_ (fun hHeld => ?_)
            · try dsimp only
              exact HF.out
            change wpAnyH _ _ _ _ _ 11 #[false, false, false, false, false, false, false, false, false, false, false] _ _
            refine wpH_take (i := 0) (v := ?_) rfl (by kernel_rfl) (by kernel_rfl) (by kernel_rfl) (fun _ _ _ h => h) (by rfl) ?_ (by assumption) ?_; rotate_left; (focus (intro w hSw; (try dsimp only at hSw); go_simp; try with_reducible rfl)); try simp only [Act.put, List.setIfInBounds_toArray, List.set_cons_zero, List.set_cons_succ]
            refine wpH_take (i := 1) (v := ?_) rfl (by kernel_rfl) (by kernel_rfl) (by kernel_rfl) (fun _ _ _ h => h) (by rfl) ?_ (by assumption) ?_; rotate_left; (focus (intro w hSw; (try dsimp only at hSw); go_simp; try with_reducible rfl)); try simp only [Act.put, List.setIfInBounds_toArray, List.set_cons_zero, List.set_cons_succ]
            refine wpH_take (i := 2) (v := ?_) rfl (by kernel_rfl) (by kernel_rfl) (by kernel_rfl) (fun _ _ _ h => h) (by rfl) ?_ (by assumption) ?_; rotate_left; (focus (intro w hSw; (try dsimp only at hSw); go_simp; try with_reducible rfl)); try simp only [Act.put, List.setIfInBounds_toArray, List.set_cons_zero, List.set_cons_succ]
            refine wpH_take (i := 3) (v := ?_) rfl (by kernel_rfl) (by kernel_rfl) (by kernel_rfl) (fun _ _ _ h => h) (by rfl) ?_ (by assumption) ?_; rotate_left; (focus (intro w hSw; (try dsimp only at hSw); go_simp; try with_reducible rfl)); try simp only [Act.put, List.setIfInBounds_toArray, List.set_cons_zero, List.set_cons_succ]
            refine wpH_take (i := 4) (v := ?_) rfl (by kernel_rfl) (by kernel_rfl) (by kernel_rfl) (fun _ _ _ h => h) (by rfl) ?_ (by assumption) ?_; rotate_left; (focus (intro w hSw; (try dsimp only at hSw); go_simp; try with_reducible rfl)); try simp only [Act.put, List.setIfInBounds_toArray, List.set_cons_zero, List.set_cons_succ]
            refine wpH_take (i := 5) (v := ?_) rfl (by kernel_rfl) (by kernel_rfl) (by kernel_rfl) (fun _ _ _ h => h) (by rfl) ?_ (by assumption) ?_; rotate_left; (focus (intro w hSw; (try dsimp only at hSw); go_simp; try with_reducible rfl)); try simp only [Act.put, List.setIfInBounds_toArray, List.set_cons_zero, List.set_cons_succ]
            refine wpH_take (i := 6) (v := ?_) rfl (by kernel_rfl) (by kernel_rfl) (by kernel_rfl) (fun _ _ _ h => h) (by rfl) ?_ (by assumption) ?_; rotate_left; (focus (intro w hSw; (try dsimp only at hSw); go_simp; try with_reducible rfl)); try simp only [Act.put, List.setIfInBounds_toArray, List.set_cons_zero, List.set_cons_succ]
            refine wpH_take (i := 7) (v := ?_) rfl (by kernel_rfl) (by kernel_rfl) (by kernel_rfl) (fun _ _ _ h => h) (by rfl) ?_ (by assumption) ?_; rotate_left; (focus (intro w hSw; (try dsimp only at hSw); go_simp; try with_reducible rfl)); try simp only [Act.put, List.setIfInBounds_toArray, List.set_cons_zero, List.set_cons_succ]
            refine wpH_take (i := 8) (v := ?_) rfl (by kernel_rfl) (by kernel_rfl) (by kernel_rfl) (fun _ _ _ h => h) (by rfl) ?_ (by assumption) ?_; rotate_left; (focus (intro w hSw; (try dsimp only at hSw); go_simp; try with_reducible rfl)); try simp only [Act.put, List.setIfInBounds_toArray, List.set_cons_zero, List.set_cons_succ]
            refine wpH_take (i := 9) (v := ?_) rfl (by kernel_rfl) (by kernel_rfl) (by kernel_rfl) (fun _ _ _ h => h) (by rfl) ?_ (by assumption) ?_; rotate_left; (focus (intro w hSw; (try dsimp only at hSw); go_simp; try with_reducible rfl)); try simp only [Act.put, List.setIfInBounds_toArray, List.set_cons_zero, List.set_cons_succ]
            refine wpH_take (i := 10) (v := ?_) rfl (by kernel_rfl) (by kernel_rfl) (by kernel_rfl) (fun _ _ _ h => h) (by rfl) ?_ (by assumption) ?_; rotate_left; (focus (intro w hSw; (try dsimp only at hSw); go_simp; try with_reducible rfl)); try simp only [Act.put, List.setIfInBounds_toArray, List.set_cons_zero, List.set_cons_succ]
            refine wpAnyH_done (by kernel_rfl) ?_ _
            try dsimp only at hHeld
            clear hHeld
            have HB2 := Lib.hid HBW.out.drew
            go_wp2
            go_roundg (gk - 1)
            case measure => omega
            case rel => exact ⟨k + 1, by omega, by go_num, HB2⟩
          · have hi : ¬ (k : Int) < (l.length : Int) := by omega
            obtain ⟨y0, y1⟩ := HYC.out _ HBW.out
            have ht := World.block_lt_of_cell? _ _ t0
            have hy := World.block_lt_of_cell? _ _ y0
            have HBE := Lib.hid (below_step1 HBW10.out HBW.out)
            have HYE := Lib.hid (HY10.out.below HBW.out (Nat.le_refl _))
            clear x0 x1 HCE HYC
            cases ok3 with
            | false =>
              go_wp2
              go_ret
              exact ⟨rfl, HBE.out⟩
            | true =>
              have HSE : Hid (showB s3 l3 = U) := Lib.hid (HUB.out _ _ rfl)
              go_wp2_with fail
              refine (implShow_any s3 p3 c3 l3 _ HYE.out (by omega)).mono ?_
              rintro e w11 ⟨rfl, hb⟩
              have HB11 := Lib.hid (below_step1 HBE.out hb)
              clear hb
              rw [HSE.out]
              go_wp2
              go_ret
              exact ⟨rfl, HB11.out⟩
end Go.Proofs.Ytbokgbbdjcpgbaa
