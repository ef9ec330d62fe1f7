/- One text of RbT RbU. (Printed by merge.py.) -/
import Derived.Test.YtlkfabkkjfmnmaaGreatDoorRbX
import Derived.Test.YtlkfabkkjfmnmaaGreatDoorRbY
namespace Go.Proofs.YtlkfabkkjfmnmaaGreatDoor
open Go.RowKit

theorem inoPost_zero {w W : World} {x : InoL} {ok : Bool} (hb : Below w.heap.size w W) (h : (x, ok) = (zIno, false)) : InoPost x ok w (.returned (.tuple #[.agg #[.int .i64 0, .int .i64 0, .int .i64 0, .string ByteArray.empty, .slice none 0 0], .bool false])) W := by
  cases h
  exact ⟨none, 0, rfl, own_none hb hb.size⟩
theorem ret_l7Parse {Post : Ending → World → Prop} {a : Act} {wf : World} {R : Nat} {u0 u1 u2 : Int} {u3 : ByteArray} {u4 : Value} {b : Bool} (hc : Cs wf R [.int .i64 u0, .int .i64 u1, .int .i64 u2, .string u3, u4]) (h2 : a.tmps[2]?.getD undef = .pointer (some ⟨R, 0, none⟩)) (h3 : a.tmps[3]?.getD undef = .bool b) (hd : a.defers = [])
    (hp : Post (.returned (.tuple #[.agg #[.int .i64 u0, .int .i64 u1, .int .i64 u2, .string u3, u4], .bool b])) wf) : bodyPost Tryz.prog Tryz.f22 Post Exit.ret a wf := by
  obtain ⟨⟨r0, r1, r2, r3, r4⟩, -⟩ := hc.five
  exact bodyPost_ret (v := .tuple #[.agg #[.int .i64 u0, .int .i64 u1, .int .i64 u2, .string u3, u4], .bool b]) (by simp [results, Tryz.results22, go_sem, h2, h3, r0, r1, r2, r3, r4]) (by first | exact hd | rfl) hp
set_option maxRecDepth 1000000 in
set_option maxHeartbeats 6000000 in
theorem l7Parse_any (s : ByteArray) (w : World) (hs : s.size ≤ 1048576) (hT : KTab w) : Calls Tryz.prog 22 #[.string s] w (InoPost (inoG s.data.toList).1 (inoG s.data.toList).2 w) := by
  have HLEN := Lib.hid (data_len s)
  have HIN : Hid (inoG s.data.toList = if (cnG s.data.toList).2 < 0 ∨ 12 < (cnG s.data.toList).1.getD 0 0 then (zIno, false)
    else match entsG s.data.toList (cnG s.data.toList).2 ((cnG s.data.toList).1.getD 0 0).toNat with
      | none => (zIno, false)
      | some r => (⟨(hdG s.data.toList).1.getD 0 0, (hdG s.data.toList).1.getD 1 0, (hdG s.data.toList).1.getD 2 0, nmOf (tkG s.data.toList).1, r.1⟩, decide (r.2 = (s.data.toList.length : Int)))) := Lib.hid rfl
  have HEQ : Hid (varsF s.data.toList 3 1 [] = hdG s.data.toList ∧ takeP s.data.toList (hdG s.data.toList).2 = tkG s.data.toList ∧ varsF s.data.toList 1 (tkG s.data.toList).2 [] = cnG s.data.toList) := Lib.hid ⟨rfl, rfl, rfl⟩
  have HP0 := Lib.hid (varsF_le5 s.data.toList 2 1 [] (by omega))
  have HP1 := Lib.hid (takeQ_le s.data.toList (hdG s.data.toList).2)
  have HP2 := Lib.hid (varsF_le5 s.data.toList 0 (tkG s.data.toList).2 [])
  have HL3 := Lib.hid (varsQ_three s.data.toList 1)
  have HL1 := Lib.hid (take_one s.data.toList (tkG s.data.toList).2)
  have HN1 : Hid (0 ≤ (cnG s.data.toList).2 → 0 ≤ (hdG s.data.toList).2) := Lib.hid (fun h => by
    by_cases c : (hdG s.data.toList).2 < 0
    · have h1 : tkG s.data.toList = ([], -1) := takeQ_neg _ _ c
      have h2 : cnG s.data.toList = ([], -1) := by unfold cnG; rw [h1]; exact varsF_out _ 0 _ [] (.inl (by decide))
      rw [h2] at h
      exact absurd h (by decide)
    · omega)
  have HR0 := Lib.hid (cs_new w 45 #[.int .i64 0, .int .i64 0, .int .i64 0, .string ByteArray.empty, .slice none 0 0])
  have HB0 := Lib.hid (boxA w (.cells #[.int .i64 0, .int .i64 0, .int .i64 0, .string ByteArray.empty, .slice none 0 0] 45))
  have HT := Lib.hid hT
  clear hT
  rw [HEQ.out.1] at HP0 HL3
  rw [HEQ.out.2.1] at HP1
  rw [HEQ.out.2.2] at HP2 HL1
  go_enter Tryz.func22, Tryz.ntmps22
  go_wp2_with fail
  refine (l7Vars_any s 1 3 _ hs (by omega) (by omega) (by omega)).mono ?_
  rintro e w1 ⟨g0, c0, rfl, hO⟩
  rw [HEQ.out.1] at hO
  rw [HEQ.out.1]
  have HRl := Lib.hid hO.rd
  have HBK : Hid (∀ q, (Value.slice g0 (hdG s.data.toList).1.length c0).ownBlock = some q → w.heap.size + 1 ≤ q) := Lib.hid (fun q hq => by have := (hO.blk q hq).1; simpa using this)
  have HR1 := Lib.hid (HR0.out.below hO.below)
  have HB1 := Lib.hid (HB0.out.trans (hO.below.mono HB0.out.size))
  have hp0a := HP0.out.2
  have hp0b := HP0.out.1
  rw [HLEN.out] at hp0b
  clear hO HR0 HB0 HP0
  go_wp2_with fail
  refine (l7Take_any s (hdG s.data.toList).2 _ hs hp0a (by omega)).mono ?_
  rintro e w2 ⟨rfl, hb⟩
  rw [HEQ.out.2.1]
  rw [show (⟨(tkG s.data.toList).1.toArray⟩ : ByteArray) = nmOf (tkG s.data.toList).1 from rfl]
  have HRl2 := Lib.hid (HRl.out.below hb (Nat.le_refl _))
  have HR2 := Lib.hid (HR1.out.below hb)
  have HB2 := Lib.hid (HB1.out.trans (hb.mono HB1.out.size))
  have hp1 := HP1.out hp0a
  rw [HLEN.out] at hp1
  clear hb HRl HR1 HB1 HP1
  go_wp2_with fail
  refine (l7Vars_any s (tkG s.data.toList).2 1 _ hs hp1.1 (by omega) (by omega)).mono ?_
  rintro e w3 ⟨g3, c3, rfl, hO⟩
  rw [HEQ.out.2.2] at hO
  rw [HEQ.out.2.2]
  have HRn := Lib.hid hO.rd
  have HBN : Hid (∀ q, (Value.slice g3 (cnG s.data.toList).1.length c3).ownBlock = some q → w.heap.size + 1 ≤ q) := Lib.hid (fun q hq => by have h1 := (hO.blk q hq).1; have h2 := HR2.out.lt; omega)
  have HRl3 := Lib.hid (HRl2.out.below hO.below (Nat.le_refl _))
  have HR3 := Lib.hid (HR2.out.below hO.below)
  have HB3 := Lib.hid (HB2.out.trans (hO.below.mono HB2.out.size))
  have hp2 := HP2.out hp1.1
  rw [HLEN.out] at hp2
  have hzR : w.heap.size < w3.heap.size := HR3.out.lt
  clear hO HRl2 HR2 HB2 HP2 HEQ
  generalize hL : s.data.toList = L at *
  generalize nmOf (tkG L).1 = vd at *
  generalize (tkG L).2 = p1 at *
  generalize (hdG L).2 = p0 at *
  generalize (hdG L).1 = ll at *
  generalize (cnG L).2 = p2 at *
  generalize (cnG L).1 = nn at *
  by_cases hneg : p2 < 0
  · have HZ := Lib.hid (HIN.out.trans (if_pos (.inl hneg)))
    obtain ⟨⟨r0, r1, r2, r3, r4⟩, fr0, fr1, fr2, fr3, fr4⟩ := HR3.out.five
    have HRF := Lib.hid (cells_zero5 HR3.out (.int .i64 0) (.int .i64 0) (.int .i64 0) (.string ByteArray.empty) (.slice none 0 0))
    have HBF := Lib.hid (set5 HB3.out (Nat.le_refl _) (.int .i64 0) (.int .i64 0) (.int .i64 0) (.string ByteArray.empty) (.slice none 0 0))
    have HPZ := Lib.hid (inoPost_zero HBF.out HZ.out)
    clear HIN HL3 HL1 HN1 HRn HRl3 HBK HBN
    go_wp2
    exact ret_l7Parse HRF.out (by rfl) (by rfl) (by rfl) HPZ.out
  obtain ⟨i0, i1, i2, hll, hi0, hi1, hi2⟩ := HL3.out (HN1.out (by omega))
  obtain ⟨n0, hnn, hn0, hn1⟩ := HL1.out (by omega)
  subst hll
  subst hnn
  clear HL3 HL1 HN1
  simp only [List.getD_cons_zero, List.getD_cons_succ] at HIN
  obtain ⟨n, rfl⟩ := Int.eq_ofNat_of_zero_le hn0
  rw [Int.toNat_natCast] at HIN
  obtain ⟨bl, ol, rfl, hbs, hc⟩ := HRl3.out.at' (by simp)
  have lc0 : w3.cell? ⟨bl, ol, none⟩ = some (.int .i64 i0) := hc 0 (by simp)
  have lc1 : w3.cell? ⟨bl, ol + 1, none⟩ = some (.int .i64 i1) := hc 1 (by simp)
  have lc2 : w3.cell? ⟨bl, ol + 2, none⟩ = some (.int .i64 i2) := hc 2 (by simp)
  obtain ⟨bn, on, rfl, hbsn, hcn⟩ := HRn.out.at' (by simp)
  have nc0 : w3.cell? ⟨bn, on, none⟩ = some (.int .i64 (n : Int)) := hcn 0 (by simp)
  have hblR := HBK.out bl rfl
  have hbnR := HBN.out bn rfl
  clear hc hcn HRl3 HRn HBK HBN hi0 hi1 hi2
  by_cases hgt : 12 < n
  · have hg2 : (12 : Int) < (n : Int) := by omega
    have HZ := Lib.hid (HIN.out.trans (if_pos (.inr hg2)))
    obtain ⟨⟨r0, r1, r2, r3, r4⟩, fr0, fr1, fr2, fr3, fr4⟩ := HR3.out.five
    have HRF := Lib.hid (cells_zero5 HR3.out (.int .i64 0) (.int .i64 0) (.int .i64 0) (.string ByteArray.empty) (.slice none 0 0))
    have HBF := Lib.hid (set5 HB3.out (Nat.le_refl _) (.int .i64 0) (.int .i64 0) (.int .i64 0) (.string ByteArray.empty) (.slice none 0 0))
    have HPZ := Lib.hid (inoPost_zero HBF.out HZ.out)
    clear HIN
    go_wp2
    exact ret_l7Parse HRF.out (by rfl) (by rfl) (by rfl) HPZ.out
  have hg2 : ¬ (12 : Int) < (n : Int) := by omega
  have HIN2 := Lib.hid (HIN.out.trans (if_neg (by omega)))
  clear HIN
  have hX0 : Below w3.heap.size w3 (w3.alloc (.cells #[.int .i64 0, .int .i64 0, .int .i64 0, .string { data := #[] }, .slice none 0 0] 45)).drew := (boxA w3 (.cells #[.int .i64 0, .int .i64 0, .int .i64 0, .string { data := #[] }, .slice none 0 0] 45)).drew
  have HX4 : Hid (Cs (w3.alloc (.cells #[.int .i64 0, .int .i64 0, .int .i64 0, .string { data := #[] }, .slice none 0 0] 45)).drew w3.heap.size [.int .i64 0, .int .i64 0, .int .i64 0, .string { data := #[] }, .slice none 0 0]) := Lib.hid (cs_new w3 45 #[.int .i64 0, .int .i64 0, .int .i64 0, .string { data := #[] }, .slice none 0 0]).drew
  have HR4 : Hid (Cs (w3.alloc (.cells #[.int .i64 0, .int .i64 0, .int .i64 0, .string { data := #[] }, .slice none 0 0] 45)).drew w.heap.size [.int .i64 0, .int .i64 0, .int .i64 0, .string ByteArray.empty, .slice none 0 0]) := Lib.hid (HR3.out.below hX0)
  have HB4 : Hid (Below w.heap.size w (w3.alloc (.cells #[.int .i64 0, .int .i64 0, .int .i64 0, .string { data := #[] }, .slice none 0 0] 45)).drew) := Lib.hid (HB3.out.trans (hX0.mono HB3.out.size))
  have HC4 : Hid ((w3.alloc (.cells #[.int .i64 0, .int .i64 0, .int .i64 0, .string { data := #[] }, .slice none 0 0] 45)).drew.cell? ⟨bl, ol, none⟩ = some (.int .i64 i0) ∧ (w3.alloc (.cells #[.int .i64 0, .int .i64 0, .int .i64 0, .string { data := #[] }, .slice none 0 0] 45)).drew.cell? ⟨bl, ol + 1, none⟩ = some (.int .i64 i1) ∧ (w3.alloc (.cells #[.int .i64 0, .int .i64 0, .int .i64 0, .string { data := #[] }, .slice none 0 0] 45)).drew.cell? ⟨bl, ol + 2, none⟩ = some (.int .i64 i2)) := Lib.hid ⟨box_below lc0 hX0, box_below lc1 hX0, box_below lc2 hX0⟩
  have HN4 : Hid ((w3.alloc (.cells #[.int .i64 0, .int .i64 0, .int .i64 0, .string { data := #[] }, .slice none 0 0] 45)).drew.cell? ⟨bn, on, none⟩ = some (.int .i64 (n : Int))) := Lib.hid (box_below nc0 hX0)
  have hblX : bl < w3.heap.size := World.block_lt_of_cell? w3 _ lc0
  have hbnX : bn < w3.heap.size := World.block_lt_of_cell? w3 _ nc0
  clear hX0 HR3 HB3
  go_wp2
  refine wp_region_held_drew (S := (fun W => (W.cell? ⟨bl, ol, none⟩ = some (.int .i64 i0) ∧ W.cell? ⟨bl, ol + 1, none⟩ = some (.int .i64 i1) ∧ W.cell? ⟨bl, ol + 2, none⟩ = some (.int .i64 i2)))) (by kernel_rfl) ?_ (fun hHeld => ?_)
  · try dsimp only
    exact ⟨lc0, lc1, lc2⟩
  change wpAnyH _ _ _ _ _ 13 #[false, false, false, false, false, false, false, false, false, false, false, false, false] _ _
  refine wpH_take (i := 0) (v := ?_) rfl (by kernel_rfl) (by kernel_rfl) (by kernel_rfl) (fun _ _ _ h => h) (by rfl) ?_ (by assumption) ?_; rotate_left; (focus (intro w hSw; (try dsimp only at hSw); go_simp; try with_reducible rfl)); try simp only [Act.put, List.setIfInBounds_toArray, List.set_cons_zero, List.set_cons_succ]
  refine wpH_take (i := 1) (v := ?_) rfl (by kernel_rfl) (by kernel_rfl) (by kernel_rfl) (fun _ _ _ h => h) (by rfl) ?_ (by assumption) ?_; rotate_left; (focus (intro w hSw; (try dsimp only at hSw); go_simp; try with_reducible rfl)); try simp only [Act.put, List.setIfInBounds_toArray, List.set_cons_zero, List.set_cons_succ]
  refine wpH_take (i := 2) (v := ?_) rfl (by kernel_rfl) (by kernel_rfl) (by kernel_rfl) (fun _ _ _ h => h) (by rfl) ?_ (by assumption) ?_; rotate_left; (focus (intro w hSw; (try dsimp only at hSw); go_simp; try with_reducible rfl)); try simp only [Act.put, List.setIfInBounds_toArray, List.set_cons_zero, List.set_cons_succ]
  refine wpH_take (i := 3) (v := ?_) rfl (by kernel_rfl) (by kernel_rfl) (by kernel_rfl) (fun _ _ _ h => h) (by rfl) ?_ (by assumption) ?_; rotate_left; (focus (intro w hSw; (try dsimp only at hSw); go_simp; try with_reducible rfl)); try simp only [Act.put, List.setIfInBounds_toArray, List.set_cons_zero, List.set_cons_succ]
  refine wpH_take (i := 4) (v := ?_) rfl (by kernel_rfl) (by kernel_rfl) (by kernel_rfl) (fun _ _ _ h => h) (by rfl) ?_ (by assumption) ?_; rotate_left; (focus (intro w hSw; (try dsimp only at hSw); go_simp; try with_reducible rfl)); try simp only [Act.put, List.setIfInBounds_toArray, List.set_cons_zero, List.set_cons_succ]
  refine wpH_take (i := 5) (v := ?_) rfl (by kernel_rfl) (by kernel_rfl) (by kernel_rfl) (fun _ _ _ h => h) (by rfl) ?_ (by assumption) ?_; rotate_left; (focus (intro w hSw; (try dsimp only at hSw); go_simp; try with_reducible rfl)); try simp only [Act.put, List.setIfInBounds_toArray, List.set_cons_zero, List.set_cons_succ]
  refine wpH_take (i := 6) (v := ?_) rfl (by kernel_rfl) (by kernel_rfl) (by kernel_rfl) (fun _ _ _ h => h) (by rfl) ?_ (by assumption) ?_; rotate_left; (focus (intro w hSw; (try dsimp only at hSw); go_simp; try with_reducible rfl)); try simp only [Act.put, List.setIfInBounds_toArray, List.set_cons_zero, List.set_cons_succ]
  refine wpH_take (i := 7) (v := ?_) rfl (by kernel_rfl) (by kernel_rfl) (by kernel_rfl) (fun _ _ _ h => h) (by rfl) ?_ (by assumption) ?_; rotate_left; (focus (intro w hSw; (try dsimp only at hSw); go_simp; try with_reducible rfl)); try simp only [Act.put, List.setIfInBounds_toArray, List.set_cons_zero, List.set_cons_succ]
  refine wpH_take (i := 8) (v := ?_) rfl (by kernel_rfl) (by kernel_rfl) (by kernel_rfl) (fun _ _ _ h => h) (by rfl) ?_ (by assumption) ?_; rotate_left; (focus (intro w hSw; (try dsimp only at hSw); go_simp; try with_reducible rfl)); try simp only [Act.put, List.setIfInBounds_toArray, List.set_cons_zero, List.set_cons_succ]
  refine wpH_take (i := 9) (v := ?_) rfl (by kernel_rfl) (by kernel_rfl) (by kernel_rfl) (fun _ _ _ h => h) (by rfl) ?_ (by assumption) ?_; rotate_left; (focus (intro w hSw; (try dsimp only at hSw); go_simp; try with_reducible rfl)); try simp only [Act.put, List.setIfInBounds_toArray, List.set_cons_zero, List.set_cons_succ]
  refine wpH_take (i := 10) (v := ?_) rfl (by kernel_rfl) (by kernel_rfl) (by kernel_rfl) (fun _ _ _ h => h) (by rfl) ?_ (by assumption) ?_; rotate_left; (focus (intro w hSw; (try dsimp only at hSw); go_simp; try with_reducible rfl)); try simp only [Act.put, List.setIfInBounds_toArray, List.set_cons_zero, List.set_cons_succ]
  refine wpAnyH_ready (rs := [11]) (by kernel_rfl) (by simp) ?_
  refine AllReadyH.cons rfl (fun K hK => ?_) AllReadyH.nil
  try dsimp only at hHeld
  go_simp
  refine hK.out _ _ (by exact HC4.out) (fun hHeld2 => ?_)
  clear hK K hHeld lc0 lc1 lc2 nc0
  have hHeld := hHeld2
  clear hHeld2
  have hz4 : w3.heap.size < (w3.alloc (.cells #[.int .i64 0, .int .i64 0, .int .i64 0, .string { data := #[] }, .slice none 0 0] 45)).drew.heap.size := HX4.out.lt
  generalize (w3.alloc (.cells #[.int .i64 0, .int .i64 0, .int .i64 0, .string { data := #[] }, .slice none 0 0] 45)).drew = w4 at *
  generalize hXe : w3.heap.size = X at *
  clear hXe
  obtain ⟨⟨x0, x1, x2, x3, x4⟩, f0, f1, f2, f3, f4⟩ := HX4.out.five
  have HX5 := Lib.hid (cells_zero5 HX4.out (.int .i64 i0) (.int .i64 i1) (.int .i64 i2) (.string vd) (.slice none 0 0))
  refine wpAnyH_ready (rs := [12]) (by kernel_rfl) (by simp) ?_
  refine AllReadyH.cons rfl (fun K hK => ?_) AllReadyH.nil
  try dsimp only at hHeld
  go_simp
  have HRs := hzR
  have HR5 : Hid (Cs (((((w4.setCell ⟨X, 0, none⟩ (.int .i64 i0)).setCell ⟨X, 1, none⟩ (.int .i64 i1)).setCell ⟨X, 2, none⟩ (.int .i64 i2)).setCell ⟨X, 3, none⟩ (.string vd)).setCell ⟨X, 4, none⟩ (.slice none 0 0)) w.heap.size [.int .i64 0, .int .i64 0, .int .i64 0, .string ByteArray.empty, .slice none 0 0]) := Lib.hid (cs_far5n HR4.out (by omega) (.int .i64 i0) (.int .i64 i1) (.int .i64 i2) (.string vd) (.slice none 0 0))
  have HB5 : Hid (Below w.heap.size w (((((w4.setCell ⟨X, 0, none⟩ (.int .i64 i0)).setCell ⟨X, 1, none⟩ (.int .i64 i1)).setCell ⟨X, 2, none⟩ (.int .i64 i2)).setCell ⟨X, 3, none⟩ (.string vd)).setCell ⟨X, 4, none⟩ (.slice none 0 0))) := Lib.hid (set5 HB4.out (by omega) (.int .i64 i0) (.int .i64 i1) (.int .i64 i2) (.string vd) (.slice none 0 0))
  have HN5 : Hid ((((((w4.setCell ⟨X, 0, none⟩ (.int .i64 i0)).setCell ⟨X, 1, none⟩ (.int .i64 i1)).setCell ⟨X, 2, none⟩ (.int .i64 i2)).setCell ⟨X, 3, none⟩ (.string vd)).setCell ⟨X, 4, none⟩ (.slice none 0 0)).cell? ⟨bn, on, none⟩ = some (.int .i64 (n : Int))) := Lib.hid (cell_far5n HN4.out (by omega) (.int .i64 i0) (.int .i64 i1) (.int .i64 i2) (.string vd) (.slice none 0 0))
  have HC5 : Hid ((((((w4.setCell ⟨X, 0, none⟩ (.int .i64 i0)).setCell ⟨X, 1, none⟩ (.int .i64 i1)).setCell ⟨X, 2, none⟩ (.int .i64 i2)).setCell ⟨X, 3, none⟩ (.string vd)).setCell ⟨X, 4, none⟩ (.slice none 0 0)).cell? ⟨bl, ol, none⟩ = some (.int .i64 i0) ∧ (((((w4.setCell ⟨X, 0, none⟩ (.int .i64 i0)).setCell ⟨X, 1, none⟩ (.int .i64 i1)).setCell ⟨X, 2, none⟩ (.int .i64 i2)).setCell ⟨X, 3, none⟩ (.string vd)).setCell ⟨X, 4, none⟩ (.slice none 0 0)).cell? ⟨bl, ol + 1, none⟩ = some (.int .i64 i1) ∧ (((((w4.setCell ⟨X, 0, none⟩ (.int .i64 i0)).setCell ⟨X, 1, none⟩ (.int .i64 i1)).setCell ⟨X, 2, none⟩ (.int .i64 i2)).setCell ⟨X, 3, none⟩ (.string vd)).setCell ⟨X, 4, none⟩ (.slice none 0 0)).cell? ⟨bl, ol + 2, none⟩ = some (.int .i64 i2)) := Lib.hid ⟨cell_far5n HC4.out.1 (by omega) (.int .i64 i0) (.int .i64 i1) (.int .i64 i2) (.string vd) (.slice none 0 0), cell_far5n HC4.out.2.1 (by omega) (.int .i64 i0) (.int .i64 i1) (.int .i64 i2) (.string vd) (.slice none 0 0), cell_far5n HC4.out.2.2 (by omega) (.int .i64 i0) (.int .i64 i1) (.int .i64 i2) (.string vd) (.slice none 0 0)⟩
  refine hK.out _ _ (by exact HC5.out) (fun hHeld2 => ?_)
  clear hK K hHeld hHeld2 x0 x1 x2 x3 x4 f0 f1 f2 f3 f4 HX4 HR4 HB4 HC4 HN4 HC5
  refine wpAnyH_done (by kernel_rfl) ?_ _
  have hz5 : X < (((((w4.setCell ⟨X, 0, none⟩ (.int .i64 i0)).setCell ⟨X, 1, none⟩ (.int .i64 i1)).setCell ⟨X, 2, none⟩ (.int .i64 i2)).setCell ⟨X, 3, none⟩ (.string vd)).setCell ⟨X, 4, none⟩ (.slice none 0 0)).heap.size := HX5.out.lt
  generalize (((((w4.setCell ⟨X, 0, none⟩ (.int .i64 i0)).setCell ⟨X, 1, none⟩ (.int .i64 i1)).setCell ⟨X, 2, none⟩ (.int .i64 i2)).setCell ⟨X, 3, none⟩ (.string vd)).setCell ⟨X, 4, none⟩ (.slice none 0 0)) = w5 at *
  clear hz4 hblX hblR hbs
  go_wp2
  go_loopg [5, 9, 10, 11, 12, 13] n (fun gg pv i lv ev nv dv wr => ∃ (k : Nat) (g : Option Addr) (c : Nat) (es : List EntL) (p : Int), k + gg = n ∧ i = .int .i64 (k : Int) ∧ pv = .int .i64 p ∧ (0 ≤ p ∧ p ≤ 1048576) ∧ Hid (entsG L p2 k = some (es, p)) ∧ Hid (Cs wr X [.int .i64 i0, .int .i64 i1, .int .i64 i2, .string vd, .slice g k c]) ∧ Hid (Own 74 4 (X + 1) wr (.slice g k c) k (ens es) wr) ∧ Hid (Cs wr w.heap.size [.int .i64 0, .int .i64 0, .int .i64 0, .string ByteArray.empty, .slice none 0 0]) ∧ Hid (wr.cell? ⟨bn, on, none⟩ = some (.int .i64 (n : Int))) ∧ Hid (Below w.heap.size w wr))
  case atStart => exact ⟨0, none, 0, [], p2, by omega, rfl, rfl, ⟨by omega, by omega⟩, Lib.hid rfl, HX5, Lib.hid ⟨World.ownsRow_nil _ _ _ _, Below.refl _ _, by omega⟩, HR5, HN5, HB5⟩
  case round =>
    obtain ⟨k, g, c, es, p, hk, rfl, rfl, ⟨hpa, hpb⟩, HEN, HX, HO, HR, HN, HB⟩ := hrel
    clear HX5 HR5 HN5 HB5
    have hXl : X < wr.heap.size := HX.out.lt
    have nc0 := HN.out
    have HEL := Lib.hid (entsG_ok HEN.out)
    by_cases hlt : k < n
    · have hi : (k : Int) < (n : Int) := by omega
      have HN' := HN
      go_wp2_with fail
      refine (l7Vars_any s p 1 _ hs (by omega) (by omega) (by omega)).mono ?_
      rintro e w6 ⟨gi, ci, rfl, hO⟩
      rw [hL] at hO ⊢
      have HE1 := Lib.hid (varsF_le5 L 0 p [] (by omega))
      have HONE1 := Lib.hid (take_one L p)
      have HTN := Lib.hid (takeQ_neg L (varsF L 1 p []).2)
      have HTL := Lib.hid (takeQ_le L (varsF L 1 p []).2)
      have HTS := Lib.hid (takeQ_len L (varsF L 1 p []).2)
      have HVN := Lib.hid (fun h => varsF_out L 0 (takeP L (varsF L 1 p []).2).2 [] (.inl h))
      have HE3 := Lib.hid (varsF_le5 L 0 (takeP L (varsF L 1 p []).2).2 [])
      have HONE3 := Lib.hid (take_one L (takeP L (varsF L 1 p []).2).2)
      have HST : Hid (entsG L p2 (k + 1) = if (varsF L 1 (takeP L (varsF L 1 p []).2).2 []).2 < 0 then none else some (es ++ [⟨hashF (nmOf (takeP L (varsF L 1 p []).2).1), (varsF L 1 p []).1.getD 0 0, nmOf (takeP L (varsF L 1 p []).2).1, (varsF L 1 (takeP L (varsF L 1 p []).2).2 []).1.getD 0 0⟩], (varsF L 1 (takeP L (varsF L 1 p []).2).2 []).2)) := Lib.hid ((entsG_step HEN.out).trans rfl)
      have HRI := Lib.hid hO.rd
      have HBI : Hid (∀ q, (Value.slice gi (varsF L 1 p []).1.length ci).ownBlock = some q → wr.heap.size ≤ q) := Lib.hid (fun q hq => (hO.blk q hq).1)
      have HGW : Hid (∀ q, (Value.slice g k c).ownBlock = some q → q < wr.heap.size) := Lib.hid (fun q hq => (HO.out.blk q hq).2)
      have hb := hO.below
      have HX6 := Lib.hid (HX.out.below hb)
      have HO6 := Lib.hid (HO.out.stay hb)
      have HR6 := Lib.hid (HR.out.below hb)
      have HN6 := Lib.hid (box_below HN.out hb)
      have HB6 := Lib.hid (HB.out.trans (hb.mono HB.out.size))
      have hz6 : wr.heap.size ≤ w6.heap.size := hb.size
      clear hb hO HX HO HR HN HB HEN HN' nc0
      obtain ⟨e1, he1⟩ : ∃ x, (varsF L 1 p []).2 = x := ⟨_, rfl⟩
      rw [he1] at HE1 HONE1 HTN HTL HTS HVN HE3 HONE3 HST ⊢
      clear he1
      generalize (varsF L 1 p []).1 = il at *
      have hea := HE1.out.2
      have heb := HE1.out.1
      have hlen : (L.length : Int) = (s.size : Int) := by rw [HLEN.out]
      rw [hlen] at heb
      go_wp2_with fail
      refine (l7Take_any s e1 _ hs hea (by omega)).mono ?_
      rintro e w7 ⟨rfl, hb⟩
      rw [hL]
      rw [show (⟨(takeP L e1).1.toArray⟩ : ByteArray) = nmOf (takeP L e1).1 from rfl]
      have HRI7 := Lib.hid (HRI.out.below hb (Nat.le_refl _))
      have HX7 := Lib.hid (HX6.out.below hb)
      have HO7 := Lib.hid (HO6.out.stay hb)
      have HR7 := Lib.hid (HR6.out.below hb)
      have HN7 := Lib.hid (box_below HN6.out hb)
      have HB7 := Lib.hid (HB6.out.trans (hb.mono HB6.out.size))
      have hz7 : w6.heap.size ≤ w7.heap.size := hb.size
      have hnsz : (nmOf (takeP L e1).1).size ≤ 1073741824 := by
        have h := HTS.out
        have h2 : (nmOf (takeP L e1).1).size = (takeP L e1).1.length := List.size_toArray
        omega
      have htl := HTL.out hea
      rw [hlen] at htl
      clear hb HRI HX6 HO6 HR6 HN6 HB6 HTS HTL
      generalize nmOf (takeP L e1).1 = nm at *
      obtain ⟨e2, he2⟩ : ∃ x, (takeP L e1).2 = x := ⟨_, rfl⟩
      have HTN2 : Hid (e1 < 0 → e2 = -1) := Lib.hid (fun h => by rw [← he2, HTN.out h])
      rw [he2] at HVN HE3 HONE3 HST htl ⊢
      clear he2 HTN
      go_wp2_with fail
      refine (l7Vars_any s e2 1 _ hs htl.1 (by omega) (by omega)).mono ?_
      rintro e w8 ⟨gd, cd, rfl, hO⟩
      rw [hL] at hO ⊢
      have HRI8 := Lib.hid (HRI7.out.below hO.below (Nat.le_refl _))
      have HRD8 := Lib.hid hO.rd
      have HBD : Hid (∀ q, (Value.slice gd (varsF L 1 e2 []).1.length cd).ownBlock = some q → wr.heap.size ≤ q) := Lib.hid (fun q hq => by have := (hO.blk q hq).1; omega)
      have hb := hO.below
      have HX8 := Lib.hid (HX7.out.below hb)
      have HO8 := Lib.hid (HO7.out.stay hb)
      have HR8 := Lib.hid (HR7.out.below hb)
      have HN8 := Lib.hid (box_below HN7.out hb)
      have HB8 := Lib.hid (HB7.out.trans (hb.mono HB7.out.size))
      have hz8 : w7.heap.size ≤ w8.heap.size := hb.size
      have he3 := HE3.out htl.1
      rw [hlen] at he3
      clear hb hO HRI7 HX7 HO7 HR7 HN7 HB7 HE3
      obtain ⟨e3, hee3⟩ : ∃ x, (varsF L 1 e2 []).2 = x := ⟨_, rfl⟩
      have HVN2 : Hid (e2 < 0 → e3 = -1) := Lib.hid (fun h => by rw [← hee3, HVN.out h])
      rw [hee3] at HONE3 HST he3 ⊢
      clear hee3 HVN
      generalize (varsF L 1 e2 []).1 = dl at *
      have hzX : X < w8.heap.size := HX8.out.lt
      by_cases hng : e3 < 0
      · have HBAD : Hid ((zIno, false) = inoG L) := Lib.hid (by
          have h : entsG L p2 (k + 1) = none := HST.out.trans (if_pos hng)
          rw [HIN2.out, entsG_bad h n (by omega)])
        obtain ⟨⟨r0, r1, r2, r3, r4⟩, fr0, fr1, fr2, fr3, fr4⟩ := HR8.out.five
        have hzR8 : w.heap.size < w8.heap.size := HR8.out.lt
        have HRF := Lib.hid (cells_zero5 HR8.out (.int .i64 0) (.int .i64 0) (.int .i64 0) (.string ByteArray.empty) (.slice none 0 0))
        have HBF := Lib.hid (set5 HB8.out (Nat.le_refl _) (.int .i64 0) (.int .i64 0) (.int .i64 0) (.string ByteArray.empty) (.slice none 0 0))
        have HPZ := Lib.hid (inoPost_zero HBF.out HBAD.out.symm)
        clear HST HONE1 HONE3 HTN2 HVN2 HIN2 HRI8 HRD8 HX8 HO8 HN8 HBI HBD
        go_wp2
        exact ret_l7Parse HRF.out (by rfl) (by rfl) (by rfl) HPZ.out
      have he2n : 0 ≤ e2 := by
        by_cases h : e2 < 0
        · have := HVN2.out h; omega
        · omega
      have he1n : 0 ≤ e1 := by
        by_cases h : e1 < 0
        · have := HTN2.out h; omega
        · omega
      obtain ⟨y, hil, hy0, hy1⟩ := HONE1.out he1n
      obtain ⟨z, hdl, hz0, hz1⟩ := HONE3.out (by omega)
      subst hil
      subst hdl
      have HST2 : Hid (entsG L p2 (k + 1) = some (es ++ [⟨hashF nm, y, nm, z⟩], e3)) := Lib.hid (HST.out.trans (if_neg hng))
      obtain ⟨bi, oi, rfl, hbi, hci⟩ := HRI8.out.at' (by simp)
      obtain ⟨bd, od, rfl, hbd, hcd⟩ := HRD8.out.at' (by simp)
      have ic0 : w8.cell? ⟨bi, oi, none⟩ = some (.int .i64 y) := hci 0 (by simp)
      have dc0 : w8.cell? ⟨bd, od, none⟩ = some (.int .i64 z) := hcd 0 (by simp)
      have hbiX : X < bi := by have := HBI.out bi rfl; omega
      have hbdX : X < bd := by have := HBD.out bd rfl; omega
      have hbiw : wr.heap.size ≤ bi := HBI.out bi rfl
      have hbdw : wr.heap.size ≤ bd := HBD.out bd rfl
      clear hci hcd HRI8 HRD8 HBI HBD HONE1 HONE3 HTN2 HVN2 HST hy0 hy1 hz0 hz1
      obtain ⟨⟨x0, x1, x2, x3, x4⟩, f0, f1, f2, f3, f4⟩ := HX8.out.five
      have HBO : Hid (∀ q, (Value.slice g k c).ownBlock = some q → ∀ b, (b = bi ∨ b = bd) → q = b → False) := Lib.hid (fun q hq b hb e => by subst e; have := HGW.out q hq; rcases hb with rfl | rfl <;> omega)
      clear HGW
      go_wp2
      refine wp_region_held_drew (S := (fun W => W.cell? ⟨bi, oi, none⟩ = some (.int .i64 y) ∧ W.cell? ⟨bd, od, none⟩ = some (.int .i64 z))) (by kernel_rfl) ?_ (fun hHeld => ?_)
      · try dsimp only
        exact ⟨ic0, dc0⟩
      change wpAnyH _ _ _ _ _ 16 #[false, false, false, false, false, false, false, false, false, false, false, false, false, false, false, false] _ _
      refine wpH_take (i := 0) (v := ?_) rfl (by kernel_rfl) (by kernel_rfl) (by kernel_rfl) (fun _ _ _ h => h) (by rfl) ?_ (by assumption) ?_; rotate_left; (focus (intro w hSw; (try dsimp only at hSw); go_simp; try with_reducible rfl)); try simp only [Act.put, List.setIfInBounds_toArray, List.set_cons_zero, List.set_cons_succ]
      refine wpH_take (i := 2) (v := ?_) rfl (by kernel_rfl) (by kernel_rfl) (by kernel_rfl) (fun _ _ _ h => h) (by rfl) ?_ (by assumption) ?_; rotate_left; (focus (intro w hSw; (try dsimp only at hSw); go_simp; try with_reducible rfl)); try simp only [Act.put, List.setIfInBounds_toArray, List.set_cons_zero, List.set_cons_succ]
      refine wpH_take (i := 4) (v := ?_) rfl (by kernel_rfl) (by kernel_rfl) (by kernel_rfl) (fun _ _ _ h => h) (by rfl) ?_ (by assumption) ?_; rotate_left; (focus (intro w hSw; (try dsimp only at hSw); go_simp; try with_reducible rfl)); try simp only [Act.put, List.setIfInBounds_toArray, List.set_cons_zero, List.set_cons_succ]
      refine wpH_take (i := 5) (v := ?_) rfl (by kernel_rfl) (by kernel_rfl) (by kernel_rfl) (fun _ _ _ h => h) (by rfl) ?_ (by assumption) ?_; rotate_left; (focus (intro w hSw; (try dsimp only at hSw); go_simp; try with_reducible rfl)); try simp only [Act.put, List.setIfInBounds_toArray, List.set_cons_zero, List.set_cons_succ]
      refine wpH_take (i := 6) (v := ?_) rfl (by kernel_rfl) (by kernel_rfl) (by kernel_rfl) (fun _ _ _ h => h) (by rfl) ?_ (by assumption) ?_; rotate_left; (focus (intro w hSw; (try dsimp only at hSw); go_simp; try with_reducible rfl)); try simp only [Act.put, List.setIfInBounds_toArray, List.set_cons_zero, List.set_cons_succ]
      refine wpH_take (i := 7) (v := ?_) rfl (by kernel_rfl) (by kernel_rfl) (by kernel_rfl) (fun _ _ _ h => h) (by rfl) ?_ (by assumption) ?_; rotate_left; (focus (intro w hSw; (try dsimp only at hSw); go_simp; try with_reducible rfl)); try simp only [Act.put, List.setIfInBounds_toArray, List.set_cons_zero, List.set_cons_succ]
      refine wpH_take (i := 8) (v := ?_) rfl (by kernel_rfl) (by kernel_rfl) (by kernel_rfl) (fun _ _ _ h => h) (by rfl) ?_ (by assumption) ?_; rotate_left; (focus (intro w hSw; (try dsimp only at hSw); go_simp; try with_reducible rfl)); try simp only [Act.put, List.setIfInBounds_toArray, List.set_cons_zero, List.set_cons_succ]
      refine wpH_take (i := 9) (v := ?_) rfl (by kernel_rfl) (by kernel_rfl) (by kernel_rfl) (fun _ _ _ h => h) (by rfl) ?_ (by assumption) ?_; rotate_left; (focus (intro w hSw; (try dsimp only at hSw); go_simp; try with_reducible rfl)); try simp only [Act.put, List.setIfInBounds_toArray, List.set_cons_zero, List.set_cons_succ]
      refine wpH_take (i := 10) (v := ?_) rfl (by kernel_rfl) (by kernel_rfl) (by kernel_rfl) (fun _ _ _ h => h) (by rfl) ?_ (by assumption) ?_; rotate_left; (focus (intro w hSw; (try dsimp only at hSw); go_simp; try with_reducible rfl)); try simp only [Act.put, List.setIfInBounds_toArray, List.set_cons_zero, List.set_cons_succ]
      refine wpAnyH_ready (rs := [1, 3]) (by kernel_rfl) (by simp) ?_
      refine AllReadyH.cons rfl (fun K hK => ?_) (AllReadyH.cons rfl (fun K hK => ?_) AllReadyH.nil)
      · skip
        try dsimp only at hHeld
        go_simp
        refine hK.out _ _ (by exact hHeld) (fun hHeld2 => ?_)
        clear hK K hHeld
        have hHeld := hHeld2
        clear hHeld2
        refine wpAnyH_ready (rs := [3]) (by kernel_rfl) (by simp) ?_
        refine AllReadyH.cons rfl (fun K hK => ?_) AllReadyH.nil
        try dsimp only at hHeld
        go_simp
        go_at_call 50
        refine (specHashOf_any nm _ hnsz).mono ?_
        rintro e w9 ⟨rfl, hb⟩
        have hb9 : Below w8.heap.size w8 w9 := (Below.refl w8.heap.size w8).drew.trans hb
        have HX9 := Lib.hid (HX8.out.below hb9)
        have HO9 := Lib.hid (HO8.out.stay hb9)
        have HR9 := Lib.hid (HR8.out.below hb9)
        have HN9 := Lib.hid (box_below HN8.out hb9)
        have HB9 := Lib.hid (HB8.out.trans (hb9.mono HB8.out.size))
        have HH9 := Lib.hid (And.intro (box_below ic0 hb9) (box_below dc0 hb9))
        have hX9 : X < w9.heap.size := HX9.out.lt
        have HOB := Lib.hid HO9.out.blk
        have HOA := Lib.hid (HO9.out.alloc (.cells #[.int .i64 (hashF nm), .int .i64 y, .string nm, .int .i64 z] 74)).self
        have HXA := Lib.hid (HX9.out.alloc (.cells #[.int .i64 (hashF nm), .int .i64 y, .string nm, .int .i64 z] 74))
        have HRA := Lib.hid (HR9.out.alloc (.cells #[.int .i64 (hashF nm), .int .i64 y, .string nm, .int .i64 z] 74))
        have HNA := Lib.hid (box_below HN9.out (boxA w9 (.cells #[.int .i64 (hashF nm), .int .i64 y, .string nm, .int .i64 z] 74)))
        have HBA := Lib.hid (HB9.out.alloc HB9.out.size (.cells #[.int .i64 (hashF nm), .int .i64 y, .string nm, .int .i64 z] 74))
        have HKA := Lib.hid (And.intro (box_below HH9.out.1 (boxA w9 (.cells #[.int .i64 (hashF nm), .int .i64 y, .string nm, .int .i64 z] 74))) (box_below HH9.out.2 (boxA w9 (.cells #[.int .i64 (hashF nm), .int .i64 y, .string nm, .int .i64 z] 74))))
        have HRL : Hid (Rd (w9.alloc (.cells #[.int .i64 (hashF nm), .int .i64 y, .string nm, .int .i64 z] 74)) (some ⟨w9.heap.size, 0, none⟩) 1 1 4 [.int .i64 (hashF nm), .int .i64 y, .string nm, .int .i64 z]) := Lib.hid (lit_rd (w0 := w9) (news := #[.int .i64 (hashF nm), .int .i64 y, .string nm, .int .i64 z]) rfl (by decide))
        have HNX : Hid (∀ W, (w9.alloc (.cells #[.int .i64 (hashF nm), .int .i64 y, .string nm, .int .i64 z] 74)).grownBy W (Value.slice g k c).ownBlock → Cs W X [.int .i64 i0, .int .i64 i1, .int .i64 i2, .string vd, .slice g k c] ∧ Cs W w.heap.size [.int .i64 0, .int .i64 0, .int .i64 0, .string ByteArray.empty, .slice none 0 0] ∧ W.cell? ⟨bn, on, none⟩ = some (.int .i64 (n : Int)) ∧ Below w.heap.size w W ∧ (W.cell? ⟨bi, oi, none⟩ = some (.int .i64 y) ∧ W.cell? ⟨bd, od, none⟩ = some (.int .i64 z))) := Lib.hid (fun W hg => ⟨HXA.out.grown hg (fun e => by have := (HOB.out _ e).1; omega), HRA.out.grown hg (fun e => by have := (HOB.out _ e).1; omega), cellq_grown HNA.out hg (fun e => by have := (HOB.out _ e).1; omega), HBA.out.grown hg HBA.out.size (fun q hq => by have := (HOB.out q hq).1; omega), cellq_grown HKA.out.1 hg (fun e => HBO.out _ e bi (.inl rfl) rfl), cellq_grown HKA.out.2 hg (fun e => HBO.out _ e bd (.inr rfl) rfl)⟩)
        clear hb hb9 HX8 HO8 HR8 HN8 HB8 x0 x1 x2 x3 x4 f0 f1 f2 f3 f4 ic0 dc0
        obtain ⟨⟨x0, x1, x2, x3, x4⟩, f0, f1, f2, f3, f4⟩ := HX9.out.five
        refine hK.out _ _ (by exact HH9.out) (fun hHeld2 => ?_)
        clear hK K hHeld
        have hHeld := hHeld2
        clear hHeld2
        refine wpH_take (i := 11) (v := ?_) rfl (by kernel_rfl) (by kernel_rfl) (by kernel_rfl) (fun _ _ _ h => h) (by rfl) ?_ (by assumption) ?_; rotate_left; (focus (intro w hSw; (try dsimp only at hSw); go_simp; try with_reducible rfl)); try simp only [Act.put, List.setIfInBounds_toArray, List.set_cons_zero, List.set_cons_succ]
        refine wpAnyH_ready (rs := [12]) (by kernel_rfl) (by simp) ?_
        refine AllReadyH.cons rfl (fun K hK => ?_) AllReadyH.nil
        try dsimp only at hHeld
        go_simp
        refine hK.out _ _ (by exact HKA.out) (fun hHeld2 => ?_)
        clear hK K hHeld
        have hHeld := hHeld2
        clear hHeld2
        refine wpAnyH_ready (rs := [13]) (by kernel_rfl) (by simp) ?_
        refine AllReadyH.cons rfl (fun K hK => ?_) AllReadyH.nil
        try dsimp only at hHeld
        refine step_appq rfl _ _ 43 rfl 74 (.agg #[.int .i64 0, .int .i64 0, .string ByteArray.empty, .int .i64 0]) 4 40 Tryz.underlying43 info_ent rfl (by decide) _ _ _ k (ens es) rfl HOA.out _ 1 1 _ rfl HRL.out (by intro u hu; simp at hu; rcases hu with rfl | rfl | rfl | rfl <;> rfl) (by omega) (by unfold maxLen; omega) ?_
        intro a9 c9 w11 hO9 hG9
        have HQ := Lib.hid (HNX.out w11 hG9)
        have HO11 := Lib.hid hO9
        refine hK.out _ _ (by exact HQ.out.2.2.2.2) (fun hHeld2 => ?_)
        clear hK K hHeld hO9 hG9
        have hHeld := hHeld2
        clear hHeld2 x0 x1 x2 x3 x4 f0 f1 f2 f3 f4
        obtain ⟨⟨y0, y1, y2, y3, y4⟩, v0, v1, v2, v3, v4⟩ := HQ.out.1.five
        have hzT := HQ.out.1.lt
        refine wpAnyH_ready (rs := [14]) (by kernel_rfl) (by simp) ?_
        refine AllReadyH.cons rfl (fun K hK => ?_) AllReadyH.nil
        try dsimp only at hHeld
        go_simp
        refine hK.out _ _ (by exact hHeld) (fun hHeld2 => ?_)
        clear hK K hHeld
        have hHeld := hHeld2
        clear hHeld2
        refine wpAnyH_ready (rs := [15]) (by kernel_rfl) (by simp) ?_
        refine AllReadyH.cons rfl (fun K hK => ?_) AllReadyH.nil
        try dsimp only at hHeld
        go_simp
        refine hK.out _ _ (by exact ⟨cellq_far HQ.out.2.2.2.2.1 (by omega), cellq_far HQ.out.2.2.2.2.2 (by omega)⟩) (fun hHeld2 => ?_)
        clear hK K hHeld hHeld2
        refine wpAnyH_done (by kernel_rfl) ?_ _
        go_wp2
        go_roundg (gk - 1)
        case measure => omega
        case rel =>
          refine ⟨k + 1, _, _, es ++ [⟨hashF nm, y, nm, z⟩], e3, by omega, by go_num, rfl, ⟨by omega, by omega⟩, HST2, Lib.hid (HQ.out.1.set 4 _), Lib.hid ?_, Lib.hid (HQ.out.2.1.far (by omega)), Lib.hid (cellq_far HQ.out.2.2.1 (by omega)), Lib.hid (HQ.out.2.2.2.1.setCell (by dsimp only; omega) _)⟩
          rw [ens_append]
          exact own_far HO11.out.self X 4 _ (fun q hq => by have := (HO11.out.blk q hq).1; omega)
      · skip
        try dsimp only at hHeld
        go_simp
        go_at_call 50
        refine (specHashOf_any nm _ hnsz).mono ?_
        rintro e w9 ⟨rfl, hb⟩
        have hb9 : Below w8.heap.size w8 w9 := (Below.refl w8.heap.size w8).drew.trans hb
        have HX9 := Lib.hid (HX8.out.below hb9)
        have HO9 := Lib.hid (HO8.out.stay hb9)
        have HR9 := Lib.hid (HR8.out.below hb9)
        have HN9 := Lib.hid (box_below HN8.out hb9)
        have HB9 := Lib.hid (HB8.out.trans (hb9.mono HB8.out.size))
        have HH9 := Lib.hid (And.intro (box_below ic0 hb9) (box_below dc0 hb9))
        have hX9 : X < w9.heap.size := HX9.out.lt
        have HOB := Lib.hid HO9.out.blk
        have HOA := Lib.hid (HO9.out.alloc (.cells #[.int .i64 (hashF nm), .int .i64 y, .string nm, .int .i64 z] 74)).self
        have HXA := Lib.hid (HX9.out.alloc (.cells #[.int .i64 (hashF nm), .int .i64 y, .string nm, .int .i64 z] 74))
        have HRA := Lib.hid (HR9.out.alloc (.cells #[.int .i64 (hashF nm), .int .i64 y, .string nm, .int .i64 z] 74))
        have HNA := Lib.hid (box_below HN9.out (boxA w9 (.cells #[.int .i64 (hashF nm), .int .i64 y, .string nm, .int .i64 z] 74)))
        have HBA := Lib.hid (HB9.out.alloc HB9.out.size (.cells #[.int .i64 (hashF nm), .int .i64 y, .string nm, .int .i64 z] 74))
        have HKA := Lib.hid (And.intro (box_below HH9.out.1 (boxA w9 (.cells #[.int .i64 (hashF nm), .int .i64 y, .string nm, .int .i64 z] 74))) (box_below HH9.out.2 (boxA w9 (.cells #[.int .i64 (hashF nm), .int .i64 y, .string nm, .int .i64 z] 74))))
        have HRL : Hid (Rd (w9.alloc (.cells #[.int .i64 (hashF nm), .int .i64 y, .string nm, .int .i64 z] 74)) (some ⟨w9.heap.size, 0, none⟩) 1 1 4 [.int .i64 (hashF nm), .int .i64 y, .string nm, .int .i64 z]) := Lib.hid (lit_rd (w0 := w9) (news := #[.int .i64 (hashF nm), .int .i64 y, .string nm, .int .i64 z]) rfl (by decide))
        have HNX : Hid (∀ W, (w9.alloc (.cells #[.int .i64 (hashF nm), .int .i64 y, .string nm, .int .i64 z] 74)).grownBy W (Value.slice g k c).ownBlock → Cs W X [.int .i64 i0, .int .i64 i1, .int .i64 i2, .string vd, .slice g k c] ∧ Cs W w.heap.size [.int .i64 0, .int .i64 0, .int .i64 0, .string ByteArray.empty, .slice none 0 0] ∧ W.cell? ⟨bn, on, none⟩ = some (.int .i64 (n : Int)) ∧ Below w.heap.size w W ∧ (W.cell? ⟨bi, oi, none⟩ = some (.int .i64 y) ∧ W.cell? ⟨bd, od, none⟩ = some (.int .i64 z))) := Lib.hid (fun W hg => ⟨HXA.out.grown hg (fun e => by have := (HOB.out _ e).1; omega), HRA.out.grown hg (fun e => by have := (HOB.out _ e).1; omega), cellq_grown HNA.out hg (fun e => by have := (HOB.out _ e).1; omega), HBA.out.grown hg HBA.out.size (fun q hq => by have := (HOB.out q hq).1; omega), cellq_grown HKA.out.1 hg (fun e => HBO.out _ e bi (.inl rfl) rfl), cellq_grown HKA.out.2 hg (fun e => HBO.out _ e bd (.inr rfl) rfl)⟩)
        clear hb hb9 HX8 HO8 HR8 HN8 HB8 x0 x1 x2 x3 x4 f0 f1 f2 f3 f4 ic0 dc0
        obtain ⟨⟨x0, x1, x2, x3, x4⟩, f0, f1, f2, f3, f4⟩ := HX9.out.five
        refine hK.out _ _ (by exact HH9.out) (fun hHeld2 => ?_)
        clear hK K hHeld
        have hHeld := hHeld2
        clear hHeld2
        refine wpH_take (i := 11) (v := ?_) rfl (by kernel_rfl) (by kernel_rfl) (by kernel_rfl) (fun _ _ _ h => h) (by rfl) ?_ (by assumption) ?_; rotate_left; (focus (intro w hSw; (try dsimp only at hSw); go_simp; try with_reducible rfl)); try simp only [Act.put, List.setIfInBounds_toArray, List.set_cons_zero, List.set_cons_succ]
        refine wpAnyH_ready (rs := [1, 12]) (by kernel_rfl) (by simp) ?_
        refine AllReadyH.cons rfl (fun K hK => ?_) (AllReadyH.cons rfl (fun K hK => ?_) AllReadyH.nil)
        · skip
          try dsimp only at hHeld
          go_simp
          refine hK.out _ _ (by exact hHeld) (fun hHeld2 => ?_)
          clear hK K hHeld
          have hHeld := hHeld2
          clear hHeld2
          refine wpAnyH_ready (rs := [12]) (by kernel_rfl) (by simp) ?_
          refine AllReadyH.cons rfl (fun K hK => ?_) AllReadyH.nil
          try dsimp only at hHeld
          go_simp
          refine hK.out _ _ (by exact HKA.out) (fun hHeld2 => ?_)
          clear hK K hHeld
          have hHeld := hHeld2
          clear hHeld2
          refine wpAnyH_ready (rs := [13]) (by kernel_rfl) (by simp) ?_
          refine AllReadyH.cons rfl (fun K hK => ?_) AllReadyH.nil
          try dsimp only at hHeld
          refine step_appq rfl _ _ 43 rfl 74 (.agg #[.int .i64 0, .int .i64 0, .string ByteArray.empty, .int .i64 0]) 4 40 Tryz.underlying43 info_ent rfl (by decide) _ _ _ k (ens es) rfl HOA.out _ 1 1 _ rfl HRL.out (by intro u hu; simp at hu; rcases hu with rfl | rfl | rfl | rfl <;> rfl) (by omega) (by unfold maxLen; omega) ?_
          intro a9 c9 w11 hO9 hG9
          have HQ := Lib.hid (HNX.out w11 hG9)
          have HO11 := Lib.hid hO9
          refine hK.out _ _ (by exact HQ.out.2.2.2.2) (fun hHeld2 => ?_)
          clear hK K hHeld hO9 hG9
          have hHeld := hHeld2
          clear hHeld2 x0 x1 x2 x3 x4 f0 f1 f2 f3 f4
          obtain ⟨⟨y0, y1, y2, y3, y4⟩, v0, v1, v2, v3, v4⟩ := HQ.out.1.five
          have hzT := HQ.out.1.lt
          refine wpAnyH_ready (rs := [14]) (by kernel_rfl) (by simp) ?_
          refine AllReadyH.cons rfl (fun K hK => ?_) AllReadyH.nil
          try dsimp only at hHeld
          go_simp
          refine hK.out _ _ (by exact hHeld) (fun hHeld2 => ?_)
          clear hK K hHeld
          have hHeld := hHeld2
          clear hHeld2
          refine wpAnyH_ready (rs := [15]) (by kernel_rfl) (by simp) ?_
          refine AllReadyH.cons rfl (fun K hK => ?_) AllReadyH.nil
          try dsimp only at hHeld
          go_simp
          refine hK.out _ _ (by exact ⟨cellq_far HQ.out.2.2.2.2.1 (by omega), cellq_far HQ.out.2.2.2.2.2 (by omega)⟩) (fun hHeld2 => ?_)
          clear hK K hHeld hHeld2
          refine wpAnyH_done (by kernel_rfl) ?_ _
          go_wp2
          go_roundg (gk - 1)
          case measure => omega
          case rel =>
            refine ⟨k + 1, _, _, es ++ [⟨hashF nm, y, nm, z⟩], e3, by omega, by go_num, rfl, ⟨by omega, by omega⟩, HST2, Lib.hid (HQ.out.1.set 4 _), Lib.hid ?_, Lib.hid (HQ.out.2.1.far (by omega)), Lib.hid (cellq_far HQ.out.2.2.1 (by omega)), Lib.hid (HQ.out.2.2.2.1.setCell (by dsimp only; omega) _)⟩
            rw [ens_append]
            exact own_far HO11.out.self X 4 _ (fun q hq => by have := (HO11.out.blk q hq).1; omega)
        · skip
          try dsimp only at hHeld
          go_simp
          refine hK.out _ _ (by exact HKA.out) (fun hHeld2 => ?_)
          clear hK K hHeld
          have hHeld := hHeld2
          clear hHeld2
          refine wpAnyH_ready (rs := [1]) (by kernel_rfl) (by simp) ?_
          refine AllReadyH.cons rfl (fun K hK => ?_) AllReadyH.nil
          try dsimp only at hHeld
          go_simp
          refine hK.out _ _ (by exact hHeld) (fun hHeld2 => ?_)
          clear hK K hHeld
          have hHeld := hHeld2
          clear hHeld2
          refine wpAnyH_ready (rs := [13]) (by kernel_rfl) (by simp) ?_
          refine AllReadyH.cons rfl (fun K hK => ?_) AllReadyH.nil
          try dsimp only at hHeld
          refine step_appq rfl _ _ 43 rfl 74 (.agg #[.int .i64 0, .int .i64 0, .string ByteArray.empty, .int .i64 0]) 4 40 Tryz.underlying43 info_ent rfl (by decide) _ _ _ k (ens es) rfl HOA.out _ 1 1 _ rfl HRL.out (by intro u hu; simp at hu; rcases hu with rfl | rfl | rfl | rfl <;> rfl) (by omega) (by unfold maxLen; omega) ?_
          intro a9 c9 w11 hO9 hG9
          have HQ := Lib.hid (HNX.out w11 hG9)
          have HO11 := Lib.hid hO9
          refine hK.out _ _ (by exact HQ.out.2.2.2.2) (fun hHeld2 => ?_)
          clear hK K hHeld hO9 hG9
          have hHeld := hHeld2
          clear hHeld2 x0 x1 x2 x3 x4 f0 f1 f2 f3 f4
          obtain ⟨⟨y0, y1, y2, y3, y4⟩, v0, v1, v2, v3, v4⟩ := HQ.out.1.five
          have hzT := HQ.out.1.lt
          refine wpAnyH_ready (rs := [14]) (by kernel_rfl) (by simp) ?_
          refine AllReadyH.cons rfl (fun K hK => ?_) AllReadyH.nil
          try dsimp only at hHeld
          go_simp
          refine hK.out _ _ (by exact hHeld) (fun hHeld2 => ?_)
          clear hK K hHeld
          have hHeld := hHeld2
          clear hHeld2
          refine wpAnyH_ready (rs := [15]) (by kernel_rfl) (by simp) ?_
          refine AllReadyH.cons rfl (fun K hK => ?_) AllReadyH.nil
          try dsimp only at hHeld
          go_simp
          refine hK.out _ _ (by exact ⟨cellq_far HQ.out.2.2.2.2.1 (by omega), cellq_far HQ.out.2.2.2.2.2 (by omega)⟩) (fun hHeld2 => ?_)
          clear hK K hHeld hHeld2
          refine wpAnyH_done (by kernel_rfl) ?_ _
          go_wp2
          go_roundg (gk - 1)
          case measure => omega
          case rel =>
            refine ⟨k + 1, _, _, es ++ [⟨hashF nm, y, nm, z⟩], e3, by omega, by go_num, rfl, ⟨by omega, by omega⟩, HST2, Lib.hid (HQ.out.1.set 4 _), Lib.hid ?_, Lib.hid (HQ.out.2.1.far (by omega)), Lib.hid (cellq_far HQ.out.2.2.1 (by omega)), Lib.hid (HQ.out.2.2.2.1.setCell (by dsimp only; omega) _)⟩
            rw [ens_append]
            exact own_far HO11.out.self X 4 _ (fun q hq => by have := (HO11.out.blk q hq).1; omega)
    · have e : k = n := by omega
      have hi : ¬ (k : Int) < (n : Int) := by omega
      rw [e] at HEN HX HO HEL
      rw [e]
      have HIN3 : Hid (inoG L = (⟨i0, i1, i2, vd, es⟩, decide (p = (s.size : Int)))) := Lib.hid (by rw [HIN2.out, HEN.out]; simp only [HLEN.out])
      clear e hlt hk hi
      obtain ⟨⟨x0, x1, x2, x3, x4⟩, f0, f1, f2, f3, f4⟩ := HX.out.five
      obtain ⟨⟨r0, r1, r2, r3, r4⟩, fr0, fr1, fr2, fr3, fr4⟩ := HR.out.five
      have hzR2 : w.heap.size < wr.heap.size := HR.out.lt
      have HRF := Lib.hid (cells_zero5 HR.out (.int .i64 i0) (.int .i64 i1) (.int .i64 i2) (.string vd) (.slice g n c))
      have HBF := Lib.hid (set5 HB.out (Nat.le_refl _) (.int .i64 i0) (.int .i64 i1) (.int .i64 i2) (.string vd) (.slice g n c))
      have HPO : Hid (InoPost (inoG L).1 (inoG L).2 w (.returned (.tuple #[.agg #[.int .i64 i0, .int .i64 i1, .int .i64 i2, .string vd, .slice g n c], .bool (decide (p = (s.size : Int)))])) (((((wr.setCell ⟨w.heap.size, 0, none⟩ (.int .i64 i0)).setCell ⟨w.heap.size, 1, none⟩ (.int .i64 i1)).setCell ⟨w.heap.size, 2, none⟩ (.int .i64 i2)).setCell ⟨w.heap.size, 3, none⟩ (.string vd)).setCell ⟨w.heap.size, 4, none⟩ (.slice g n c))) := Lib.hid (by
        rw [HIN3.out]
        unfold InoPost
        simp only
        rw [HEL.out.1]
        exact ⟨g, c, rfl, row_down (far5 HO.out w.heap.size (.int .i64 i0) (.int .i64 i1) (.int .i64 i2) (.string vd) (.slice g n c) (fun q hq => by have := (HO.out.blk q hq).1; omega)) (by omega), HBF.out, HBF.out.size⟩)
      clear HIN3 HX HR HO HB HEL HIN2
      go_wp2
      exact ret_l7Parse HRF.out (by rfl) (by rfl) (by rfl) HPO.out
theorem inoG_data (s : List UInt8) : (inoG s).1.data.size ≤ s.length := by
  unfold inoG
  split
  · show (0 : Nat) ≤ _
    omega
  · split
    · show (0 : Nat) ≤ _
      omega
    · show (nmOf _).size ≤ _
      unfold nmOf
      exact Nat.le_trans (Nat.le_of_eq List.size_toArray) (takeQ_len s _)
theorem inosG_data {t : List ByteArray} {k : Nat} {l : List InoL} (hs : ∀ s ∈ t, s.size ≤ 1048576) (h : inosG t k = some l) : ∀ x ∈ l, x.data.size ≤ 1048576 := by
  induction k generalizing l with
  | zero => rw [inosG] at h; cases h; simp
  | succ k ih =>
    rw [inosG] at h
    split at h
    · cases h
    · rename_i l0 hl0
      split at h
      · cases h
        have hsz : (t.getD (k + 1) ByteArray.empty).size ≤ 1048576 := by
          rw [List.getD_eq_getElem?_getD]
          cases hq : t[k + 1]? with
          | none => decide
          | some s => exact hs s (List.mem_of_getElem? hq)
        have hr := inoG_data (t.getD (k + 1) ByteArray.empty).data.toList
        rw [data_len] at hr
        intro x hx
        rcases List.mem_append.1 hx with hx | hx
        · exact ih hl0 x hx
        · rw [List.mem_singleton] at hx; subst hx; exact Nat.le_trans hr hsz
      · cases h
theorem blkV_iff {t : List ByteArray} {next : Int} {l : List InoL} (h : t.length = 17) : blkV next l = t ↔ volB next l = true ∧ blkF next l = t := by
  unfold blkV
  split
  · rename_i c
    exact ⟨fun e => ⟨c, e⟩, fun e => e.2⟩
  · rename_i c
    constructor
    · intro e
      rw [← e] at h
      simp at h
    · intro e
      exact absurd e.1 c
theorem ret_readS {Post : Ending → World → Prop} {a : Act} {wf : World} {R : Nat} {u0 : Int} {u1 : Value} {b : Bool} (hc : Cs wf R [.int .i64 u0, u1]) (h2 : a.tmps[2]?.getD undef = .pointer (some ⟨R, 0, none⟩)) (h3 : a.tmps[3]?.getD undef = .bool b) (hd : a.defers = [])
    (hp : Post (.returned (.tuple #[.agg #[.int .i64 u0, u1], .bool b])) wf) : bodyPost Tryz.prog Tryz.f6 Post Exit.ret a wf := by
  obtain ⟨⟨r0, r1⟩, -⟩ := hc.two
  exact bodyPost_ret (v := .tuple #[.agg #[.int .i64 u0, u1], .bool b]) (by simp [results, Tryz.results6, go_sem, h2, h3, r0, r1]) hd hp
set_option maxRecDepth 1000000 in
set_option maxHeartbeats 6000000 in
theorem specReadBlocks_any (a : Option Addr) (n cap : Nat) (t : List ByteArray) (w : World) (hr : Rd w a n cap 1 (strs t)) (hs : ∀ s ∈ t, s.size ≤ 1048576) (hT : KTab w) :
    Calls Tryz.prog 6 #[.slice a n cap] w (RbPost t w) := by
  have hl : t.length = n := by have := hr.len; simpa using this
  subst hl
  have hm := Nat.le_trans hr.le hr.max
  unfold maxLen at hm
  have HR0 := Lib.hid (cs_new w 26 #[.int .i64 0, .slice none 0 0])
  have HB0 := Lib.hid (boxA w (.cells #[.int .i64 0, .slice none 0 0] 26))
  have HRT := Lib.hid (hr.below HB0.out (Nat.le_refl _))
  have HRO : Hid (∀ W, Below w.heap.size w W → Rd W a t.length cap 1 (strs t)) := Lib.hid (fun W h => hr.below h (Nat.le_refl _))
  have HT := Lib.hid hT
  have HSZ := Lib.hid hs
  clear hr hT hs
  by_cases h17 : t.length = 17
  rotate_left
  · have HZ := Lib.hid (readG_none (t := t) (by unfold parseG; rw [if_neg h17]))
    have hne : ((t.length : Int) != 17) = true := by simp; omega
    obtain ⟨⟨r0, r1⟩, fr0, fr1⟩ := HR0.out.two
    have HRF : Hid (Cs (((w.alloc (.cells #[.int .i64 0, .slice none 0 0] 26)).setCell ⟨w.heap.size, 0, none⟩ (.int .i64 0)).setCell ⟨w.heap.size, 1, none⟩ (.slice none 0 0)) w.heap.size [.int .i64 0, .slice none 0 0]) := Lib.hid ((HR0.out.set 0 _).set 1 _)
    have HBF := Lib.hid ((HB0.out.setCell (p := ⟨w.heap.size, 0, none⟩) (Nat.le_refl _) (.int .i64 0)).setCell (p := ⟨w.heap.size, 1, none⟩) (Nat.le_refl _) (.slice none 0 0))
    clear h17
    go_enter Tryz.func6, Tryz.ntmps6
    go_wp2
    first | exact ret_readS HRF.out (by rfl) (by rfl) (by rfl) (rb_zero HBF.out HZ.out) | exact ret_readS HR0.out (by rfl) (by rfl) (by rfl) (rb_zero HB0.out HZ.out)
  have HPF : Hid (parseG t = if (hG t).2 < 0 ∨ 16 < (hG t).1.getD 1 0 then none else match inosG t ((hG t).1.getD 1 0).toNat with
    | none => none
    | some l => some ((hG t).1.getD 0 0, l)) := Lib.hid (by unfold parseG; rw [if_pos h17]; rfl)
  have hne : ((t.length : Int) != 17) = false := by simp; omega
  have h17i : (t.length : Int) = 17 := by omega
  have HEQ : Hid (varsF (t.getD 0 ByteArray.empty).data.toList 2 1 [] = hG t) := Lib.hid rfl
  have HTWO := Lib.hid (varsQ_two (t.getD 0 ByteArray.empty).data.toList 1)
  rw [HEQ.out] at HTWO
  obtain ⟨b, off, rfl, hbs, hc⟩ := HRT.out.at' (by omega)
  have t0 := hc 0 (by simp; omega)
  rw [strs_get t 0 (by omega), Nat.add_zero] at t0
  have hg0 : t.getD 0 ByteArray.empty = t[0]'(by omega) := by rw [List.getD_eq_getElem?_getD, List.getElem?_eq_getElem (by omega)]; rfl
  have hs0 := HSZ.out (t[0]'(by omega)) (List.getElem_mem _)
  rw [hg0] at HEQ
  generalize t[0]'(by omega) = s0 at *
  clear hc hg0
  have H17 := Lib.hid h17
  clear h17
  go_enter Tryz.func6, Tryz.ntmps6
  go_wp2_with fail
  refine (l7Vars_any s0 1 2 _ hs0 (by omega) (by omega) (by omega)).mono ?_
  rintro e w1 ⟨g0, c0, rfl, hO⟩
  rw [HEQ.out] at hO ⊢
  have HRl := Lib.hid hO.rd
  have HBK : Hid (∀ q, (Value.slice g0 (hG t).1.length c0).ownBlock = some q → w.heap.size + 1 ≤ q) := Lib.hid (fun q hq => by have := (hO.blk q hq).1; simpa using this)
  have HR1 := Lib.hid (HR0.out.below hO.below)
  have HB1 := Lib.hid (HB0.out.trans (hO.below.mono HB0.out.size))
  clear hO HR0 HB0 HEQ HRT t0
  obtain ⟨p0, hp0⟩ : ∃ x, (hG t).2 = x := ⟨_, rfl⟩
  rw [hp0] at HPF HTWO ⊢
  clear hp0
  generalize (hG t).1 = ll at *
  have hzR : w.heap.size < w1.heap.size := HR1.out.lt
  by_cases hneg : p0 < 0
  · have HZ := Lib.hid (readG_none (t := t) (by rw [HPF.out, if_pos (.inl hneg)]))
    obtain ⟨⟨r0, r1⟩, fr0, fr1⟩ := HR1.out.two
    have HRF := Lib.hid ((HR1.out.set 0 (.int .i64 0)).set 1 (.slice none 0 0))
    have HBF := Lib.hid ((HB1.out.setCell (p := ⟨w.heap.size, 0, none⟩) (Nat.le_refl _) (.int .i64 0)).setCell (p := ⟨w.heap.size, 1, none⟩) (Nat.le_refl _) (.slice none 0 0))
    clear HPF HTWO HRl HBK
    go_wp2
    exact ret_readS HRF.out (by rfl) (by rfl) (by rfl) (rb_zero HBF.out HZ.out)
  obtain ⟨nx, n0, hll, -, ⟨hn0, hn1⟩⟩ := HTWO.out (by omega)
  subst hll
  simp only [List.getD_cons_zero, List.getD_cons_succ] at HPF
  obtain ⟨n, rfl⟩ := Int.eq_ofNat_of_zero_le hn0
  rw [Int.toNat_natCast] at HPF
  obtain ⟨bl, ol, rfl, hbs, hc⟩ := HRl.out.at' (by simp)
  have lc0 : w1.cell? ⟨bl, ol, none⟩ = some (.int .i64 nx) := hc 0 (by simp)
  have lc1 : w1.cell? ⟨bl, ol + 1, none⟩ = some (.int .i64 (n : Int)) := hc 1 (by simp)
  have hblR := HBK.out bl rfl
  have hblw : bl < w1.heap.size := World.block_lt_of_cell? w1 _ lc0
  clear hc HTWO HRl HBK hn0 hn1
  by_cases hgt : 16 < n
  · have hg2 : (16 : Int) < (n : Int) := by omega
    have HZ := Lib.hid (readG_none (t := t) (by rw [HPF.out, if_pos (.inr hg2)]))
    obtain ⟨⟨r0, r1⟩, fr0, fr1⟩ := HR1.out.two
    have HRF := Lib.hid ((HR1.out.set 0 (.int .i64 0)).set 1 (.slice none 0 0))
    have HBF := Lib.hid ((HB1.out.setCell (p := ⟨w.heap.size, 0, none⟩) (Nat.le_refl _) (.int .i64 0)).setCell (p := ⟨w.heap.size, 1, none⟩) (Nat.le_refl _) (.slice none 0 0))
    clear HPF hgt
    go_wp2
    exact ret_readS HRF.out (by rfl) (by rfl) (by rfl) (rb_zero HBF.out HZ.out)
  have hg2 : ¬ (16 : Int) < (n : Int) := by omega
  have hn16 : n ≤ 16 := by omega
  have HPF2 := Lib.hid (HPF.out.trans (if_neg (by omega)))
  clear HPF
  have HX2 := Lib.hid (cs_new w1 26 #[.int .i64 nx, .slice none 0 0])
  have HR2 := Lib.hid (HR1.out.alloc (.cells #[.int .i64 nx, .slice none 0 0] 26))
  have HB2 := Lib.hid (HB1.out.alloc HB1.out.size (.cells #[.int .i64 nx, .slice none 0 0] 26))
  have HN2 := Lib.hid (box_below lc1 (boxA w1 (.cells #[.int .i64 nx, .slice none 0 0] 26)))
  have hVz : w1.heap.size < (w1.alloc (.cells #[.int .i64 nx, .slice none 0 0] 26)).heap.size := HX2.out.lt
  clear HR1 HB1
  go_wp2
  clear lc0 lc1
  generalize w1.alloc (.cells #[.int .i64 nx, .slice none 0 0] 26) = w2 at *
  generalize hV : w1.heap.size = V at *
  clear hV
  go_loopg [7] n (fun gg i wr => ∃ (k : Nat) (g : Option Addr) (c : Nat) (l : List InoL) (m : List InoP), k + gg = n ∧ i = .int .i64 (k : Int) ∧ Hid (inosG t k = some l ∧ m.map (·.x) = l) ∧ Hid (VolOwn (V + 1) wr g c m wr) ∧ Hid (Cs wr V [.int .i64 nx, .slice g k c]) ∧ Hid (Cs wr w.heap.size [.int .i64 0, .slice none 0 0]) ∧ Hid (wr.cell? ⟨bl, ol + 1, none⟩ = some (.int .i64 (n : Int))) ∧ Hid (Below w.heap.size w wr))
  case atStart => exact ⟨0, none, 0, [], [], by omega, rfl, Lib.hid ⟨rfl, rfl⟩, Lib.hid (vol_none _ _ _ (Below.refl _ _) (by omega)), HX2, HR2, HN2, HB2⟩
  case round =>
    obtain ⟨k, g, c, l, m, hk, rfl, HL, HV, HX, HR, HN, HB⟩ := hrel
    clear HX2 HR2 HN2 HB2
    have hVl : V < wr.heap.size := HX.out.lt
    have lc1 := HN.out
    by_cases hlt : k < n
    · have hi : (k : Int) < (n : Int) := by omega
      obtain ⟨hL, hM⟩ := HL.out
      have hlk : l.length = k := (inosG_ok HSZ.out hL).1
      have hmk : m.length = k := by rw [← hlk, ← hM, List.length_map]
      obtain ⟨b', off', e', hbs', hc⟩ := (HRO.out _ HB.out).at' (by have := H17.out; omega)
      cases e'
      have hi2 : 1 + (k : Int) < (t.length : Int) := by have := H17.out; omega
      have hi0 : (0 : Int) ≤ 1 + (k : Int) := by omega
      have t1 := hc (1 + k) (by simp; have := H17.out; omega)
      rw [strs_get t (1 + k) (by have := H17.out; omega)] at t1
      have hg1 : t.getD (k + 1) ByteArray.empty = t[1 + k]'(by have := H17.out; omega) := by rw [Nat.add_comm k 1, List.getD_eq_getElem?_getD, List.getElem?_eq_getElem (by have := H17.out; omega)]; rfl
      have hs1 := HSZ.out (t[1 + k]'(by have := H17.out; omega)) (List.getElem_mem _)
      have HST := Lib.hid (inosG_step hL)
      rw [hg1] at HST
      generalize t[1 + k]'(by have := H17.out; omega) = s1 at *
      clear hc hg1 hL hlk
      have HTr := Lib.hid (HT.out.below HB.out (Nat.le_refl _))
      have HBL := Lib.hid (fun q hq => HV.out.bl q hq)
      have HM := Lib.hid hM
      have t2 := t1
      rw [Nat.add_comm 1 k] at t2
      clear hM HL
      go_wp2_with fail
      refine (l7Parse_any s1 _ hs1 HTr.out).mono ?_
      rintro e w5 ⟨ad, c5, rfl, hO⟩
      have hb5 := hO.below
      have HV5 := Lib.hid (HV.out.kept hb5)
      have HX5 := Lib.hid (HX.out.below hb5)
      have HR5 := Lib.hid (HR.out.below hb5)
      have HS5 := Lib.hid (box_below HN.out hb5)
      have HB5 := Lib.hid (HB.out.trans (hb5.mono HB.out.size))
      have HO5 := Lib.hid hO
      have hz5 : wr.heap.size ≤ w5.heap.size := hb5.size
      clear hO hb5 HV HX HR HN HB HTr lc1
      obtain ⟨pr, hpr⟩ : ∃ x, inoG s1.data.toList = x := ⟨_, rfl⟩
      rw [hpr] at HST HO5 ⊢
      clear hpr
      obtain ⟨x, ok⟩ := pr
      dsimp only at HST HO5 ⊢
      have HX6 := Lib.hid (HX5.out.alloc (.cells #[.int .i64 x.id, .int .i64 x.kind, .int .i64 x.links, .string x.data, .slice ad x.ents.length c5] 45))
      have HR6 := Lib.hid (HR5.out.alloc (.cells #[.int .i64 x.id, .int .i64 x.kind, .int .i64 x.links, .string x.data, .slice ad x.ents.length c5] 45))
      have HB6 := Lib.hid (HB5.out.alloc HB5.out.size (.cells #[.int .i64 x.id, .int .i64 x.kind, .int .i64 x.links, .string x.data, .slice ad x.ents.length c5] 45))
      have HI6 := Lib.hid (cs_new w5 45 #[.int .i64 x.id, .int .i64 x.kind, .int .i64 x.links, .string x.data, .slice ad x.ents.length c5])
      cases ok with
      | false =>
        have HZ : Hid (readV t = (0, [], false)) := Lib.hid (readG_none (by
          have h := HST.out
          rw [if_neg (by decide)] at h
          rw [HPF2.out, inosG_bad h n (by omega)]))
        clear HST HV5 HS5 HO5 HX5 HR5 HB5 HI6 HX6
        obtain ⟨⟨r0, r1⟩, fr0, fr1⟩ := HR6.out.two
        have HRF := Lib.hid ((HR6.out.set 0 (.int .i64 0)).set 1 (.slice none 0 0))
        have HBF := Lib.hid ((HB6.out.setCell (p := ⟨w.heap.size, 0, none⟩) (Nat.le_refl _) (.int .i64 0)).setCell (p := ⟨w.heap.size, 1, none⟩) (Nat.le_refl _) (.slice none 0 0))
        go_wp2
        exact ret_readS HRF.out (by rfl) (by rfl) (by rfl) (rb_zero HBF.out HZ.out)
      | true =>
        have HL1 : Hid (inosG t (k + 1) = some (l ++ [x])) := Lib.hid (by
          have h := HST.out
          rw [if_pos rfl] at h
          exact h)
        clear HST
        have HV6 := Lib.hid (HV5.out.alloc (.cells #[.int .i64 x.id, .int .i64 x.kind, .int .i64 x.links, .string x.data, .slice ad x.ents.length c5] 45))
        have HO6 := Lib.hid (HO5.out.alloc (.cells #[.int .i64 x.id, .int .i64 x.kind, .int .i64 x.links, .string x.data, .slice ad x.ents.length c5] 45))
        have HS6 := Lib.hid (box_below HS5.out (boxA w5 (.cells #[.int .i64 x.id, .int .i64 x.kind, .int .i64 x.links, .string x.data, .slice ad x.ents.length c5] 45)))
        clear HV5 HO5 HS5 HX5 HR5 HB5
        obtain ⟨⟨x0, x1⟩, fx0, fx1⟩ := HX6.out.two
        obtain ⟨⟨i0, i1, i2, i3, i4⟩, fi0, fi1, fi2, fi3, fi4⟩ := HI6.out.five
        have hVl5 : V < w5.heap.size := by omega
        have HT6 : Hid (Own 45 5 (V + 1) wr (.slice g k c) k (ins m) (w5.alloc (.cells #[.int .i64 x.id, .int .i64 x.kind, .int .i64 x.links, .string x.data, .slice ad x.ents.length c5] 45))) := Lib.hid (by have h := HV6.out.top; rw [hmk] at h; exact h)
        have HOB : Hid (∀ q, (Value.slice g k c).ownBlock = some q → V + 1 ≤ q ∧ q < wr.heap.size) := Lib.hid (fun q hq => HBL.out q (.inl (by rw [hmk]; exact hq)))
        have HNX : Hid (∀ W a9 c9, Own 45 5 (V + 1) wr (.slice a9 (k + 1) c9) (k + 1) (ins m ++ #[.int .i64 x.id, .int .i64 x.kind, .int .i64 x.links, .string x.data, .slice ad x.ents.length c5].toList) W → (w5.alloc (.cells #[.int .i64 x.id, .int .i64 x.kind, .int .i64 x.links, .string x.data, .slice ad x.ents.length c5] 45)).grownBy W (Value.slice g k c).ownBlock →
            Cs W V [.int .i64 nx, .slice g k c] ∧ Cs W w.heap.size [.int .i64 0, .slice none 0 0] ∧ W.cell? ⟨bl, ol + 1, none⟩ = some (.int .i64 (n : Int)) ∧ Below w.heap.size w W ∧ VolOwn (V + 1) wr a9 c9 (m ++ [⟨x, ad, c5⟩]) W) := Lib.hid (fun W a9 c9 ho hg => ⟨HX6.out.grown hg (fun e => by have := (HOB.out _ e).1; omega), HR6.out.grown hg (fun e => by have := (HOB.out _ e).1; omega), cellq_grown HS6.out hg (fun e => by have := (HOB.out _ e).1; omega), HB6.out.grown hg HB6.out.size (fun q hq => by have := (HOB.out q hq).1; omega), by
              refine VolOwn.app HV6.out ⟨x, ad, c5⟩ ?_ ?_ ?_ ?_
              · exact (own_down HO6.out (show V + 1 ≤ wr.heap.size by omega) (Below.refl _ _) (by omega)).other hg (fun q hq => (HOB.out q hq).1) (fun q hq e => by have h1 := (HOB.out q e).2; have h2 := (HO6.out.blk q hq).1; omega)
              · rw [hmk]; exact ho
              · rw [hmk]; exact hg
              · intro z hz q hq e
                have h1 := (HBL.out q (.inr ⟨z, hz, hq⟩)).2
                have h2 := (HO6.out.blk q e).1
                omega⟩)
        clear HV6 HO6 HS6 HX6 HR6 HB6 HI6
        go_wp2_with (at_builtin; go_loud (refine wp_app1d rfl _ _ 24 rfl 45 (.agg #[.int .i64 0, .int .i64 0, .int .i64 0, .string ByteArray.empty, .slice none 0 0]) 5 64 Tryz.underlying24 info_ino rfl (by decide) _ _ _ _ _ (by rfl) (by exact HT6.out) _ _ _ (by rfl) (by first | rfl | simp) (by rfl) (by intro u hu; simp at hu; rcases hu with rfl | rfl | rfl | rfl | rfl <;> rfl) (by omega) (by unfold maxLen; omega) ?_); intro a9 c9 w9 hO9 hG9 hN9; have HQ := Lib.hid (HNX.out _ _ _ hO9 hG9); obtain ⟨⟨y0, y1⟩, g0, g1⟩ := HQ.out.1.two; have hzT := HQ.out.1.lt; clear hG9 hN9 hO9)
        go_roundg (gk - 1)
        case measure => omega
        case rel =>
          refine ⟨k + 1, _, _, _, m ++ [⟨x, ad, c5⟩], by omega, by go_num, Lib.hid ⟨HL1.out, by rw [List.map_append, HM.out]; rfl⟩, Lib.hid (HQ.out.2.2.2.2.low (setCell_grown2 _ V 1 _) (fun q hq e => by have := (HQ.out.2.2.2.2.bl q hq).1; have := Option.some.inj e; omega)), Lib.hid (HQ.out.1.set 1 _), Lib.hid (HQ.out.2.1.far (by omega)), Lib.hid (cellq_far HQ.out.2.2.1 (by omega)), Lib.hid (HQ.out.2.2.2.1.setCell (by dsimp only; omega) _)⟩
    · have e : k = n := by omega
      have hi : ¬ (k : Int) < (n : Int) := by omega
      rw [e] at HL HX
      have hlL := (inosG_ok HSZ.out HL.out.1).1
      have hll := links_small (l := l) (by omega) (inosG_ok HSZ.out HL.out.1).2.1
      have HPF3 : Hid (parseG t = some (nx, l)) := Lib.hid (by rw [HPF2.out, HL.out.1])
      have hmL : m.length = n := by rw [← hlL, ← HL.out.2, List.length_map]
      have HVR : Hid (VolRd wr g n c l) := Lib.hid (by have h := HV.out.rd; rw [HL.out.2, hmL] at h; exact h)
      have HLS := Lib.hid (And.intro (inosG_data HSZ.out HL.out.1) (inosG_ok HSZ.out HL.out.1).2.2)
      have HML := Lib.hid (And.intro HL.out.2 hmL)
      have HBI := Lib.hid (blkV_iff (next := nx) (l := l) H17.out)
      clear e hlt hk HPF2 HL hmL
      obtain ⟨⟨x0, x1⟩, fx0, fx1⟩ := HX.out.two
      go_wp2_with fail
      refine (specVolBlocks_any nx g n c l _ HVR.out (fun x hx => by have := HLS.out.1 x hx; omega) (fun x hx s hs => by have := HLS.out.2 x hx s hs; omega) (by omega)).mono ?_
      rintro e w3 ⟨a3, c3, rfl, hO3⟩
      have hb3 := hO3.below
      have HB3 := Lib.hid (HB.out.trans (hb3.mono HB.out.size))
      have HX3 := Lib.hid (HX.out.below hb3)
      have HR3 := Lib.hid (HR.out.below hb3)
      have HV3 := Lib.hid (HV.out.kept hb3)
      have HT3 := Lib.hid hO3.rd
      clear hb3 hO3 HX HR HB HVR HV HN lc1 x0 x1 fx0 fx1
      go_wp2_with fail
      refine (specSame_any _ _ _ _ _ _ _ _ _ HT3.out (HRO.out _ HB3.out)).mono ?_
      rintro e w4 ⟨rfl, hb4⟩
      have HB4 := Lib.hid (HB3.out.trans (hb4.mono HB3.out.size))
      have HX4 := Lib.hid (HX3.out.below hb4)
      have HR4 := Lib.hid (HR3.out.below hb4)
      have HV4 := Lib.hid (HV3.out.kept hb4)
      have hz4 : w.heap.size < w4.heap.size := HR4.out.lt
      clear hb4 HB3 HX3 HR3 HV3 HT3
      obtain ⟨⟨x0, x1⟩, fx0, fx1⟩ := HX4.out.two
      obtain ⟨⟨r0, r1⟩, fr0, fr1⟩ := HR4.out.two
      by_cases hbt : blkV nx l = t
      · have HD : Hid (decide (blkV nx l = t) = true) := Lib.hid (decide_eq_true hbt)
        have HOK := Lib.hid (readV_hit (HBI.out.1 hbt).1 (HBI.out.1 hbt).2)
        clear hbt
        rw [HD.out]
        have HRF := Lib.hid ((HR4.out.set 0 (.int .i64 nx)).set 1 (.slice g n c))
        have HPO : Hid (RbPost t w (.returned (.tuple #[.agg #[.int .i64 nx, .slice g n c], .bool true])) ((w4.setCell ⟨w.heap.size, 0, none⟩ (.int .i64 nx)).setCell ⟨w.heap.size, 1, none⟩ (.slice g n c))) := Lib.hid (by
          unfold RbPost
          rw [HOK.out]
          refine ⟨g, c, m, by rw [HML.out.2], HML.out.1, ?_⟩
          refine volOwn_row ((HV4.out.low (setCell_grown2 _ w.heap.size 0 _) (fun q hq e => by have := (HV4.out.bl q hq).1; have := Option.some.inj e; omega)).low (setCell_grown2 _ w.heap.size 1 _) (fun q hq e => by have := (HV4.out.bl q hq).1; have := Option.some.inj e; omega)) (by omega) ((HB4.out.setCell (p := ⟨w.heap.size, 0, none⟩) (Nat.le_refl _) (.int .i64 nx)).setCell (p := ⟨w.heap.size, 1, none⟩) (Nat.le_refl _) (.slice g n c)) ?_
          have := HB4.out.size
          simpa [World.setCell] using this)
        go_wp2
        exact ret_readS HRF.out (by rfl) (by rfl) (by rfl) HPO.out
      · have HD : Hid (decide (blkV nx l = t) = false) := Lib.hid (decide_eq_false hbt)
        have HZ := Lib.hid (readG_miss HPF3.out (fun h => hbt (HBI.out.2 h)))
        clear hbt
        rw [HD.out]
        have HRF := Lib.hid ((HR4.out.set 0 (.int .i64 0)).set 1 (.slice none 0 0))
        have HBF := Lib.hid ((HB4.out.setCell (p := ⟨w.heap.size, 0, none⟩) (Nat.le_refl _) (.int .i64 0)).setCell (p := ⟨w.heap.size, 1, none⟩) (Nat.le_refl _) (.slice none 0 0))
        go_wp2
        exact ret_readS HRF.out (by rfl) (by rfl) (by rfl) (rb_zero HBF.out HZ.out)
end Go.Proofs.YtlkfabkkjfmnmaaGreatDoor
