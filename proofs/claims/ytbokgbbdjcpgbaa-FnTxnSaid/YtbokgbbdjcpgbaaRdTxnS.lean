/- A record of the journal is read: the reference's way. -/
import Derived.Test.YtbokgbbdjcpgbaaRdTxn
import Derived.Test.YtbokgbbdjcpgbaaVars
import Derived.Test.YtbokgbbdjcpgbaaTxnS
import Derived.Test.YtbokgbbdjcpgbaaLput
namespace Go.Proofs.Ytbokgbbdjcpgbaa
open Go.RowKit

theorem takeP_neg (s : List UInt8) (p : Int) (h : p < 0) : takeP s p = ([], -1) := by
  unfold takeP
  rw [varsF_out s 0 p [] (.inl h), if_pos (.inl (by decide))]
theorem takeP_le (s : List UInt8) (p : Int) (h : -1 ≤ p) : -1 ≤ (takeP s p).2 ∧ (takeP s p).2 ≤ (s.length : Int) := by
  have h1 := varsF_le5 s 0 p [] h
  unfold takeP
  split
  · dsimp only; omega
  · rename_i hc
    obtain ⟨x, hx, hx0, hx1⟩ := take_one s p (by omega)
    rw [hx] at hc ⊢
    simp only [List.getD_cons_zero] at hc ⊢
    omega
theorem loopS_neg (s : List UInt8) (r : Nat) (p : Int) (out : OutL) (h : (takeP s (varsF s 1 p []).2).2 < 0) : loopS s (r + 1) p out = none := by rw [loopS, if_pos h]
theorem loopS_pos (s : List UInt8) (r : Nat) (p : Int) (out : OutL) (h : ¬ (takeP s (varsF s 1 p []).2).2 < 0) : loopS s (r + 1) p out = loopS s r (takeP s (varsF s 1 p []).2).2 (out ++ [((varsF s 1 p []).1.getD 0 0, ⟨(takeP s (varsF s 1 p []).2).1.toArray⟩)]) := by rw [loopS, if_neg h]
theorem cell_grown {w w' : World} {b j : Nat} {r : Option Nat} {v : Value} (h : w.cell? ⟨b, j, none⟩ = some v) (hg : w.grownBy w' r) (hne : r ≠ some b) : w'.cell? ⟨b, j, none⟩ = some v :=
  cell_block h (hg.block b (World.block_lt_of_cell? w _ h) (fun e => hne e.symm))
theorem vars_two (s : List UInt8) (p : Int) : 0 ≤ (varsF s 2 p []).2 → ∃ x y, (varsF s 2 p []).1 = [x, y] ∧ (0 ≤ x ∧ x ≤ 562949953421311) ∧ (0 ≤ y ∧ y ≤ 562949953421311) := by
  intro h
  have h1 := (varsF_len s 2 p []).1 h
  have h2 := varsF_num s 2 p [] (fun x hx => by simp at hx)
  match hl : (varsF s 2 p []).1, h1, h2 with
  | [x, y], _, h2 => exact ⟨x, y, rfl, h2 x (by simp), h2 y (by simp)⟩
set_option maxRecDepth 1000000 in
set_option maxHeartbeats 6000000 in
theorem specReadTxn_any (s : ByteArray) (w : World) (hs : s.size ≤ 1048576) : Calls Try.prog 57 #[.string s] w (ReadPost s w) := by
  have HR0 := Lib.hid (two_new w 72 (.int .i64 0) (.slice none 0 0))
  have HB0 := Lib.hid (box_alloc w (.cells #[.int .i64 0, .slice none 0 0] 72))
  have HZ : Hid (∀ W, Below w.heap.size w W → readT s.data.toList = none → ReadPost s w (.returned (.tuple #[.agg #[.int .i64 0, .slice none 0 0], .bool false])) W) := Lib.hid (fun W hb hn => by
    unfold ReadPost
    rw [readX_no hn]
    exact ⟨_, rfl, txn_zero _ _ hb.size, hb⟩)
  have hlen : s.data.toList.length = s.size := Array.length_toList
  by_cases hlong : 4000 < s.size
  · have HN := Lib.hid (readT_long s.data.toList (by rw [hlen]; exact hlong))
    obtain ⟨⟨r0, r1⟩, fr0, fr1⟩ := HR0.out
    have hl2 : (4000 : Int) < (s.size : Int) := by omega
    have HB2 := Lib.hid ((HB0.out.setCell (p := ⟨w.heap.size, 0, none⟩) (Nat.le_refl _) (.int .i64 0)).setCell (p := ⟨w.heap.size, 1, none⟩) (Nat.le_refl _) (.slice none 0 0))
    clear hlen hlong
    go_enter Try.func57, Try.ntmps57
    go_wp2
    refine bodyPost_ret (v := .tuple #[.agg #[.int .i64 0, .slice none 0 0], .bool false]) (by simp [results, Try.results57, go_sem, r0, r1]) rfl ?_
    exact HZ.out _ HB0.out HN.out
  · have hl2 : ¬ (4000 : Int) < (s.size : Int) := by omega
    have HPD : Hid (parseS s.data.toList = if (varsF s.data.toList 2 5 []).2 < 0 ∨ 17 < (varsF s.data.toList 2 5 []).1.getD 1 0 then none else (loopS s.data.toList ((varsF s.data.toList 2 5 []).1.getD 1 0).toNat (varsF s.data.toList 2 5 []).2 []).map (fun l => ((varsF s.data.toList 2 5 []).1.getD 0 0, l))) := Lib.hid rfl
    have HTWO := Lib.hid (vars_two s.data.toList 5)
    have HLE := Lib.hid (varsF_le5 s.data.toList 1 5 [] (by omega))
    have HPN := Lib.hid (readT_parse_none s.data.toList)
    clear hlen hlong
    go_enter Try.func57, Try.ntmps57
    go_wp2_with fail
    refine (l7Vars_any s 5 2 _ hs (by omega) (by omega) (by omega)).mono ?_
    rintro e w1 ⟨g0, c0, rfl, hO⟩
    have HRl := Lib.hid hO.rd
    have HBK : Hid (∀ q, (Value.slice g0 (varsF s.data.toList 2 5 []).1.length c0).ownBlock = some q → w.heap.size + 1 ≤ q) := Lib.hid (fun q hq => by have := (hO.blk q hq).1; simpa using this)
    have HR1 := Lib.hid (HR0.out.kept (hO.below.block _ (by simp)))
    have HB1 := Lib.hid (below_step1 HB0.out hO.below)
    clear hO HR0 HB0
    obtain ⟨p0, hp0⟩ : ∃ x, (varsF s.data.toList 2 5 []).2 = x := ⟨_, rfl⟩
    rw [hp0] at HPD HTWO HLE ⊢
    clear hp0
    generalize (varsF s.data.toList 2 5 []).1 = ll at *
    by_cases hneg : p0 < 0
    · have HN := Lib.hid (HPN.out (by rw [HPD.out, if_pos (.inl hneg)]))
      obtain ⟨⟨r0, r1⟩, fr0, fr1⟩ := HR1.out
      have hzR : w.heap.size < w1.heap.size := HR1.out.lt
      have HB2 := Lib.hid ((HB1.out.setCell (p := ⟨w.heap.size, 0, none⟩) (Nat.le_refl _) (.int .i64 0)).setCell (p := ⟨w.heap.size, 1, none⟩) (Nat.le_refl _) (.slice none 0 0))
      clear HPD HTWO HLE HPN HRl
      go_wp2
      refine bodyPost_ret (v := .tuple #[.agg #[.int .i64 0, .slice none 0 0], .bool false]) (by simp [results, Try.results57, go_sem, r0, r1, hzR]) rfl ?_
      exact HZ.out _ HB2.out HN.out
    · obtain ⟨seq, nn, hll, ⟨hsq0, hsq1⟩, ⟨hnn0, hnn1⟩⟩ := HTWO.out (by omega)
      rw [hll] at HRl HPD HBK ⊢
      simp only [List.getD_cons_zero, List.getD_cons_succ] at HPD
      obtain ⟨n, rfl⟩ := Int.eq_ofNat_of_zero_le hnn0
      rw [Int.toNat_natCast] at HPD
      obtain ⟨bl, ol, rfl, hbs, hc⟩ := HRl.out.at' (by simp)
      have lc0 : w1.cell? ⟨bl, ol, none⟩ = some (.int .i64 seq) := hc 0 (by simp)
      have lc1 : w1.cell? ⟨bl, ol + 1, none⟩ = some (.int .i64 (n : Int)) := hc 1 (by simp)
      clear hll hc HTWO HRl
      by_cases hgt : 17 < n
      · have HN := Lib.hid (HPN.out (by rw [HPD.out, if_pos (.inr (by omega))]))
        obtain ⟨⟨r0, r1⟩, fr0, fr1⟩ := HR1.out
        have hzR : w.heap.size < w1.heap.size := HR1.out.lt
        have HB2 := Lib.hid ((HB1.out.setCell (p := ⟨w.heap.size, 0, none⟩) (Nat.le_refl _) (.int .i64 0)).setCell (p := ⟨w.heap.size, 1, none⟩) (Nat.le_refl _) (.slice none 0 0))
        have hg2 : (17 : Int) < (n : Int) := by omega
        clear HPD HLE HPN hgt
        go_wp2
        refine bodyPost_ret (v := .tuple #[.agg #[.int .i64 0, .slice none 0 0], .bool false]) (by simp [results, Try.results57, go_sem, r0, r1, hzR]) rfl ?_
        exact HZ.out _ HB2.out HN.out
      · have hg2 : ¬ (17 : Int) < (n : Int) := by omega
        have HPD2 : Hid (parseS s.data.toList = (loopS s.data.toList n p0 []).map (fun l => (seq, l))) := Lib.hid (by rw [HPD.out, if_neg (by omega)])
        have HT2 := Lib.hid (two_new w1 72 (.int .i64 seq) (.slice none 0 0))
        have HLC := Lib.hid (And.intro lc0 lc1)
        clear HPD
        have hz1 : w.heap.size < w1.heap.size := HR1.out.lt
        have hbl : bl < w1.heap.size := World.block_lt_of_cell? w1 _ lc0
        have hblR : w.heap.size + 1 ≤ bl := HBK.out bl rfl
        have HB2 := Lib.hid (HB1.out.alloc HB1.out.size (.cells #[.int .i64 seq, .slice none 0 0] 72))
        have HR2 := Lib.hid (HR1.out.alloc (.cells #[.int .i64 seq, .slice none 0 0] 72))
        have HL2 := Lib.hid (And.intro (box_below lc0 (box_alloc w1 (.cells #[.int .i64 seq, .slice none 0 0] 72))) (box_below lc1 (box_alloc w1 (.cells #[.int .i64 seq, .slice none 0 0] 72))))
        have hle : p0 ≤ 1048576 := by have h := HLE.out.1; have e : s.data.toList.length = s.size := Array.length_toList; omega
        go_wp2
        clear HR1 HB1 HLE HLC HBK lc0 lc1
        have hTs : (w1.alloc (.cells #[.int .i64 seq, .slice none 0 0] 72)).heap.size = w1.heap.size + 1 := by simp
        generalize w1.alloc (.cells #[.int .i64 seq, .slice none 0 0] 72) = w2 at *
        generalize w1.heap.size = T at *
        have HTS := Lib.hid hTs
        have hT2 : T < w2.heap.size := by omega
        clear hTs
        go_loopg [5, 7, 8, 9, 10] n (fun gg pv i bv ev xv wr => ∃ (k : Nat) (g : Option Addr) (c : Nat) (L : OutL) (p : Int), k + gg = n ∧ i = .int .i64 (k : Int) ∧ pv = .int .i64 p ∧ Hid (L.length = k) ∧ (0 ≤ p ∧ p ≤ 1048576) ∧ Hid (loopS s.data.toList n p0 [] = loopS s.data.toList gg p L) ∧ Hid (Two wr T (.int .i64 seq) (.slice g k c)) ∧ Hid (Own 53 2 (T + 1) wr (.slice g k c) k (wrs L) wr) ∧ Hid (Two wr w.heap.size (.int .i64 0) (.slice none 0 0)) ∧ Hid (wr.cell? ⟨bl, ol, none⟩ = some (.int .i64 seq) ∧ wr.cell? ⟨bl, ol + 1, none⟩ = some (.int .i64 (n : Int))) ∧ Hid (Below w.heap.size w wr))
        case atStart => exact ⟨0, none, 0, [], p0, by omega, rfl, rfl, Lib.hid rfl, ⟨by omega, hle⟩, Lib.hid rfl, HT2, Lib.hid ⟨World.ownsRow_nil _ _ _ _, Below.refl _ _, by omega⟩, HR2, HL2, HB2⟩
        case round =>
          obtain ⟨k, g, c, L, p, hk, rfl, rfl, HLL, ⟨hp0, hp1⟩, HLP, HT, HO, HR, HLC, HB⟩ := hrel
          have hTl : T < wr.heap.size := HT.out.lt
          have lc1 := HLC.out.2
          by_cases hlt : k < n
          · have hi : (k : Int) < (n : Int) := by omega
            obtain ⟨r, hr⟩ : ∃ r, gk = r + 1 := ⟨gk - 1, by omega⟩
            have HLR : Hid (loopS s.data.toList n p0 [] = loopS s.data.toList (r + 1) p L) := Lib.hid (by rw [HLP.out, hr])
            have HGK := Lib.hid hr
            clear hr HLP
            have HE1 := Lib.hid (varsF_le5 s.data.toList 0 p [] (by omega))
            have HONE := Lib.hid (take_one s.data.toList p)
            have HTN := Lib.hid (takeP_neg s.data.toList (varsF s.data.toList 1 p []).2)
            have HTL := Lib.hid (takeP_le s.data.toList (varsF s.data.toList 1 p []).2)
            have HLN := Lib.hid (loopS_neg s.data.toList r p L)
            have HLY := Lib.hid (loopS_pos s.data.toList r p L)
            go_wp2_with fail
            refine (l7Vars_any s p 1 _ hs (by omega) (by omega) (by omega)).mono ?_
            rintro e w4 ⟨g1, c1, rfl, hOv⟩
            have HOW : Hid (∀ q, (Value.slice g k c).ownBlock = some q → q < wr.heap.size) := Lib.hid (fun q hq => (HO.out.blk q hq).2)
            have HRV := Lib.hid hOv.rd
            have HVB : Hid (∀ q, (Value.slice g1 (varsF s.data.toList 1 p []).1.length c1).ownBlock = some q → wr.heap.size ≤ q) := Lib.hid (fun q hq => (hOv.blk q hq).1)
            have hb := hOv.below
            have HT4 := Lib.hid (HT.out.kept (hb.block _ HT.out.lt))
            have HR4 := Lib.hid (HR.out.kept (hb.block _ HR.out.lt))
            have HO4 := Lib.hid (HO.out.stay hb)
            have HC4 := Lib.hid (And.intro (box_below HLC.out.1 hb) (box_below HLC.out.2 hb))
            have HB4 := Lib.hid (below_step1 HB.out hb)
            clear hb hOv HT HR HO HLC HB lc1
            obtain ⟨e1, he1⟩ : ∃ x, (varsF s.data.toList 1 p []).2 = x := ⟨_, rfl⟩
            rw [he1] at HE1 HONE HTN HTL HLN HLY ⊢
            clear he1
            generalize (varsF s.data.toList 1 p []).1 = vl at *
            have he0 : -1 ≤ e1 := HE1.out.2
            have he9 : e1 ≤ 1048576 := by have h := HE1.out.1; have e : s.data.toList.length = s.size := Array.length_toList; omega
            go_wp2_with fail
            refine (l7Take_any s e1 _ hs he0 (by omega)).mono ?_
            rintro e w5 ⟨rfl, hb⟩
            have HT5 := Lib.hid (HT4.out.kept (hb.block _ HT4.out.lt))
            have HR5 := Lib.hid (HR4.out.kept (hb.block _ HR4.out.lt))
            have HO5 := Lib.hid (HO4.out.stay hb)
            have HC5 := Lib.hid (And.intro (box_below HC4.out.1 hb) (box_below HC4.out.2 hb))
            have HB5 := Lib.hid (below_step1 HB4.out hb)
            have HRV5 := Lib.hid (HRV.out.below hb (Nat.le_refl _))
            have HTL2 := Lib.hid (HTL.out he0)
            clear hb HT4 HR4 HO4 HC4 HB4 HRV HTL
            generalize (⟨(takeP s.data.toList e1).1.toArray⟩ : ByteArray) = tx at *
            obtain ⟨q2, hq2⟩ : ∃ x, (takeP s.data.toList e1).2 = x := ⟨_, rfl⟩
            have HTN2 : Hid (e1 < 0 → q2 = -1) := Lib.hid (fun h => by rw [← hq2, HTN.out h])
            rw [hq2] at HTL2 HLN HLY ⊢
            clear hq2 HTN
            have hq9 : q2 ≤ 1048576 := by have h := HTL2.out.2; have e : s.data.toList.length = s.size := Array.length_toList; omega
            by_cases hqn : q2 < 0
            · have HN := Lib.hid (HPN.out (by rw [HPD2.out, HLR.out, HLN.out hqn]; rfl))
              obtain ⟨⟨r0, r1⟩, fr0, fr1⟩ := HR5.out
              have hzR : w.heap.size < w5.heap.size := HR5.out.lt
              have HB6 := Lib.hid ((HB5.out.setCell (p := ⟨w.heap.size, 0, none⟩) (Nat.le_refl _) (.int .i64 0)).setCell (p := ⟨w.heap.size, 1, none⟩) (Nat.le_refl _) (.slice none 0 0))
              go_wp2
              refine bodyPost_ret (v := .tuple #[.agg #[.int .i64 0, .slice none 0 0], .bool false]) (by simp [results, Try.results57, go_sem, r0, r1, hzR]) rfl ?_
              exact HZ.out _ HB6.out HN.out
            · have hq2a : 0 ≤ q2 := by omega
              have he2 : 0 ≤ e1 := by
                by_cases h : e1 < 0
                · have := HTN2.out h; omega
                · omega
              obtain ⟨y, hvl, hy0, hy1⟩ := HONE.out he2
              subst hvl
              have HLP2 : Hid (loopS s.data.toList n p0 [] = loopS s.data.toList r q2 (L ++ [(y, tx)])) := Lib.hid (by rw [HLR.out, HLY.out (by omega)]; rfl)
              obtain ⟨bb, bo, rfl, hbb, hbc⟩ := HRV5.out.at' (by simp)
              have b0 : w5.cell? ⟨bb, bo, none⟩ = some (.int .i64 y) := hbc 0 (by simp)
              have hTl5 : T < w5.heap.size := HT5.out.lt
              have t1 := HT5.out.1.2
              have HO7 := Lib.hid (show Own 53 2 (T + 1) (w5.drew.alloc (.cells #[.int .i64 y, .string tx] 53)) (.slice g k c) k (wrs L) (w5.drew.alloc (.cells #[.int .i64 y, .string tx] 53)) from ((HO5.out.drew.alloc (.cells #[.int .i64 y, .string tx] 53)).self))
              have hOb : ∀ q, (Value.slice g k c).ownBlock = some q → T + 1 ≤ q ∧ q < w5.heap.size := HO5.out.blk
              have HOB := Lib.hid hOb
              have HRL := Lib.hid (show Rd (w5.drew.alloc (.cells #[.int .i64 y, .string tx] 53)) (some ⟨w5.heap.size, 0, none⟩) 1 1 2 [.int .i64 y, .string tx] from lit_rd (w0 := w5.drew) (news := #[.int .i64 y, .string tx]) rfl (by decide))
              have HBD : Below w5.heap.size w5 (w5.drew.alloc (.cells #[.int .i64 y, .string tx] 53)) := (Below.refl w5.heap.size w5).drew.alloc (Nat.le_refl _) _
              have HKA := Lib.hid (box_below b0 HBD)
              have HNX : Hid (∀ W, (w5.drew.alloc (.cells #[.int .i64 y, .string tx] 53)).grownBy W (Value.slice g k c).ownBlock → Two W T (.int .i64 seq) (.slice g k c) ∧ Two W w.heap.size (.int .i64 0) (.slice none 0 0) ∧ (W.cell? ⟨bl, ol, none⟩ = some (.int .i64 seq) ∧ W.cell? ⟨bl, ol + 1, none⟩ = some (.int .i64 (n : Int))) ∧ Below w.heap.size w W ∧ W.cell? ⟨bb, bo, none⟩ = some (.int .i64 y)) := Lib.hid (fun W hg => ⟨(HT5.out.kept (HBD.block _ HT5.out.lt)).grown hg (fun e => by have := (HOB.out _ e).1; omega), (HR5.out.kept (HBD.block _ HR5.out.lt)).grown hg (fun e => by have := (HOB.out _ e).1; omega), ⟨cell_grown (box_below HC5.out.1 HBD) hg (fun e => by have := (HOB.out _ e).1; omega), cell_grown (box_below HC5.out.2 HBD) hg (fun e => by have := (HOB.out _ e).1; omega)⟩, (below_step1 HB5.out HBD).grown hg (below_step1 HB5.out HBD).size (fun q hq => by have := (HOB.out q hq).1; omega), cell_grown (box_below b0 HBD) hg (fun e => by have h := HOW.out _ e; have h2 := HVB.out bb rfl; omega)⟩)
              have hbbT : bb ≠ T := by have := HVB.out bb rfl; omega
              clear hOb HT5 HR5 HO5 HC5 HB5 HRV5 hbc HBD HTL2 HLN HLY HLR HONE HE1 HTN2
              go_wp2
              refine wp_region_held_drew (S := (fun W => W.cell? ⟨bb, bo, none⟩ = some (.int .i64 y))) (by kernel_rfl) ?_ (fun hHeld => ?_)
              · try dsimp only
                (exact b0)
              change wpAnyH _ _ _ _ _ 11 #[false, false, false, false, false, false, false, false, false, false, false] _ _
              refine wpH_take (i := 0) (v := ?_) rfl (by kernel_rfl) (by kernel_rfl) (by kernel_rfl) (fun _ _ _ h => h) (by rfl) ?_ (by assumption) ?_; rotate_left; (focus (intro w hSw; (try dsimp only at hSw); go_simp; try with_reducible rfl)); try simp only [Act.put, List.setIfInBounds_toArray, List.set_cons_zero, List.set_cons_succ]
              refine wpH_take (i := 2) (v := ?_) rfl (by kernel_rfl) (by kernel_rfl) (by kernel_rfl) (fun _ _ _ h => h) (by rfl) ?_ (by assumption) ?_; rotate_left; (focus (intro w hSw; (try dsimp only at hSw); go_simp; try with_reducible rfl)); try simp only [Act.put, List.setIfInBounds_toArray, List.set_cons_zero, List.set_cons_succ]
              refine wpH_take (i := 3) (v := ?_) rfl (by kernel_rfl) (by kernel_rfl) (by kernel_rfl) (fun _ _ _ h => h) (by rfl) ?_ (by assumption) ?_; rotate_left; (focus (intro w hSw; (try dsimp only at hSw); go_simp; try with_reducible rfl)); try simp only [Act.put, List.setIfInBounds_toArray, List.set_cons_zero, List.set_cons_succ]
              refine wpH_take (i := 4) (v := ?_) rfl (by kernel_rfl) (by kernel_rfl) (by kernel_rfl) (fun _ _ _ h => h) (by rfl) ?_ (by assumption) ?_; rotate_left; (focus (intro w hSw; (try dsimp only at hSw); go_simp; try with_reducible rfl)); try simp only [Act.put, List.setIfInBounds_toArray, List.set_cons_zero, List.set_cons_succ]
              refine wpH_take (i := 5) (v := ?_) rfl (by kernel_rfl) (by kernel_rfl) (by kernel_rfl) (fun _ _ _ h => h) (by rfl) ?_ (by assumption) ?_; rotate_left; (focus (intro w hSw; (try dsimp only at hSw); go_simp; try with_reducible rfl)); try simp only [Act.put, List.setIfInBounds_toArray, List.set_cons_zero, List.set_cons_succ]
              refine wpH_take (i := 6) (v := ?_) rfl (by kernel_rfl) (by kernel_rfl) (by kernel_rfl) (fun _ _ _ h => h) (by rfl) ?_ (by assumption) ?_; rotate_left; (focus (intro w hSw; (try dsimp only at hSw); go_simp; try with_reducible rfl)); try simp only [Act.put, List.setIfInBounds_toArray, List.set_cons_zero, List.set_cons_succ]
              refine wpAnyH_ready (rs := [1, 7]) (by kernel_rfl) (by simp) ?_
              refine AllReadyH.cons rfl (fun K hK => ?_) (AllReadyH.cons rfl (fun K hK => ?_) AllReadyH.nil)
              · skip
                try dsimp only at hHeld
                go_simp
                refine hK.out _ _ (by exact hHeld) (fun hHeld2 => ?_)
                clear hK K hHeld
                have hHeld := hHeld2
                clear hHeld2
                refine wpAnyH_ready (rs := [7]) (by kernel_rfl) (by simp) ?_
                refine AllReadyH.cons rfl (fun K hK => ?_) AllReadyH.nil
                try dsimp only at hHeld
                go_simp
                have hHw := hHeld
                refine hK.out _ _ (by exact HKA.out) (fun hHeld2 => ?_)
                clear hK K hHeld
                have hHeld := hHeld2
                clear hHeld2
                clear hHw
                refine wpAnyH_ready (rs := [8]) (by kernel_rfl) (by simp) ?_
                refine AllReadyH.cons rfl (fun K hK => ?_) AllReadyH.nil
                try dsimp only at hHeld
                refine step_appg rfl _ _ 30 rfl 53 (.agg #[.int .i64 0, .string ByteArray.empty]) 2 24 Try.underlying30 info_wr rfl (by decide) _ _ _ k (wrs L) rfl HO7.out _ 1 1 _ rfl HRL.out (by intro u hu; simp at hu; rcases hu with rfl | rfl <;> rfl) (by omega) (by unfold maxLen; omega) ?_
                intro a9 c9 w9 hO9 hG9
                have HQ := Lib.hid (HNX.out w9 hG9)
                have HO9 := Lib.hid hO9
                refine hK.out _ _ (by exact HQ.out.2.2.2.2) (fun hHeld2 => ?_)
                clear hK K hHeld hO9 hG9
                have hHeld := hHeld2
                clear hHeld2
                have y1 := HQ.out.1.1.2
                have v1 := HQ.out.1.2.2
                have hzT := HQ.out.1.lt
                refine wpAnyH_ready (rs := [9]) (by kernel_rfl) (by simp) ?_
                refine AllReadyH.cons rfl (fun K hK => ?_) AllReadyH.nil
                try dsimp only at hHeld
                go_simp
                refine hK.out _ _ (by exact hHeld) (fun hHeld2 => ?_)
                clear hK K hHeld
                have hHeld := hHeld2
                clear hHeld2
                refine wpAnyH_ready (rs := [10]) (by kernel_rfl) (by simp) ?_
                refine AllReadyH.cons rfl (fun K hK => ?_) AllReadyH.nil
                try dsimp only at hHeld
                go_simp
                refine hK.out _ _ (by exact cell_far HQ.out.2.2.2.2 (by omega)) (fun hHeld2 => ?_)
                clear hK K hHeld hHeld2
                refine wpAnyH_done (by kernel_rfl) ?_ _
                go_wp2
                go_roundg r
                case measure => have := HGK.out; omega
                case rel =>
                  refine ⟨k + 1, _, _, L ++ [(y, tx)], q2, by have := HGK.out; omega, by go_num, rfl, Lib.hid (by rw [List.length_append, HLL.out]; rfl), ⟨hq2a, by omega⟩, HLP2, Lib.hid (HQ.out.1.set1 _), Lib.hid ?_, Lib.hid (HQ.out.2.1.far (by omega)), Lib.hid ⟨cell_far HQ.out.2.2.1.1 (by omega), cell_far HQ.out.2.2.1.2 (by omega)⟩, Lib.hid (HQ.out.2.2.2.1.setCell (by dsimp only; omega) _)⟩
                  rw [wrs_append]
                  exact HO9.out.self.setFar T 1 _ (fun q hq => by have := (HO9.out.blk q hq).1; omega)
              · skip
                try dsimp only at hHeld
                go_simp
                have hHw := hHeld
                refine hK.out _ _ (by exact HKA.out) (fun hHeld2 => ?_)
                clear hK K hHeld
                have hHeld := hHeld2
                clear hHeld2
                clear hHw
                refine wpAnyH_ready (rs := [1]) (by kernel_rfl) (by simp) ?_
                refine AllReadyH.cons rfl (fun K hK => ?_) AllReadyH.nil
                try dsimp only at hHeld
                go_simp
                refine hK.out _ _ (by exact hHeld) (fun hHeld2 => ?_)
                clear hK K hHeld
                have hHeld := hHeld2
                clear hHeld2
                refine wpAnyH_ready (rs := [8]) (by kernel_rfl) (by simp) ?_
                refine AllReadyH.cons rfl (fun K hK => ?_) AllReadyH.nil
                try dsimp only at hHeld
                refine step_appg rfl _ _ 30 rfl 53 (.agg #[.int .i64 0, .string ByteArray.empty]) 2 24 Try.underlying30 info_wr rfl (by decide) _ _ _ k (wrs L) rfl HO7.out _ 1 1 _ rfl HRL.out (by intro u hu; simp at hu; rcases hu with rfl | rfl <;> rfl) (by omega) (by unfold maxLen; omega) ?_
                intro a9 c9 w9 hO9 hG9
                have HQ := Lib.hid (HNX.out w9 hG9)
                have HO9 := Lib.hid hO9
                refine hK.out _ _ (by exact HQ.out.2.2.2.2) (fun hHeld2 => ?_)
                clear hK K hHeld hO9 hG9
                have hHeld := hHeld2
                clear hHeld2
                have y1 := HQ.out.1.1.2
                have v1 := HQ.out.1.2.2
                have hzT := HQ.out.1.lt
                refine wpAnyH_ready (rs := [9]) (by kernel_rfl) (by simp) ?_
                refine AllReadyH.cons rfl (fun K hK => ?_) AllReadyH.nil
                try dsimp only at hHeld
                go_simp
                refine hK.out _ _ (by exact hHeld) (fun hHeld2 => ?_)
                clear hK K hHeld
                have hHeld := hHeld2
                clear hHeld2
                refine wpAnyH_ready (rs := [10]) (by kernel_rfl) (by simp) ?_
                refine AllReadyH.cons rfl (fun K hK => ?_) AllReadyH.nil
                try dsimp only at hHeld
                go_simp
                refine hK.out _ _ (by exact cell_far HQ.out.2.2.2.2 (by omega)) (fun hHeld2 => ?_)
                clear hK K hHeld hHeld2
                refine wpAnyH_done (by kernel_rfl) ?_ _
                go_wp2
                go_roundg r
                case measure => have := HGK.out; omega
                case rel =>
                  refine ⟨k + 1, _, _, L ++ [(y, tx)], q2, by have := HGK.out; omega, by go_num, rfl, Lib.hid (by rw [List.length_append, HLL.out]; rfl), ⟨hq2a, by omega⟩, HLP2, Lib.hid (HQ.out.1.set1 _), Lib.hid ?_, Lib.hid (HQ.out.2.1.far (by omega)), Lib.hid ⟨cell_far HQ.out.2.2.1.1 (by omega), cell_far HQ.out.2.2.1.2 (by omega)⟩, Lib.hid (HQ.out.2.2.2.1.setCell (by dsimp only; omega) _)⟩
                  rw [wrs_append]
                  exact HO9.out.self.setFar T 1 _ (fun q hq => by have := (HO9.out.blk q hq).1; omega)
          · have e : k = n := by omega
            have hi : ¬ (k : Int) < (n : Int) := by omega
            have h0 : gk = 0 := by omega
            have HPE : Hid (parseS s.data.toList = some (seq, L)) := Lib.hid (by rw [HPD2.out, HLP.out, h0]; rfl)
            have HPH := Lib.hid (readT_parse_hit s.data.toList (seq, L) HPE.out)
            have HPX := Lib.hid (readT_parse_ne s.data.toList (seq, L) HPE.out)
            have HI : Hid (∀ W, Rd W g k c 2 (wrs L) → Calls Try.prog 53 #[.agg #[.int .i64 seq, .slice g k c]] W fun e w' => e = .returned (.string (showB seq L)) ∧ Below W.heap.size W w') := Lib.hid (fun W hr => by
              have h := specShow_any seq g c L W
              rw [HLL.out] at h
              exact h hr (by omega))
            obtain ⟨⟨r0, r1⟩, fr0, fr1⟩ := HR.out
            obtain ⟨⟨t0, t1⟩, ft0, ft1⟩ := HT.out
            have hzR : w.heap.size < wr.heap.size := by omega
            clear e h0 HLP
            go_wp2_with fail
            refine (HI.out _ HO.out.rd).mono ?_
            rintro e w7 ⟨rfl, hb⟩
            have HSQ := Lib.hid (showB_eq seq L s)
            have HSQ2 : Hid (showL seq L = s.data.toList → (showB seq L).toList = s.toList) := Lib.hid (fun h => by rw [ByteArray.toList_eq, ByteArray.toList_eq]; exact h)
            replace r0 := box_below r0 hb
            replace r1 := box_below r1 hb
            replace t0 := box_below t0 hb
            replace t1 := box_below t1 hb
            replace fr0 := ((bcell hb).2 _ 0 hzR).trans fr0
            replace fr1 := ((bcell hb).2 _ 1 hzR).trans fr1
            have hzR7 : w.heap.size < w7.heap.size := World.block_lt_of_cell? w7 _ r0
            have hzT7 : T < w7.heap.size := World.block_lt_of_cell? w7 _ t0
            have HB7 := Lib.hid (below_step1 HB.out hb)
            have HO7 := Lib.hid (HO.out.stay hb)
            clear hb HO HT HR HB HLC lc1 ft0 ft1
            generalize showB seq L = SB at *
            cases heq : (SB.toList == s.toList) with
            | true =>
              have HE : Hid (showL seq L = s.data.toList) := Lib.hid (HSQ.out (by simpa using heq))
              have HBF := Lib.hid ((HB7.out.setCell (p := ⟨w.heap.size, 0, none⟩) (Nat.le_refl _) (.int .i64 seq)).setCell (p := ⟨w.heap.size, 1, none⟩) (Nat.le_refl _) (.slice g k c))
              have HOF := Lib.hid ((HO7.out.setFar w.heap.size 0 (.int .i64 seq) (fun q hq => by have := (HO7.out.blk q hq).1; omega)).setFar w.heap.size 1 (.slice g k c) (fun q hq => by have := (HO7.out.blk q hq).1; omega))
              have HX : Hid (readX s.data.toList = (seq, L, true)) := Lib.hid (readX_yes (HPH.out HE.out))
              go_wp2
              refine bodyPost_ret (v := .tuple #[.agg #[.int .i64 seq, .slice g k c], .bool true]) (by simp [results, Try.results57, go_sem, r0, r1, hzR7]) rfl ?_
              unfold ReadPost
              rw [HX.out]
              refine ⟨_, rfl, ⟨g, c, by rw [HLL.out]; rfl, ?_⟩, HBF.out⟩
              rw [HLL.out]
              exact ⟨row_mono1 HOF.out.row (by omega), Below.refl _ _, HBF.out.size⟩
            | false =>
              have HN : Hid (readT s.data.toList = none) := Lib.hid (HPX.out (fun h => by
                rw [HSQ2.out h] at heq
                simp at heq))
              have HBF := Lib.hid ((HB7.out.setCell (p := ⟨w.heap.size, 0, none⟩) (Nat.le_refl _) (.int .i64 0)).setCell (p := ⟨w.heap.size, 1, none⟩) (Nat.le_refl _) (.slice none 0 0))
              go_wp2
              refine bodyPost_ret (v := .tuple #[.agg #[.int .i64 0, .slice none 0 0], .bool false]) (by simp [results, Try.results57, go_sem, r0, r1, hzR7]) rfl ?_
              exact HZ.out _ HBF.out HN.out
end Go.Proofs.Ytbokgbbdjcpgbaa
