/- A write, and a device, that are drawn. (Printed by gen_devd.py.) -/
import Derived.Test.YtbokgbbdjcpgbaaDraws
import Derived.Test.YtbokgbbdjcpgbaaRdTxn
import Derived.Test.YtbokgbbdjcpgbaaStep
import Derived.Test.YtbokgbbdjcpgbaaDoneG
import Derived.Test.YtbokgbbdjcpgbaaLput
import Derived.Deep.DeepCutAuto
namespace Go.Proofs.Ytbokgbbdjcpgbaa
open Go.RowKit

theorem Two.put0 {w : World} {b : Nat} {u v : Value} (h : Two w b u v) (x : Value) : Two (w.setCell ⟨b, 0, none⟩ x) b x v := by
  have hl := h.lt
  obtain ⟨⟨h0, h1⟩, f0, f1⟩ := h
  exact ⟨⟨by go_simp, by go_simp⟩, ⟨by go_simp, by go_simp⟩⟩
/-- A write under way: its box, the result's, the cursor. -/
structure WXS (a : Option Addr) (n cap : Nat) (bs : List Int) (g : Nat) (w0 : World) (X : Nat) (y : Int) (t : ByteArray) (s : CS) (wr : World) : Prop where
  tw : Two wr X (.int .i64 y) (.string t)
  rs : Two wr w0.heap.size (.int .i64 0) (.string ByteArray.empty)
  cu : CurAt a n cap bs g s wr
  gr : w0.grownBy wr (some g)
  gl : g < w0.heap.size
  xl : w0.heap.size < X
  ok : OkInt y ∧ t.size ≤ 4001
theorem WXS.step {a : Option Addr} {n cap : Nat} {bs : List Int} {g : Nat} {w0 : World} {X : Nat} {y : Int} {t : ByteArray} {s s' : CS} {wr w' : World} (h : WXS a n cap bs g w0 X y t s wr) (hC : CurAt a n cap bs g s' w') (hG : wr.grownBy w' (some g)) : WXS a n cap bs g w0 X y t s' w' := by
  have gl := h.gl
  have xl := h.xl
  exact ⟨h.tw.grown hG (fun e => by have := Option.some.inj e; omega), h.rs.grown hG (fun e => by have := Option.some.inj e; omega), hC, h.gr.trans hG, gl, xl, h.ok⟩
theorem WXS.low {a : Option Addr} {n cap : Nat} {bs : List Int} {g : Nat} {w0 : World} {X : Nat} {y : Int} {t : ByteArray} {s : CS} {wr w' : World} (h : WXS a n cap bs g w0 X y t s wr) (hb : Below wr.heap.size wr w') : WXS a n cap bs g w0 X y t s w' := h.step (h.cu.kept hb) (grown_of_below _ hb)
theorem WXS.alloc {a : Option Addr} {n cap : Nat} {bs : List Int} {g : Nat} {w0 : World} {X : Nat} {y : Int} {t : ByteArray} {s : CS} {wr : World} (h : WXS a n cap bs g w0 X y t s wr) (o : Obj) : WXS a n cap bs g w0 X y t s (wr.alloc o) := h.low (box_alloc wr o)
theorem WXS.num {a : Option Addr} {n cap : Nat} {bs : List Int} {g : Nat} {w0 : World} {X : Nat} {y : Int} {t : ByteArray} {s : CS} {wr : World} (h : WXS a n cap bs g w0 X y t s wr) (z : Int) (hz : OkInt z) : WXS a n cap bs g w0 X z t s (wr.setCell ⟨X, 0, none⟩ (.int .i64 z)) := by
  have gl := h.gl
  have xl := h.xl
  exact ⟨h.tw.put0 _, h.rs.far (by omega), h.cu.grown (scan_set _ _ _ _) (fun k hk => by have := Option.some.inj hk; omega), grown_trans h.gr (scan_set _ _ _ _) (fun k hk => by have := Option.some.inj hk; exact .inr (by omega)), gl, xl, ⟨hz, h.ok.2⟩⟩
theorem WXS.text {a : Option Addr} {n cap : Nat} {bs : List Int} {g : Nat} {w0 : World} {X : Nat} {y : Int} {t : ByteArray} {s : CS} {wr : World} (h : WXS a n cap bs g w0 X y t s wr) (z : ByteArray) (hz : z.size ≤ 4001) : WXS a n cap bs g w0 X y z s (wr.setCell ⟨X, 1, none⟩ (.string z)) := by
  have gl := h.gl
  have xl := h.xl
  exact ⟨h.tw.set1 _, h.rs.far (by omega), h.cu.grown (scan_set _ _ _ _) (fun k hk => by have := Option.some.inj hk; omega), grown_trans h.gr (scan_set _ _ _ _) (fun k hk => by have := Option.some.inj hk; exact .inr (by omega)), gl, xl, ⟨h.ok.1, hz⟩⟩
def DrewWrite (a : Option Addr) (n cap : Nat) (bs : List Int) (g : Nat) (w : World) (e : Ending) (w' : World) : Prop :=
  ∃ (x : Int × ByteArray) (s : CS), e = .returned (wrV x) ∧ OkInt x.1 ∧ x.2.size ≤ 4001 ∧ CurAt a n cap bs g s w' ∧ w.grownBy w' (some g)
theorem WXS.ret {a : Option Addr} {n cap : Nat} {bs : List Int} {g : Nat} {w0 : World} {X : Nat} {y : Int} {t : ByteArray} {s : CS} {wr : World} (h : WXS a n cap bs g w0 X y t s wr) : DrewWrite a n cap bs g w0 (.returned (.agg #[.int .i64 y, .string t])) ((wr.setCell ⟨w0.heap.size, 0, none⟩ (.int .i64 y)).setCell ⟨w0.heap.size, 1, none⟩ (.string t)) := by
  have gl := h.gl
  have hG := (scan_set wr w0.heap.size 0 (.int .i64 y)).trans (scan_set _ w0.heap.size 1 (.string t))
  exact ⟨(y, t), s, rfl, h.ok.1, h.ok.2, h.cu.grown hG (fun k hk => by have := Option.some.inj hk; omega), grown_trans h.gr hG (fun k hk => by have := Option.some.inj hk; exact .inr (by omega))⟩
set_option maxRecDepth 1000000 in
set_option maxHeartbeats 6000000 in
theorem l8Write_any (a : Option Addr) (n cap : Nat) (bs : List Int) (g : Nat) (s : CS) (w : World) (hC : CurAt a n cap bs g s w) :
    Calls Try.prog 112 #[.pointer (some ⟨g, 0, none⟩)] w (DrewWrite a n cap bs g w) := by
  have hg := hC.lt
  have HC0 := Lib.hid (hC.alloc (.cells #[.int .i64 0, .string ByteArray.empty] 53))
  have HR0 := Lib.hid (two_new w 53 (.int .i64 0) (.string ByteArray.empty))
  have HG0 := Lib.hid (World.grownBy_alloc w (.cells #[.int .i64 0, .string ByteArray.empty] 53) (some g))
  clear hC
  go_enter Try.func112, Try.ntmps112
  go_wp2_with fail
  refine (l1Below_any a n cap bs g _ 18 _ HC0.out (by omega)).mono ?_
  rintro e w1 ⟨rfl, hC1, hG1⟩
  have hr1 := belowF_range bs 18 s (by omega)
  have HC1 := Lib.hid hC1
  have HR1 := Lib.hid (HR0.out.grown hG1 (fun e => by have := Option.some.inj e; omega))
  have HG1 := Lib.hid (HG0.out.trans hG1)
  clear hC1 hG1 HC0 HR0 HG0
  generalize (belowF bs 18 s).2 = s1 at *
  generalize (belowF bs 18 s).1 = y at *
  obtain ⟨ha0, ha1⟩ := hr1
  simp only at HC1 ⊢
  go_wp2_with fail
  refine (l1Text_any a n cap bs g _ 6 _ HC1.out (by omega) (by omega)).mono ?_
  rintro e w2 ⟨rfl, hC1, hG1⟩
  have hts := textF_size bs 6 s1 (by omega)
  have HC2 := Lib.hid hC1
  have HR2 := Lib.hid (HR1.out.grown hG1 (fun e => by have := Option.some.inj e; omega))
  have HG2 := Lib.hid (HG1.out.trans hG1)
  clear hC1 hG1 HC1 HR1 HG1
  generalize (textF bs 6 s1).2 = s2 at *
  generalize (textF bs 6 s1).1 = t at *
  have hz2 := HR2.out.lt
  have HX2 : Hid (WXS a n cap bs g w w2.heap.size y t s2 (w2.alloc (.cells #[.int .i64 y, .string t] 53))) := Lib.hid ⟨two_new _ _ _ _, HR2.out.alloc _, HC2.out.alloc _, HG2.out.trans (World.grownBy_alloc _ _ _), hg, hz2, ⟨⟨by omega, by omega⟩, by omega⟩⟩
  clear HC2 HR2 HG2 hts ha0 ha1
  go_wp2_with fail
  refine (l1Once_any a n cap bs g s2 20 _ HX2.out.cu (by omega)).mono ?_
  rintro e w3 ⟨rfl, hC1, hG1⟩
  generalize w2.heap.size = X at *
  have HX3 := Lib.hid (HX2.out.step hC1 hG1)
  clear hC1 hG1 HX2
  simp only at HX3 ⊢
  generalize (belowF bs 20 s2).2 = s3 at *
  generalize ((belowF bs 20 s2).1 == 0) = t3 at *
  cases t3 with
  | false =>
    go_wp2_with fail
    refine (l1Once_any a n cap bs g s3 40 _ HX3.out.cu (by omega)).mono ?_
    rintro e w5 ⟨rfl, hC1, hG1⟩
    have HX5 := Lib.hid (HX3.out.step hC1 hG1)
    clear hC1 hG1 HX3
    simp only at HX5 ⊢
    generalize (belowF bs 40 s3).2 = s5 at *
    generalize ((belowF bs 40 s3).1 == 0) = t5 at *
    cases t5 with
    | false =>
      have hxl := HX5.out.tw.lt
      have hRl := HX5.out.rs.lt
      have x0 := HX5.out.tw.1.1
      have x1 := HX5.out.tw.1.2
      have hq0 := HX5.out.rs.1.1
      have hq1 := HX5.out.rs.1.2
      have hf0 := HX5.out.rs.2.1
      have hf1 := HX5.out.rs.2.2
      go_wp2
      refine bodyPost_ret (v := .agg #[.int .i64 y, .string t]) (by simp [results, Try.results112, go_sem, hq0, hq1, hRl]) rfl ?_
      exact HX5.out.ret
    | true =>
      go_wp2_with fail
      refine (l1Below_any a n cap bs g _ 2 _ HX5.out.cu (by omega)).mono ?_
      rintro e w6 ⟨rfl, hC1, hG1⟩
      have hr6 := belowF_range bs 2 s5 (by omega)
      have HX6 := Lib.hid (HX5.out.step hC1 hG1)
      clear hC1 hG1 HX5
      simp only at HX6 ⊢
      generalize (belowF bs 2 s5).2 = s6 at *
      generalize (belowF bs 2 s5).1 = k6 at *
      obtain ⟨hd0, hd1⟩ := hr6
      obtain ⟨M, hM⟩ := Int.eq_ofNat_of_zero_le (show 0 ≤ 4000 + k6 by omega)
      have hMw : IntKind.i64.wrap (4000 + k6) = (M : Int) := by rw [← hM]; exact IntWalk.i64_in _ ⟨by omega, by omega⟩
      have hM1 : M ≤ 4001 := by omega
      have HL0 : Hid (Own 5 1 w6.heap.size w6 (.slice (some ⟨w6.heap.size, 0, none⟩) 0 0) 0 [] (w6.alloc (.cells #[] 5))) := Lib.hid (Own.lit (n := 0) (Below.refl _ _) (Nat.le_refl _) #[] (by simp) (by decide))
      go_wp2
      go_loopg [5] M (fun gg o wr2 => ∃ (k : Nat), k + gg = M ∧ Own 5 1 w6.heap.size w6 o k (u8s (List.replicate k 65)) wr2)
      case atStart => exact ⟨0, by omega, HL0.out⟩
      case round =>
        obtain ⟨k, hk, hO⟩ := hrel
        obtain ⟨av, cv, rfl, _, _⟩ := hO.shape
        by_cases hlt : k < M
        · have hi : (k : Int) < (M : Int) := by omega
          have HO := Lib.hid hO
          clear hO
          go_wp2_with (at_builtin; go_loud (refine wp_app1g rfl _ _ 47 rfl 5 (.int .u8 0) 1 1 Try.underlying47 info_u8 rfl (by decide) _ _ _ _ _ (by rfl) (by exact HO.out) _ _ (by rfl) (by rfl) (by intro u hu; simp at hu; first | (subst hu; rfl) | (rcases hu with rfl | rfl <;> rfl) | (rcases hu with rfl | rfl | rfl <;> rfl) | (rcases hu with rfl | rfl | rfl | rfl <;> rfl)) (by omega) (by unfold maxLen; omega) ?_); intro a7 c7 w7 hO7 hG7 hN7)
          have HO8 := Lib.hid hO7
          clear hO7 hG7 hN7
          go_roundg (gk - 1)
          case measure => omega
          case rel => exact ⟨k + 1, by omega, by rw [List.replicate_succ', u8s_append]; exact HO8.out⟩
        · have hi : ¬ (k : Int) < (M : Int) := by omega
          have HO := Lib.hid hO
          have HX7 := Lib.hid (HX6.out.low hO.below)
          have hcv := run_str (P := Try.prog) 47 9 5 Try.underlying47 Try.underlying5 Try.underlying9 HO.out.rd
          clear hO
          obtain ⟨t8, ht8, ht8s⟩ : ∃ t8 : ByteArray, t8 = ⟨(List.replicate k (65 : UInt8)).toArray⟩ ∧ t8.size ≤ 4001 := ⟨_, rfl, by simp [ByteArray.size]; omega⟩
          rw [← ht8] at hcv
          clear ht8 HO HX6 HL0
          have hv0 := HX7.out.tw.1.1
          have hv1 := HX7.out.tw.1.2
          have hvf := HX7.out.tw.2.2
          have hvl := HX7.out.tw.lt
          have HX8 := Lib.hid (HX7.out.text t8 ht8s)
          have hxl := HX8.out.tw.lt
          have hRl := HX8.out.rs.lt
          have x0 := HX8.out.tw.1.1
          have x1 := HX8.out.tw.1.2
          have hq0 := HX8.out.rs.1.1
          have hq1 := HX8.out.rs.1.2
          have hf0 := HX8.out.rs.2.1
          have hf1 := HX8.out.rs.2.2
          go_wp2
          refine bodyPost_ret (v := .agg #[.int .i64 y, .string t8]) (by simp [results, Try.results112, go_sem, hq0, hq1, hRl]) rfl ?_
          exact HX8.out.ret
  | true =>
    go_wp2_with fail
    refine (l1PickInt_any a n cap bs g s3 _ 2 2 [-1, 18] _ (HX3.out.cu.alloc _) (by exact lit_rd (news := (ints [-1, 18]).toArray) rfl (by decide)) (fun x hx => by cases hx; have := HX3.out.cu.lt; show w3.heap.size ≠ g; omega) (by omega) (by omega)).mono ?_
    rintro e w4 ⟨rfl, hC1, hG1⟩
    have hk4 := getD_range [-1, 18] (-1) 18 (by decide) (by decide) (belowF bs 2 s3).1.toNat
    have HX4 := Lib.hid ((HX3.out.alloc (.cells #[.int .i64 (-1), .int .i64 18] 3)).step hC1 hG1)
    clear hC1 hG1 HX3
    simp only at HX4 ⊢
    generalize (belowF bs 2 s3).2 = s4 at *
    generalize List.getD [-1, 18] (belowF bs 2 s3).1.toNat 0 = z at *
    have hv0 := HX4.out.tw.1.1
    have hv1 := HX4.out.tw.1.2
    have hvf := HX4.out.tw.2.1
    have hvl := HX4.out.tw.lt
    have HXZ := Lib.hid (HX4.out.num z ⟨by omega, by omega⟩)
    clear HX4
    go_wp2_with fail
    refine (l1Once_any a n cap bs g s4 40 _ HXZ.out.cu (by omega)).mono ?_
    rintro e w5 ⟨rfl, hC1, hG1⟩
    have HX5 := Lib.hid (HXZ.out.step hC1 hG1)
    clear hC1 hG1 HXZ
    simp only at HX5 ⊢
    generalize (belowF bs 40 s4).2 = s5 at *
    generalize ((belowF bs 40 s4).1 == 0) = t5 at *
    cases t5 with
    | false =>
      have hxl := HX5.out.tw.lt
      have hRl := HX5.out.rs.lt
      have x0 := HX5.out.tw.1.1
      have x1 := HX5.out.tw.1.2
      have hq0 := HX5.out.rs.1.1
      have hq1 := HX5.out.rs.1.2
      have hf0 := HX5.out.rs.2.1
      have hf1 := HX5.out.rs.2.2
      go_wp2
      refine bodyPost_ret (v := .agg #[.int .i64 z, .string t]) (by simp [results, Try.results112, go_sem, hq0, hq1, hRl]) rfl ?_
      exact HX5.out.ret
    | true =>
      go_wp2_with fail
      refine (l1Below_any a n cap bs g _ 2 _ HX5.out.cu (by omega)).mono ?_
      rintro e w6 ⟨rfl, hC1, hG1⟩
      have hr6 := belowF_range bs 2 s5 (by omega)
      have HX6 := Lib.hid (HX5.out.step hC1 hG1)
      clear hC1 hG1 HX5
      simp only at HX6 ⊢
      generalize (belowF bs 2 s5).2 = s6 at *
      generalize (belowF bs 2 s5).1 = k6 at *
      obtain ⟨hd0, hd1⟩ := hr6
      obtain ⟨M, hM⟩ := Int.eq_ofNat_of_zero_le (show 0 ≤ 4000 + k6 by omega)
      have hMw : IntKind.i64.wrap (4000 + k6) = (M : Int) := by rw [← hM]; exact IntWalk.i64_in _ ⟨by omega, by omega⟩
      have hM1 : M ≤ 4001 := by omega
      have HL0 : Hid (Own 5 1 w6.heap.size w6 (.slice (some ⟨w6.heap.size, 0, none⟩) 0 0) 0 [] (w6.alloc (.cells #[] 5))) := Lib.hid (Own.lit (n := 0) (Below.refl _ _) (Nat.le_refl _) #[] (by simp) (by decide))
      go_wp2
      go_loopg [5] M (fun gg o wr2 => ∃ (k : Nat), k + gg = M ∧ Own 5 1 w6.heap.size w6 o k (u8s (List.replicate k 65)) wr2)
      case atStart => exact ⟨0, by omega, HL0.out⟩
      case round =>
        obtain ⟨k, hk, hO⟩ := hrel
        obtain ⟨av, cv, rfl, _, _⟩ := hO.shape
        by_cases hlt : k < M
        · have hi : (k : Int) < (M : Int) := by omega
          have HO := Lib.hid hO
          clear hO
          go_wp2_with (at_builtin; go_loud (refine wp_app1g rfl _ _ 47 rfl 5 (.int .u8 0) 1 1 Try.underlying47 info_u8 rfl (by decide) _ _ _ _ _ (by rfl) (by exact HO.out) _ _ (by rfl) (by rfl) (by intro u hu; simp at hu; first | (subst hu; rfl) | (rcases hu with rfl | rfl <;> rfl) | (rcases hu with rfl | rfl | rfl <;> rfl) | (rcases hu with rfl | rfl | rfl | rfl <;> rfl)) (by omega) (by unfold maxLen; omega) ?_); intro a7 c7 w7 hO7 hG7 hN7)
          have HO8 := Lib.hid hO7
          clear hO7 hG7 hN7
          go_roundg (gk - 1)
          case measure => omega
          case rel => exact ⟨k + 1, by omega, by rw [List.replicate_succ', u8s_append]; exact HO8.out⟩
        · have hi : ¬ (k : Int) < (M : Int) := by omega
          have HO := Lib.hid hO
          have HX7 := Lib.hid (HX6.out.low hO.below)
          have hcv := run_str (P := Try.prog) 47 9 5 Try.underlying47 Try.underlying5 Try.underlying9 HO.out.rd
          clear hO
          obtain ⟨t8, ht8, ht8s⟩ : ∃ t8 : ByteArray, t8 = ⟨(List.replicate k (65 : UInt8)).toArray⟩ ∧ t8.size ≤ 4001 := ⟨_, rfl, by simp [ByteArray.size]; omega⟩
          rw [← ht8] at hcv
          clear ht8 HO HX6 HL0
          have hv0 := HX7.out.tw.1.1
          have hv1 := HX7.out.tw.1.2
          have hvf := HX7.out.tw.2.2
          have hvl := HX7.out.tw.lt
          have HX8 := Lib.hid (HX7.out.text t8 ht8s)
          have hxl := HX8.out.tw.lt
          have hRl := HX8.out.rs.lt
          have x0 := HX8.out.tw.1.1
          have x1 := HX8.out.tw.1.2
          have hq0 := HX8.out.rs.1.1
          have hq1 := HX8.out.rs.1.2
          have hf0 := HX8.out.rs.2.1
          have hf1 := HX8.out.rs.2.2
          go_wp2
          refine bodyPost_ret (v := .agg #[.int .i64 z, .string t8]) (by simp [results, Try.results112, go_sem, hq0, hq1, hRl]) rfl ?_
          exact HX8.out.ret
end Go.Proofs.Ytbokgbbdjcpgbaa
