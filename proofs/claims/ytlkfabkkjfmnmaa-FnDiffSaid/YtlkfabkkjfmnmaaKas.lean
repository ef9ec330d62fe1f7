import Derived.Test.YtlkfabkkjfmnmaaKap
import Derived.Test.YtlkfabkkjfmnmaaKaq
import Derived.Test.YtlkfabkkjfmnmaaKar
namespace Go.Proofs.Ytlkfabkkjfmnmaa
open Go.RowKit
set_option linter.all false
theorem ret_l6Gone {Post : Ending → World → Prop} {a : Act} {wf : World} {R : Nat} {u0 : Int} {u1 : Value} (hc : Cs wf R [.int .i64 u0, u1]) (h2 : a.tmps[4]?.getD undef = .pointer (some ⟨R, 0, none⟩)) (hd : a.defers = [])
  (hp : Post (.returned (.agg #[.int .i64 u0, u1])) wf) : bodyPost Try.prog Try.f50 Post Exit.ret a wf := by
 obtain ⟨⟨r0, r1⟩, -⟩ := hc.two
 exact bodyPost_ret (v := .agg #[.int .i64 u0, u1]) (by simp [results, Try.results50, go_sem, h2, r0, r1]) hd hp
theorem filter_take {m : List InoP} {p : InoP → Bool} {j : Nat} (h : j < m.length) : (m.take (j + 1)).filter p = (m.take j).filter p ++ (if p m[j] = true then [m[j]] else []) := by
 rw [List.take_succ_eq_append_getElem h, List.filter_append]
 congr 1
 by_cases e : p m[j] = true
 ·rw [if_pos e, List.filter_cons_of_pos e]; rfl
 ·rw [if_neg e, List.filter_cons_of_neg e]; rfl
def GonePost (B : Nat) (next : Int) (m : List InoP) (w : World) (e : Ending) (w' : World) : Prop :=
 ∃ (a : Option Addr) (c : Nat), e = .returned (.agg #[.int .i64 next, .slice a m.length c]) ∧ VolOwn B w' a c m w' ∧ Below w.heap.size w w' ∧ ∀ q, (Value.slice a m.length c).ownBlock = some q → w.heap.size ≤ q
set_option maxRecDepth 1000000 in
set_option maxHeartbeats 6000000 in
theorem l6Gone_any (B : Nat) (W0 : World) (next : Int) (a : Option Addr) (cap : Nat) (m : List InoP) (id : Int) (w : World) (h : VolOwn B W0 a cap m w) (hml : m.length ≤ 100000) :
  Calls Try.prog 50 #[.agg #[.int .i64 next, .slice a m.length cap], .int .i64 id] w (GonePost B next (m.filter (fun y => !(y.x.id == id))) w) := by
 have hm := volP_room h.p
 have hBw := h.top.base
 have HR0 := Lib.hid ((cs_new w 37 #[.int .i64 next, .slice a m.length cap]).alloc (.cells #[.int .i64 0, .slice none 0 0] 37))
 have HR1 := Lib.hid (cs_new (w.alloc (.cells #[.int .i64 next, .slice a m.length cap] 37)) 37 #[.int .i64 0, .slice none 0 0])
 have hs1 : (w.alloc (.cells #[.int .i64 next, .slice a m.length cap] 37)).heap.size = w.heap.size + 1 := by simp
 have HLit := Lib.hid (Own.lit (e := 49) (size := 5) (n := 0) (Below.refl ((w.alloc (.cells #[.int .i64 next, .slice a m.length cap] 37)).alloc (.cells #[.int .i64 0, .slice none 0 0] 37)).heap.size _) (Nat.le_refl _) #[] rfl (by decide))
 have hs2 : ((w.alloc (.cells #[.int .i64 next, .slice a m.length cap] 37)).alloc (.cells #[.int .i64 0, .slice none 0 0] 37)).heap.size = w.heap.size + 2 := by simp
 have H := Lib.hid h
 rw [hs1] at HR1
 rw [hs2] at HLit
 clear h
 have hm16 : Hid (m.length ≤ 100000) := Lib.hid hml
 generalize hp : (fun y : InoP => !(y.x.id == id)) = p at *
 have HP := Lib.hid (fun y : InoP => congrFun hp y)
 have HW := Lib.hid (fun W (hW : Below (w.heap.size + 2) ((w.alloc (.cells #[.int .i64 next, .slice a m.length cap] 37)).alloc (.cells #[.int .i64 0, .slice none 0 0] 37)) W) => below_step1 ((boxA w (.cells #[.int .i64 next, .slice a m.length cap] 37)).alloc (by simp) (.cells #[.int .i64 0, .slice none 0 0] 37)) (hW.mono (by simp)))
 clear hp
 go_enter Try.func50, Try.ntmps50
 go_wp2
 generalize (w.alloc (.cells #[.int .i64 next, .slice a m.length cap] 37)).alloc (.cells #[.int .i64 0, .slice none 0 0] 37) = w2 at *
 go_loopg [5, 6] m.length (fun gg o i wr => ∃ (j : Nat) (a' : Option Addr) (c' : Nat), j + gg = m.length ∧ i = .int .i64 (j : Int) ∧ o = .slice a' ((m.take j).filter p).length c' ∧ Hid (Own 49 5 (w.heap.size + 2) w2 (.slice a' ((m.take j).filter p).length c') ((m.take j).filter p).length (ins ((m.take j).filter p)) wr))
 case atStart => exact ⟨0, _, _, by omega, rfl, rfl, HLit⟩
 case round =>
  obtain ⟨j, a', c', hj, rfl, rfl, HO⟩ := hrel
  have HBW := Lib.hid (HW.out _ HO.out.below)
  have HS : Hid (Cs wr w.heap.size [.int .i64 next, .slice a m.length cap] ∧ Cs wr (w.heap.size + 1) [.int .i64 0, .slice none 0 0]) := Lib.hid ⟨HR0.out.below (HO.out.below.mono (by omega)), HR1.out.below (HO.out.below.mono (by omega))⟩
  obtain ⟨⟨v0, v1⟩, fv0, fv1⟩ := HS.out.1.two
  have HV := Lib.hid (H.out.kept HBW.out)
  have hfl : ((m.take j).filter p).length ≤ j := Nat.le_trans (List.length_filter_le _ _) (by rw [List.length_take]; omega)
  have hjm : j ≤ m.length := by omega
  have hjx : m.length ≤ 100000 := hm16.out
  by_cases hlt : j < m.length
  ·obtain ⟨b, off, rfl, hbb, d0, d1, d2, d3, d4, -⟩ := volP_cells HV.out.p (List.getElem?_eq_getElem hlt)
   have hi : (j : Int) < (m.length : Int) := by omega
   have hi0 : (0 : Int) ≤ (j : Int) := by omega
   have HN := Lib.hid (filter_take (p := p) hlt)
   have HPJ := Lib.hid (HP.out m[j])
   have HIN : Hid (ins [m[j]] = in1 m[j]) := Lib.hid (by simp [ins])
   unfold in1 at HIN
   generalize m[j] = y at *
   obtain ⟨⟨y0, y1, y2, y3, y4⟩, yad, ycap⟩ := y
   try simp only at d0 d1 d2 d3 d4 HPJ HIN
   generalize y4.length = yn at *
   by_cases he : y0 = id
   ·have hne : (y0 != id) = false := by simp [he]
    have HN2 : Hid ((m.take (j + 1)).filter p = (m.take j).filter p) := Lib.hid (by rw [HN.out, ← HPJ.out, if_neg (by simp [he]), List.append_nil])
    clear he HN HPJ HIN
    go_wp2
    go_roundg (gk - 1)
    case measure => omega
    case rel => exact ⟨j + 1, a', c', by omega, by go_num, by rw [HN2.out], Lib.hid (by rw [HN2.out]; exact HO.out)⟩
   ·have hne : (y0 != id) = true := by simp [he]
    have HN2 : Hid (ins ((m.take (j + 1)).filter p) = ins ((m.take j).filter p) ++ [.int .i64 y0, .int .i64 y1, .int .i64 y2, .string y3, .slice yad yn ycap] ∧ ((m.take (j + 1)).filter p).length = ((m.take j).filter p).length + 1) := Lib.hid (by
     rw [HN.out, ← HPJ.out, if_pos (by simp [he]), ins_append, HIN.out]
     exact ⟨rfl, by rw [List.length_append]; rfl⟩)
    clear he HN HPJ HIN
    have HO2 := Lib.hid HO.out
    go_wp2_with (at_builtin; go_loud (refine wp_app1d rfl _ _ 35 rfl 49 (.agg #[.int .i64 0, .int .i64 0, .int .i64 0, .string ByteArray.empty, .slice none 0 0]) 5 64 Try.underlying35 info_ino rfl (by decide) _ _ _ _ _ (by rfl) (by exact HO2.out) _ _ _ (by rfl) (by first | rfl | simp) (by rfl) (by intro u hu; simp at hu; rcases hu with rfl | rfl | rfl | rfl | rfl <;> rfl) (by omega) (by unfold maxLen; omega) ?_); intro a9 c9 w9 hO9 hG9 hN9; have HO9 := Lib.hid hO9; clear hG9 hN9 hO9)
    go_roundg (gk - 1)
    case measure => omega
    case rel => exact ⟨j + 1, a9, c9, by omega, by go_num, by rw [HN2.out.2], Lib.hid (by rw [HN2.out.2, HN2.out.1]; exact HO9.out)⟩
  ·have hjl : j = m.length := by omega
   subst hjl
   have hT : m.take m.length = m := List.take_length
   rw [hT] at HO ⊢
   clear hT
   have HBL : Hid (∀ q, VolBl a' c' (m.filter p) q → q ≠ w.heap.size ∧ q ≠ w.heap.size + 1) := Lib.hid (fun q hq => by
    rcases hq with hq | ⟨z, hz, hq⟩
    ·have := (HO.out.blk q hq).1; omega
    ·have := ((H.out.sub z (List.mem_filter.1 hz).1).blk q hq).2; omega)
   have HF0 : Hid (VolOwn B wr a' c' (m.filter p) wr) := Lib.hid (HV.out.filter p ⟨row_down HO.out.row (by omega), Below.refl _ _, by have := HBW.out.size; omega⟩ (Nat.le_refl _))
   have f : ∀ {W : World} (b j : Nat) (u : Value), VolOwn B W a' c' (m.filter p) W → (∀ q, VolBl a' c' (m.filter p) q → q ≠ b) → VolOwn B (W.setCell ⟨b, j, none⟩ u) a' c' (m.filter p) (W.setCell ⟨b, j, none⟩ u) := fun b j u h hne => h.low (setCell_grown2 _ b j u) (fun q hq e => hne q hq (Option.some.inj e).symm)
   have HF := Lib.hid (f (w.heap.size + 1) 1 (.slice a' (m.filter p).length c') (f (w.heap.size + 1) 0 (.int .i64 next) (f w.heap.size 1 (.slice a' (m.filter p).length c') HF0.out (fun q hq => (HBL.out q hq).1)) (fun q hq => (HBL.out q hq).2)) (fun q hq => (HBL.out q hq).2))
   have HBF := Lib.hid (((HBW.out.setCell (p := ⟨w.heap.size, 1, none⟩) (Nat.le_refl _) (.slice a' (m.filter p).length c')).setCell (p := ⟨w.heap.size + 1, 0, none⟩) (Nat.le_succ _) (.int .i64 next)).setCell (p := ⟨w.heap.size + 1, 1, none⟩) (Nat.le_succ _) (.slice a' (m.filter p).length c'))
   have HRF := Lib.hid (((HS.out.2.far (g := w.heap.size) (j := 1) (u := .slice a' (m.filter p).length c') (by omega)).set 0 (.int .i64 next)).set 1 (.slice a' (m.filter p).length c'))
   obtain ⟨⟨r0, r1⟩, fr0, fr1⟩ := HS.out.2.two
   clear f
   go_wp2
   exact ret_l6Gone HRF.out (by rfl) (by rfl) ⟨a', c', rfl, HF.out, HBF.out, fun q hq => by have := (HO.out.blk q hq).1; omega⟩
theorem ret_l6Copy {Post : Ending → World → Prop} {a : Act} {wf : World} {R : Nat} {u0 : Int} {u1 : Value} (hc : Cs wf R [.int .i64 u0, u1]) (h2 : a.tmps[2]?.getD undef = .pointer (some ⟨R, 0, none⟩)) (hd : a.defers = [])
  (hp : Post (.returned (.agg #[.int .i64 u0, u1])) wf) : bodyPost Try.prog Try.f20 Post Exit.ret a wf := by
 obtain ⟨⟨r0, r1⟩, -⟩ := hc.two
 exact bodyPost_ret (v := .agg #[.int .i64 u0, u1]) (by simp [results, Try.results20, go_sem, h2, r0, r1]) hd hp
def CopyPost (next : Int) (m : List InoP) (w : World) (e : Ending) (w' : World) : Prop :=
 ∃ (a : Option Addr) (c : Nat) (m' : List InoP), e = .returned (.agg #[.int .i64 next, .slice a m.length c]) ∧ m'.length = m.length ∧ xs m' = xs m ∧ VolOwn w.heap.size w a c m' w'
set_option maxRecDepth 1000000 in
set_option maxHeartbeats 6000000 in
theorem l6Copy_any (next : Int) (a : Option Addr) (cap : Nat) (m : List InoP) (w : World) (h : VolP w a m.length cap m) (hml : m.length ≤ 100000) (hel : ∀ y ∈ m, y.x.ents.length ≤ 100000) :
  Calls Try.prog 20 #[.agg #[.int .i64 next, .slice a m.length cap]] w (CopyPost next m w) := by
 have hm := volP_room h
 have HM := Lib.hid hml
 have HEL := Lib.hid hel
 have H := Lib.hid h
 obtain ⟨V0, hV0⟩ : ∃ V0, V0 = (w.alloc (.cells #[.int .i64 next, .slice a m.length cap] 37)).alloc (.cells #[.int .i64 0, .slice none 0 0] 37) := ⟨_, rfl⟩
 have hs2 : V0.heap.size = w.heap.size + 2 := by rw [hV0]; simp
 have HB0 : Hid (Below w.heap.size w V0) := Lib.hid (by rw [hV0]; exact (boxA w (.cells #[.int .i64 next, .slice a m.length cap] 37)).alloc (by simp) (.cells #[.int .i64 0, .slice none 0 0] 37))
 have HA0 : Hid (Cs V0 w.heap.size [.int .i64 next, .slice a m.length cap]) := Lib.hid (by rw [hV0]; exact (cs_new w 37 #[.int .i64 next, .slice a m.length cap]).alloc (.cells #[.int .i64 0, .slice none 0 0] 37))
 have HR0 : Hid (Cs V0 (w.heap.size + 1) [.int .i64 0, .slice none 0 0]) := Lib.hid (by rw [hV0]; have := cs_new (w.alloc (.cells #[.int .i64 next, .slice a m.length cap] 37)) 37 #[.int .i64 0, .slice none 0 0]; simpa using this)
 have HX0 := Lib.hid (cs_new V0 37 #[.int .i64 next, .slice none 0 0])
 have HA1 := Lib.hid (HA0.out.alloc (.cells #[.int .i64 next, .slice none 0 0] 37))
 have HR1 := Lib.hid (HR0.out.alloc (.cells #[.int .i64 next, .slice none 0 0] 37))
 have HB1 := Lib.hid (HB0.out.alloc HB0.out.size (.cells #[.int .i64 next, .slice none 0 0] 37))
 have hs3 : (V0.alloc (.cells #[.int .i64 next, .slice none 0 0] 37)).heap.size = w.heap.size + 3 := by simp [hs2]
 rw [hs2] at HX0
 clear h hml hel HA0 HR0
 go_enter Try.func20, Try.ntmps20
 go_wp2
 rw [← hV0]
 generalize V0.alloc (.cells #[.int .i64 next, .slice none 0 0] 37) = V1 at *
 go_loopg [4] m.length (fun gg i wr => ∃ (k : Nat) (g : Option Addr) (c : Nat) (m' : List InoP), k + gg = m.length ∧ i = .int .i64 (k : Int) ∧ Hid (m'.length = k ∧ xs m' = (xs m).take k) ∧ Hid (VolOwn (w.heap.size + 3) wr g c m' wr) ∧ Hid (Cs wr (w.heap.size + 2) [.int .i64 next, .slice g k c]) ∧ Hid (Cs wr (w.heap.size + 1) [.int .i64 0, .slice none 0 0]) ∧ Hid (Cs wr w.heap.size [.int .i64 next, .slice a m.length cap]) ∧ Hid (Below w.heap.size w wr))
 case atStart => exact ⟨0, none, 0, [], by omega, rfl, Lib.hid ⟨rfl, rfl⟩, Lib.hid (vol_none _ _ _ (Below.refl _ _) (by omega)), HX0, HR1, HA1, HB1⟩
 case round =>
  clear HX0 HR1 HA1 HB1 HB0
  obtain ⟨k, g, c, m', hk, rfl, HL, HV, HX, HR, HA, HB⟩ := hrel
  have hzw : w.heap.size + 3 ≤ wr.heap.size := HV.out.top.base
  have hmx := HM.out
  obtain ⟨⟨v0, v1⟩, fv0, fv1⟩ := HA.out.two
  obtain ⟨⟨x0, x1⟩, fx0, fx1⟩ := HX.out.two
  by_cases hlt : k < m.length
  ·obtain ⟨b, off, rfl, hbb, d0, d1, d2, d3, d4, hrd⟩ := volP_cells (H.out.step HB.out) (List.getElem?_eq_getElem hlt)
   have hi : (k : Int) < (m.length : Int) := by omega
   have hi0 : (0 : Int) ≤ (k : Int) := by omega
   have hey := HEL.out m[k] (List.getElem_mem hlt)
   have HTK : Hid ((xs m).take (k + 1) = (xs m).take k ++ [m[k].x]) := Lib.hid (by rw [List.take_succ_eq_append_getElem (by rw [xs_len]; exact hlt), xs_get m k hlt])
   generalize m[k] = y at *
   obtain ⟨⟨y0, y1, y2, y3, y4⟩, yad, ycap⟩ := y
   try simp only at d0 d1 d2 d3 d4 hrd hey HTK
   have HI := Lib.hid (cs_new wr 49 #[.int .i64 y0, .int .i64 y1, .int .i64 y2, .string y3, .slice yad y4.length ycap])
   have HBX := Lib.hid (boxA wr (.cells #[.int .i64 y0, .int .i64 y1, .int .i64 y2, .string y3, .slice yad y4.length ycap] 49))
   have HRD := Lib.hid (hrd.below HBX.out (Nat.le_refl _))
   clear hrd
   go_wp2_with fail
   generalize hw1 : wr.alloc (.cells #[.int .i64 y0, .int .i64 y1, .int .i64 y2, .string y3, .slice yad y4.length ycap] 49) = wr1 at *
   have hzr : wr1.heap.size = wr.heap.size + 1 := by rw [← hw1]; simp
   clear hw1
   refine (l5Copy_any yad ycap y4 _ HRD.out (by omega)).mono ?_
   rintro e w5 ⟨g5, c5, rfl, hO⟩
   have HBW := Lib.hid (below_step1 HBX.out hO.below)
   have HI5 := Lib.hid (HI.out.below hO.below)
   have HX5 := Lib.hid (HX.out.below HBW.out)
   have HR5 := Lib.hid (HR.out.below HBW.out)
   have HA5 := Lib.hid (HA.out.below HBW.out)
   have HV5 := Lib.hid (HV.out.kept HBW.out)
   have HB5 := Lib.hid (below_step1 HB.out HBW.out)
   have HO5 := Lib.hid hO
   have hz5 : wr.heap.size < w5.heap.size := HI5.out.lt
   have HBL := Lib.hid (fun q hq => HV.out.bl q hq)
   clear hO HI HBX HX HR HA HV HB HRD x0 x1 fx0 fx1 v0 v1 fv0 fv1 d0 d1 d2 d3 d4
   obtain ⟨⟨i0, i1, i2, i3, i4⟩, fi0, fi1, fi2, fi3, fi4⟩ := HI5.out.five
   obtain ⟨⟨x0, x1⟩, fx0, fx1⟩ := HX5.out.two
   have hXZ : w.heap.size + 2 < wr.heap.size := by omega
   have hX5 : w.heap.size + 2 < w5.heap.size := by omega
   have HV6 := Lib.hid (HV5.out.low (setCell_grown2 w5 wr.heap.size 4 (.slice g5 y4.length c5)) (fun q hq e => by have := (HBL.out q hq).2; have := Option.some.inj e; omega))
   have HO6 : Hid (Own 63 4 (w.heap.size + 3) (w5.setCell ⟨wr.heap.size, 4, none⟩ (.slice g5 y4.length c5)) (.slice g5 y4.length c5) y4.length (ens y4) (w5.setCell ⟨wr.heap.size, 4, none⟩ (.slice g5 y4.length c5))) := Lib.hid (by
    have h := HO5.out.otherLow (setCell_grown2 w5 wr.heap.size 4 (.slice g5 y4.length c5)) (fun q hq e => by have := (HO5.out.blk q hq).1; have := Option.some.inj e; omega)
    exact ⟨row_down h.row (by omega), Below.refl _ _, by have := h.base; omega⟩)
   have HX6 := Lib.hid (HX5.out.far (g := wr.heap.size) (j := 4) (u := .slice g5 y4.length c5) (by omega))
   have HR6 := Lib.hid (HR5.out.far (g := wr.heap.size) (j := 4) (u := .slice g5 y4.length c5) (by omega))
   have HA6 := Lib.hid (HA5.out.far (g := wr.heap.size) (j := 4) (u := .slice g5 y4.length c5) (by omega))
   have HB6 := Lib.hid (HB5.out.setCell (p := ⟨wr.heap.size, 4, none⟩) (by dsimp only; omega) (.slice g5 y4.length c5))
   have HT6 : Hid (Own 49 5 (w.heap.size + 3) (w5.setCell ⟨wr.heap.size, 4, none⟩ (.slice g5 y4.length c5)) (.slice g k c) k (ins m') (w5.setCell ⟨wr.heap.size, 4, none⟩ (.slice g5 y4.length c5))) := Lib.hid (by have h := HV6.out.top; rw [HL.out.1] at h; exact h)
   have HOB : Hid (∀ q, (Value.slice g k c).ownBlock = some q → w.heap.size + 3 ≤ q ∧ q < wr.heap.size) := Lib.hid (fun q hq => HBL.out q (.inl (by rw [HL.out.1]; exact hq)))
   have HNX : Hid (∀ W a9 c9, Own 49 5 (w.heap.size + 3) (w5.setCell ⟨wr.heap.size, 4, none⟩ (.slice g5 y4.length c5)) (.slice a9 (k + 1) c9) (k + 1) (ins m' ++ #[.int .i64 y0, .int .i64 y1, .int .i64 y2, .string y3, .slice g5 y4.length c5].toList) W → (w5.setCell ⟨wr.heap.size, 4, none⟩ (.slice g5 y4.length c5)).grownBy W (Value.slice g k c).ownBlock →
     Cs W (w.heap.size + 2) [.int .i64 next, .slice g k c] ∧ Cs W (w.heap.size + 1) [.int .i64 0, .slice none 0 0] ∧ Cs W w.heap.size [.int .i64 next, .slice (some ⟨b, off, none⟩) m.length cap] ∧ Below w.heap.size w W ∧ VolOwn (w.heap.size + 3) (w5.setCell ⟨wr.heap.size, 4, none⟩ (.slice g5 y4.length c5)) a9 c9 (m' ++ [⟨⟨y0, y1, y2, y3, y4⟩, g5, c5⟩]) W) := Lib.hid (fun W a9 c9 ho hg => ⟨HX6.out.grown hg (fun e => by have := (HOB.out _ e).1; omega), HR6.out.grown hg (fun e => by have := (HOB.out _ e).1; omega), HA6.out.grown hg (fun e => by have := (HOB.out _ e).1; omega), HB6.out.grown hg HB6.out.size (fun q hq => by have := (HOB.out q hq).1; omega), by
      refine VolOwn.app HV6.out ⟨⟨y0, y1, y2, y3, y4⟩, g5, c5⟩ ?_ ?_ ?_ ?_
      ·exact HO6.out.other hg (fun q hq => (HOB.out q hq).1) (fun q hq e => by have h1 := (HOB.out q e).2; have h2 := (HO5.out.blk q hq).1; omega)
      ·rw [HL.out.1]; exact ho
      ·rw [HL.out.1]; exact hg
      ·intro z hz q hq e
       have h1 := (HBL.out q (.inr ⟨z, hz, hq⟩)).2
       have h2 := (HO5.out.blk q e).1
       omega⟩)
   clear HV6 HO6 HX6 HR6 HA6 HB6
   go_wp2_with (at_builtin; go_loud (refine wp_app1d rfl _ _ 35 rfl 49 (.agg #[.int .i64 0, .int .i64 0, .int .i64 0, .string ByteArray.empty, .slice none 0 0]) 5 64 Try.underlying35 info_ino rfl (by decide) _ _ _ _ _ (by rfl) (by exact HT6.out) _ _ _ (by rfl) (by first | rfl | simp) (by rfl) (by intro u hu; simp at hu; rcases hu with rfl | rfl | rfl | rfl | rfl <;> rfl) (by omega) (by unfold maxLen; omega) ?_); intro a9 c9 w9 hO9 hG9 hN9; have HQ := Lib.hid (HNX.out _ _ _ hO9 hG9); obtain ⟨⟨q0, q1⟩, g0, g1⟩ := HQ.out.1.two; have hzT := HQ.out.1.lt; clear hG9 hN9 hO9)
   go_roundg (gk - 1)
   case measure => omega
   case rel =>
    refine ⟨k + 1, _, _, m' ++ [⟨⟨y0, y1, y2, y3, y4⟩, g5, c5⟩], by omega, by go_num, Lib.hid ⟨by rw [List.length_append, HL.out.1]; rfl, by rw [HTK.out, ← HL.out.2]; unfold xs; rw [List.map_append]; rfl⟩, Lib.hid (HQ.out.2.2.2.2.low (setCell_grown2 _ (w.heap.size + 2) 1 _) (fun q hq e => by have := (HQ.out.2.2.2.2.bl q hq).1; have := Option.some.inj e; omega)), Lib.hid (HQ.out.1.set 1 _), Lib.hid (HQ.out.2.1.far (by omega)), Lib.hid (HQ.out.2.2.1.far (by omega)), Lib.hid (HQ.out.2.2.2.1.setCell (by dsimp only; omega) _)⟩
  ·have hkl : k = m.length := by omega
   subst hkl
   obtain ⟨⟨r0, r1⟩, fr0, fr1⟩ := HR.out.two
   have HLM : Hid (m'.length = m.length ∧ xs m' = xs m) := Lib.hid ⟨HL.out.1, by rw [HL.out.2, List.take_of_length_le (by rw [xs_len]; omega)]⟩
   have HRF := Lib.hid ((HR.out.set 0 (.int .i64 next)).set 1 (.slice g m.length c))
   have HF := Lib.hid (volOwn_row (B' := w.heap.size) (W1 := w) (HV.out.res2l (w.heap.size + 1) (fun q hq => by have := (HV.out.bl q hq).1; omega) (.int .i64 next) (.slice g m.length c)) (by omega) (below_res2 HB.out (w.heap.size + 1) (by omega) _ _) (by simp [World.setCell]; omega))
   clear HL HX HA
   go_wp2
   exact ret_l6Copy HRF.out (by rfl) (by rfl) ⟨g, c, m', rfl, HLM.out.1, HLM.out.2, HF.out⟩
theorem ins_same (m : List InoP) (k : Nat) (y : InoP) (hy : m[k]? = some y) (j : Nat) (hj : j < 5) (u : Value) (hu : (in1 y)[j]? = some u) : (ins m).set (k * 5 + j) u = ins m := by
 obtain ⟨hk, rfl⟩ := List.getElem?_eq_some_iff.1 hy
 obtain ⟨h1, rfl⟩ := List.getElem?_eq_some_iff.1 hu
 have hl : k * 5 + j < (ins m).length := by simp; omega
 rw [← ins_get m k hk j hj, List.set_getElem_self]
theorem ins_setL (m : List InoP) (k : Nat) (y : InoP) (hy : m[k]? = some y) (z : Int) : (ins m).set (k * 5 + 2) (.int .i64 z) = ins (m.set k ⟨{ y.x with links := z }, y.ad, y.cap⟩) := by
 have hk := (List.getElem?_eq_some_iff.1 hy).1
 rw [← ins_set m k hk ⟨{ y.x with links := z }, y.ad, y.cap⟩]
 have e0 : (ins m).set (k * 5) (.int .i64 y.x.id) = ins m := ins_same m k y hy 0 (by omega) _ rfl
 have e1 : (ins m).set (k * 5 + 1) (.int .i64 y.x.kind) = ins m := ins_same m k y hy 1 (by omega) _ rfl
 have e3 : (ins m).set (k * 5 + 3) (.string y.x.data) = ins m := ins_same m k y hy 3 (by omega) _ rfl
 have e4 : (ins m).set (k * 5 + 4) (.slice y.ad y.x.ents.length y.cap) = ins m := ins_same m k y hy 4 (by omega) _ rfl
 simp only [e0, e1]
 rw [List.set_comm _ _ (show k * 5 + 2 ≠ k * 5 + 3 by omega), e3, List.set_comm _ _ (show k * 5 + 2 ≠ k * 5 + 4 by omega), e4]
theorem ins_setD (m : List InoP) (k : Nat) (y : InoP) (hy : m[k]? = some y) (s : ByteArray) : (ins m).set (k * 5 + 3) (.string s) = ins (m.set k ⟨{ y.x with data := s }, y.ad, y.cap⟩) := by
 have hk := (List.getElem?_eq_some_iff.1 hy).1
 rw [← ins_set m k hk ⟨{ y.x with data := s }, y.ad, y.cap⟩]
 have e0 : (ins m).set (k * 5) (.int .i64 y.x.id) = ins m := ins_same m k y hy 0 (by omega) _ rfl
 have e1 : (ins m).set (k * 5 + 1) (.int .i64 y.x.kind) = ins m := ins_same m k y hy 1 (by omega) _ rfl
 have e2 : (ins m).set (k * 5 + 2) (.int .i64 y.x.links) = ins m := ins_same m k y hy 2 (by omega) _ rfl
 have e4 : (ins m).set (k * 5 + 4) (.slice y.ad y.x.ents.length y.cap) = ins m := ins_same m k y hy 4 (by omega) _ rfl
 simp only [e0, e1, e2]
 rw [List.set_comm _ _ (show k * 5 + 3 ≠ k * 5 + 4 by omega), e4]
theorem VolOwn.field {B : Nat} {W0 w : World} {g cap : Nat} {m : List InoP} (h : VolOwn B W0 (some ⟨g, 0, none⟩) cap m w) (k : Nat) (y y' : InoP) (hy : m[k]? = some y) (j : Nat) (u : Value) (he : y'.x.ents = y.x.ents) (ha : y'.ad = y.ad) (hc : y'.cap = y.cap) (hs : (ins m).set j u = ins (m.set k y')) :
  VolOwn B W0 (some ⟨g, 0, none⟩) cap (m.set k y') (w.setCell ⟨g, j, none⟩ u) := by
 have hg := setCell_grown2 w g j u
 have hmem : y ∈ m := List.mem_of_getElem? hy
 refine VolOwn.put h k y' ?_ hg ?_ ?_
 ·rw [← hs]; exact h.top.set j u
 ·rw [ha, hc, he]
  exact (h.sub y hmem).other hg (fun q hq => by cases hq; exact (h.top.blk g rfl).1) (fun q hq e => h.side y hmem q hq e)
 ·intro i hi hne q hq
  have := apart1_same h k hy i hi hne q hq
  unfold InoP.blk
  rw [ha, hc, he]
  exact this
def LessPost (B : Nat) (W0 : World) (next : Int) (m : List InoP) (k : Nat) (y : InoP) (g : Nat) (w : World) (e : Ending) (w' : World) : Prop :=
 ∃ (a : Option Addr) (c : Nat) (m' : List InoP), e = .returned (.agg #[.int .i64 next, .slice a m'.length c]) ∧ VolOwn B W0 a c m' w' ∧ w.grownBy w' (some g) ∧
  ((y.x.links + -1 ≠ 0 ∧ xs m' = (xs m).set k { y.x with links := y.x.links + -1 }) ∨ (y.x.links + -1 = 0 ∧ xs m' = ((xs m).set k { y.x with links := y.x.links + -1 }).filter (fun x => !(x.id == y.x.id))))
theorem ret_l6Less {Post : Ending → World → Prop} {a : Act} {wf : World} {R : Nat} {u0 : Int} {u1 : Value} (hc : Cs wf R [.int .i64 u0, u1]) (h2 : a.tmps[4]?.getD undef = .pointer (some ⟨R, 0, none⟩)) (hd : a.defers = [])
  (hp : Post (.returned (.agg #[.int .i64 u0, u1])) wf) : bodyPost Try.prog Try.f41 Post Exit.ret a wf := by
 obtain ⟨⟨r0, r1⟩, -⟩ := hc.two
 exact bodyPost_ret (v := .agg #[.int .i64 u0, u1]) (by simp [results, Try.results41, go_sem, h2, r0, r1]) hd hp
set_option maxRecDepth 1000000 in
set_option maxHeartbeats 6000000 in
theorem l6Less_any (B : Nat) (W0 : World) (next : Int) (g cap : Nat) (m : List InoP) (k : Nat) (y : InoP) (w : World) (h : VolOwn B W0 (some ⟨g, 0, none⟩) cap m w) (hy : m[k]? = some y) (hat : atF (xs m) y.x.id = (k : Int)) (hml : m.length ≤ 100000) (hl0 : -1000000 ≤ y.x.links) (hl1 : y.x.links ≤ 1000000) :
  Calls Try.prog 41 #[.agg #[.int .i64 next, .slice (some ⟨g, 0, none⟩) m.length cap], .int .i64 y.x.id] w (LessPost B W0 next m k y g w) := by
 have hkl : k < m.length := (List.getElem?_eq_some_iff.1 hy).1
 have hm := volP_room h.p
 have hgB := (h.top.blk g rfl)
 have hBw := h.top.base
 have HAT : Hid (∀ W, Below w.heap.size w W → Calls Try.prog 25 #[.agg #[.int .i64 next, .slice (some ⟨g, 0, none⟩) m.length cap], .int .i64 y.x.id] W fun e w' => e = .returned (.int .i64 (k : Int)) ∧ Below W.heap.size W w') := Lib.hid (fun W hW => by rw [← hat]; exact l6At_any next (some ⟨g, 0, none⟩) m.length cap (xs m) y.x.id W (h.kept hW).p.rd)
 obtain ⟨m2, hm2⟩ : ∃ m2, m2 = m.set k ⟨{ y.x with links := y.x.links + -1 }, y.ad, y.cap⟩ := ⟨_, rfl⟩
 have HLN : Hid (m2.length = m.length) := Lib.hid (by rw [hm2, List.length_set])
 have HXS : Hid (xs m2 = (xs m).set k { y.x with links := y.x.links + -1 }) := Lib.hid (by rw [hm2, xs_set])
 have HFIN : Hid (∀ W, Below w.heap.size w W → VolOwn B W0 (some ⟨g, 0, none⟩) cap m2 (W.setCell ⟨g, k * 5 + 2, none⟩ (.int .i64 (y.x.links + -1)))) := Lib.hid (fun W hW => by
  rw [hm2]
  exact (h.kept hW).field k y ⟨{ y.x with links := y.x.links + -1 }, y.ad, y.cap⟩ hy (k * 5 + 2) _ rfl rfl rfl (ins_setL m k y hy _))
 have HGN : Hid (∀ W, VolOwn B W0 (some ⟨g, 0, none⟩) cap m2 W → Calls Try.prog 50 #[.agg #[.int .i64 next, .slice (some ⟨g, 0, none⟩) m.length cap], .int .i64 y.x.id] W (GonePost B next (m2.filter (fun z => !(z.x.id == y.x.id))) W)) := Lib.hid (fun W hW => by
  rw [← HLN.out]
  exact l6Gone_any B W0 next _ cap m2 y.x.id W hW (by rw [HLN.out]; exact hml))
 have HXF : Hid (xs (m2.filter (fun z => !(z.x.id == y.x.id))) = (xs m2).filter (fun x => !(x.id == y.x.id))) := Lib.hid (xs_filter m2 (fun x => !(x.id == y.x.id)))
 have HBLK : Hid (∀ q, VolBl (some ⟨g, 0, none⟩) cap m2 q → q < w.heap.size) := Lib.hid (fun q hq => by
  rw [hm2] at hq
  rcases volBl_set hq with hq | hq
  ·exact (h.bl q hq).2
  ·exact ((h.sub y (List.mem_of_getElem? hy)).blk q hq).2)
 have HFR : Hid (∀ W, Below w.heap.size w W → W.cell? ⟨g, k * 5 + 2, none⟩ = some (.int .i64 y.x.links) ∧ W.frozen? ⟨g, k * 5 + 2, none⟩ = false ∧ g < W.heap.size) := Lib.hid (fun W hW => by
  have hv := h.kept hW
  obtain ⟨b, off, e, _, _, _, d2, _⟩ := volP_cells hv.p hy
  cases e
  refine ⟨by simpa using d2, hv.top.free _, ((hv.top.blk g rfl).2)⟩)
 have hi : (k : Int) < (m.length : Int) := by omega
 have hi0 : (0 : Int) ≤ (k : Int) := by omega
 unfold LessPost
 have HPOST := Lib.hid (fun (W : World) (m' : List InoP) (a : Option Addr) (c : Nat) (hv : VolOwn B W0 a c m' W) (hgr : w.grownBy W (some g)) (hx : (y.x.links + -1 ≠ 0 ∧ xs m' = (xs m).set k { y.x with links := y.x.links + -1 }) ∨ (y.x.links + -1 = 0 ∧ xs m' = ((xs m).set k { y.x with links := y.x.links + -1 }).filter (fun x => !(x.id == y.x.id)))) => (show LessPost B W0 next m k y g w (.returned (.agg #[.int .i64 next, .slice a m'.length c])) W from ⟨a, c, m', rfl, hv, hgr, hx⟩))
 change Calls Try.prog 41 #[.agg #[.int .i64 next, .slice (some ⟨g, 0, none⟩) m.length cap], .int .i64 y.x.id] w (LessPost B W0 next m k y g w)
 clear hat h
 obtain ⟨lk, hlk⟩ : ∃ lk, lk = y.x.links := ⟨_, rfl⟩
 rw [← hlk] at HFIN HFR HXS hl0 hl1
 have HLK := Lib.hid hlk
 have hwr : IntKind.i64.wrap (lk - 1) = lk + -1 := by rw [IntWalk.i64_in _ ⟨by omega, by omega⟩]; omega
 clear hlk hm2 hy
 generalize y.x.id = id at *
 generalize hnn : m.length = n at *
 have HR0 := Lib.hid ((cs_new w 37 #[.int .i64 next, .slice (some ⟨g, 0, none⟩) n cap]).alloc (.cells #[.int .i64 0, .slice none 0 0] 37))
 have HR1 := Lib.hid (cs_new (w.alloc (.cells #[.int .i64 next, .slice (some ⟨g, 0, none⟩) n cap] 37)) 37 #[.int .i64 0, .slice none 0 0])
 have HB := Lib.hid ((boxA w (.cells #[.int .i64 next, .slice (some ⟨g, 0, none⟩) n cap] 37)).alloc (by simp) (.cells #[.int .i64 0, .slice none 0 0] 37))
 have hs1 : (w.alloc (.cells #[.int .i64 next, .slice (some ⟨g, 0, none⟩) n cap] 37)).heap.size = w.heap.size + 1 := by simp
 rw [hs1] at HR1
 go_enter Try.func41, Try.ntmps41
 go_wp2_with fail
 generalize (w.alloc (.cells #[.int .i64 next, .slice (some ⟨g, 0, none⟩) n cap] 37)).alloc (.cells #[.int .i64 0, .slice none 0 0] 37) = w1 at *
 refine (HAT.out _ HB.out).mono ?_
 rintro e w2 ⟨rfl, hb⟩
 have hgw := hgB.2
 have hne0 : w.heap.size ≠ g := by omega
 have hne1 : w.heap.size + 1 ≠ g := by omega
 have HB2 := Lib.hid (below_step1 HB.out hb)
 have HV2 := Lib.hid (HR0.out.below hb)
 have HR2 := Lib.hid (HR1.out.below hb)
 clear hb HR0 HR1 HB
 obtain ⟨⟨v0, v1⟩, fv0, fv1⟩ := HV2.out.two
 obtain ⟨hl2, hf2, hg2⟩ := HFR.out _ HB2.out
 go_wp2
 go_region
 have HV3 := Lib.hid (HFIN.out _ HB2.out).drew
 have HG3 : Hid (w.grownBy (w2.setCell ⟨g, k * 5 + 2, none⟩ (.int .i64 (lk + -1))).drew (some g)) := Lib.hid (grown_drew (grown_trans (grown_of_below (some g) HB2.out) (setCell_grown2 w2 g (k * 5 + 2) (.int .i64 (lk + -1))) (fun q hq => .inl hq)))
 have HX3 : Hid (Cs (w2.setCell ⟨g, k * 5 + 2, none⟩ (.int .i64 (lk + -1))).drew w.heap.size [.int .i64 next, .slice (some ⟨g, 0, none⟩) n cap]) := Lib.hid ((HV2.out.far hne0).drew)
 have HR3 : Hid (Cs (w2.setCell ⟨g, k * 5 + 2, none⟩ (.int .i64 (lk + -1))).drew (w.heap.size + 1) [.int .i64 0, .slice none 0 0]) := Lib.hid ((HR2.out.far hne1).drew)
 have hl3 : (w2.setCell ⟨g, k * 5 + 2, none⟩ (.int .i64 (lk + -1))).drew.cell? ⟨g, k * 5 + 2, none⟩ = some (.int .i64 (lk + -1)) := by go_simp
 clear v0 v1 fv0 fv1 hl2 hf2 HV2 HR2
 generalize (w2.setCell ⟨g, k * 5 + 2, none⟩ (.int .i64 (lk + -1))).drew = w3 at *
 obtain ⟨⟨v0, v1⟩, fv0, fv1⟩ := HX3.out.two
 obtain ⟨⟨r0, r1⟩, fr0, fr1⟩ := HR3.out.two
 by_cases hz : lk + -1 = 0
 ·have hz2 : (lk + -1 == 0) = true := by simp [hz]
  have HZ := Lib.hid hz
  clear hz
  go_wp2_with fail
  refine (HGN.out _ HV3.out).mono ?_
  rintro e w4 ⟨a', c', rfl, hv, hb, hq⟩
  have HR4 := Lib.hid (HR3.out.below hb)
  have hz3 := HR3.out.lt
  have hz4 := hb.size
  have HBL : Hid (∀ q, VolBl a' c' (m2.filter (fun z => !(z.x.id == id))) q → q ≠ w.heap.size + 1) := Lib.hid (fun q hq2 => by
   rcases hq2 with hq2 | ⟨z, hz, hq2⟩
   ·have := hq q hq2; omega
   ·have := HBLK.out q (.inr ⟨z, (List.mem_filter.1 hz).1, hq2⟩); omega)
  have HBW : Hid (Below B W0 w4) := Lib.hid (HV3.out.below.trans (hb.mono HV3.out.top.base))
  have HRF := Lib.hid ((HR4.out.set 0 (.int .i64 next)).set 1 (.slice a' (m2.filter (fun z => !(z.x.id == id))).length c'))
  have HVF := Lib.hid (volOwn_row (W1 := W0) (hv.res2l (w.heap.size + 1) HBL.out (.int .i64 next) (.slice a' (m2.filter (fun z => !(z.x.id == id))).length c')) (Nat.le_refl _) (below_res2 HBW.out (w.heap.size + 1) (by omega) _ _) (by simp [World.setCell]; omega))
  have HPF := Lib.hid (HPOST.out _ (m2.filter (fun z => !(z.x.id == id))) _ _ HVF.out (grown_res2 (grown_trans HG3.out (grown_of_below none hb) (fun q hq => by cases hq)) (w.heap.size + 1) (by omega) _ _) (.inr ⟨by rw [← HLK.out]; exact HZ.out, by rw [HXF.out, ← HLK.out, HXS.out]⟩))
  obtain ⟨⟨r0, r1⟩, fr0, fr1⟩ := HR4.out.two
  clear hq hb hv HZ HVF HBL HXF HGN
  generalize (m2.filter (fun z => !(z.x.id == id))).length = nf at *
  go_wp2
  exact ret_l6Less HRF.out (by rfl) (by rfl) HPF.out
 ·have hz2 : (lk + -1 == 0) = false := by simp [hz]
  have HZ := Lib.hid hz
  clear hz
  have HRF := Lib.hid ((HR3.out.set 0 (.int .i64 next)).set 1 (.slice (some ⟨g, 0, none⟩) n cap))
  have HVF := Lib.hid (HV3.out.res2 (w.heap.size + 1) (by omega) (fun q hq => by have := HBLK.out q hq; omega) (.int .i64 next) (.slice (some ⟨g, 0, none⟩) n cap))
  go_wp2
  refine ret_l6Less HRF.out (by rfl) (by rfl) ?_
  have := HPOST.out _ m2 _ _ HVF.out (grown_res2 HG3.out (w.heap.size + 1) (by omega) _ _) (.inl ⟨by rw [← HLK.out]; exact HZ.out, by rw [← HLK.out]; exact HXS.out⟩)
  rw [HLN.out] at this
  exact this
end Go.Proofs.Ytlkfabkkjfmnmaa
