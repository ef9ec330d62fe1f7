/- One text of VolAt VolI VolJ. (Printed by merge.py.) -/
import Derived.Test.YtlkfabkkjfmnmaaGreatDoorVolT
import Derived.Deep.DeepCutAuto
import Derived.Test.YtlkfabkkjfmnmaaGreatDoorDirS
namespace Go.Proofs.YtlkfabkkjfmnmaaGreatDoor
open Go.RowKit

theorem box2 (w : World) (e : TypeId) (u0 u1 : Value) : (w.alloc (.cells #[u0, u1] e)).cell? ⟨w.heap.size, 0, none⟩ = some u0 ∧ (w.alloc (.cells #[u0, u1] e)).cell? ⟨w.heap.size, 1, none⟩ = some u1 := by
  go_simp
theorem cntE_mono (es : List EntL) (id : Int) (k : Nat) : cntE (es.take k) id ≤ cntE es id := by
  unfold cntE
  exact (List.take_sublist k es).countP_le
theorem linksF_mono (l : List InoL) (id : Int) (k : Nat) : linksF (l.take k) id ≤ linksF l id := by
  have h : linksF l id = linksF (l.take k) id + linksF (l.drop k) id := by
    unfold linksF
    rw [← List.sum_append, ← List.map_append, List.take_append_drop]
  omega
set_option maxRecDepth 1000000 in
set_option maxHeartbeats 6000000 in
theorem at1_any (x : InoL) (ad : Option Addr) (c : Nat) (g : Nat) (id : Int) (w : World) (hg : w.cell? ⟨g, 0, none⟩ = some (.int .i64 id)) :
    Calls Tryz.prog 116 #[.agg #[.int .i64 x.id, .int .i64 x.kind, .int .i64 x.links, .string x.data, .slice ad x.ents.length c], .pointer (some ⟨g, 0, none⟩)] w fun e w' => e = .returned (.bool (x.id == id)) ∧ Below w.heap.size w w' := by
  have HB := Lib.hid (boxA w (.cells #[.int .i64 x.id, .int .i64 x.kind, .int .i64 x.links, .string x.data, .slice ad x.ents.length c] 45))
  have g1 := cellK hg HB.out
  have hgl : g < w.heap.size := World.block_lt_of_cell? w _ hg
  go_enter Tryz.func116, Tryz.ntmps116
  go_wp2
  go_ret
  exact ⟨rfl, HB.out⟩
set_option maxRecDepth 1000000 in
set_option maxHeartbeats 6000000 in
theorem idxA_any (a : Option Addr) (n cap : Nat) (l : List InoL) (g : Nat) (id : Int) (w : World) (hr : VolRd w a n cap l) (hg : w.cell? ⟨g, 0, none⟩ = some (.int .i64 id)) :
    Calls Tryz.prog 87 #[.slice a n cap, .func (.func 116) #[] #[.pointer (some ⟨g, 0, none⟩)]] w fun e w' => ∃ r, e = .returned (.int .i64 r) ∧ r = atF l id ∧ Below w.heap.size w w' := by
  have hl : l.length = n := hr.len
  subst hl
  have hm := hr.room
  have H := Lib.hid hr
  clear hr
  have HG := Lib.hid hg
  clear hg
  go_enter Tryz.func87, Tryz.ntmps87
  go_wp2
  go_loopg [8] l.length (fun gg i wr => ∃ m : Nat, m + gg = l.length ∧ i = .int .i64 (m : Int) ∧ Hid (∀ j (hj : j < m) (hl : j < l.length), (l[j].id == id) = false) ∧ Hid (Below w.heap.size w wr))
  case atStart => exact ⟨0, by omega, rfl, Lib.hid (fun j hj => by omega), Lib.hid (Below.refl _ _)⟩
  case round =>
    obtain ⟨m, hm2, rfl, HM, HB2⟩ := hrel
    by_cases hlt : m < l.length
    · obtain ⟨b, off, ad, c, rfl, hbs, d0, d1, d2, d3, d4, hrd⟩ := vol_cells (H.out.step HB2.out) m hlt
      have HH : Hid ((l[m].id == id) = true → (m : Int) = atF l id) := Lib.hid (fun e => (atF_hit l id m hlt (by simpa using e) (fun j hj => by have := HM.out j hj (by omega); simpa using this)).symm)
      have HN : Hid ((l[m].id == id) = false → ∀ j (hj : j < m + 1) (hl : j < l.length), (l[j].id == id) = false) := Lib.hid (fun e j hj hl => by
        by_cases h : j = m
        · subst h; exact e
        · exact HM.out j (by omega) hl)
      have hi : (m : Int) < (l.length : Int) := by omega
      have hi0 : (0 : Int) ≤ (m : Int) := by omega
      have HCL : Hid (∀ W, Below w.heap.size w W → Calls Tryz.prog 116 #[.agg #[.int .i64 l[m].id, .int .i64 l[m].kind, .int .i64 l[m].links, .string l[m].data, .slice ad l[m].ents.length c], .pointer (some ⟨g, 0, none⟩)] W fun e w' => e = .returned (.bool ((l[m].id == id))) ∧ Below W.heap.size W w') := Lib.hid (fun W hW => at1_any l[m] ad c g id W (cellK HG.out hW))
      clear hrd
      generalize ((l[m].id == id)) = q at *
      generalize l[m].id = x0 at *
      generalize l[m].kind = x1 at *
      generalize l[m].links = x2 at *
      generalize l[m].data = x3 at *
      generalize l[m].ents.length = x4 at *
      cases q with
      | true =>
        have HE := Lib.hid (HH.out rfl)
        clear HH HN
        go_wp2_with (go_at_call 116; refine (HCL.out _ HB2.out).mono ?_; rintro e w3 ⟨rfl, hb⟩; have HB3 := Lib.hid (below_step1 HB2.out hb); clear hb)
        go_ret
        exact ⟨_, rfl, HE.out, HB3.out⟩
      | false =>
        have HE := Lib.hid (HN.out rfl)
        clear HH HN
        go_wp2_with (go_at_call 116; refine (HCL.out _ HB2.out).mono ?_; rintro e w3 ⟨rfl, hb⟩; have HB3 := Lib.hid (below_step1 HB2.out hb); clear hb)
        go_roundg (gk - 1)
        case measure => omega
        case rel => exact ⟨m + 1, by omega, by go_num, HE, HB3⟩
    · have hlm : m = l.length := by omega
      subst hlm
      have HE : Hid ((-1 : Int) = atF l id) := Lib.hid ((atF_miss l id (fun x hx => by obtain ⟨j, hj, rfl⟩ := List.mem_iff_getElem.1 hx; have := HM.out j hj hj; simpa using this)).symm)
      go_wp2
      go_ret
      exact ⟨-1, rfl, HE.out, HB2.out⟩
set_option maxRecDepth 1000000 in
set_option maxHeartbeats 6000000 in
theorem implAt_any (next : Int) (a : Option Addr) (n cap : Nat) (l : List InoL) (id : Int) (w : World) (hr : VolRd w a n cap l) :
    Calls Tryz.prog 86 #[.agg #[.int .i64 next, .slice a n cap], .int .i64 id] w fun e w' => e = .returned (.int .i64 (atF l id)) ∧ Below w.heap.size w w' := by
  have HB := Lib.hid ((boxA w (.cells #[.int .i64 next, .slice a n cap] 26)).alloc (by simp) (.cells #[.int .i64 id] 3))
  have H := Lib.hid (hr.step HB.out)
  have HG : Hid (((w.alloc (.cells #[.int .i64 next, .slice a n cap] 26)).alloc (.cells #[.int .i64 id] 3)).cell? ⟨w.heap.size + 1, 0, none⟩ = some (.int .i64 id)) := Lib.hid (by go_simp)
  clear hr
  go_enter Tryz.func86, Tryz.ntmps86
  go_wp2_with fail
  refine (idxA_any a n cap l (w.heap.size + 1) id _ H.out HG.out).mono ?_
  rintro e w2 ⟨r, rfl, rfl, hb⟩
  have HB2 := Lib.hid (below_step1 HB.out hb)
  clear hb
  go_wp2
  go_ret
  exact ⟨rfl, HB2.out⟩
set_option maxRecDepth 1000000 in
set_option maxHeartbeats 6000000 in
theorem implLinks_any (next : Int) (a : Option Addr) (n cap : Nat) (l : List InoL) (id : Int) (w : World) (hr : VolRd w a n cap l) (hb0 : (linksF l id : Int) ≤ 4611686018427387904) :
    Calls Tryz.prog 82 #[.agg #[.int .i64 next, .slice a n cap], .int .i64 id] w fun e w' => e = .returned (.int .i64 (linksF l id : Int)) ∧ Below w.heap.size w w' := by
  have hl : l.length = n := hr.len
  subst hl
  have hm := hr.room
  have HB := Lib.hid (boxA w (.cells #[.int .i64 next, .slice a l.length cap] 26))
  have H := Lib.hid (hr.step HB.out)
  have c0 := box2 w 26 (.int .i64 next) (.slice a l.length cap)
  clear hr
  go_enter Tryz.func82, Tryz.ntmps82
  go_wp2
  generalize w.alloc (.cells #[.int .i64 next, .slice a l.length cap] 26) = w1 at *
  clear c0
  go_loopg [5, 13] l.length (fun gg o i wr => ∃ k : Nat, k + gg = l.length ∧ i = .int .i64 (k : Int) ∧ o = .int .i64 (linksF (l.take k) id : Int) ∧ Hid (Below w1.heap.size w1 wr))
  case atStart => exact ⟨0, by omega, rfl, rfl, Lib.hid (Below.refl _ _)⟩
  case round =>
    obtain ⟨k, hk, rfl, rfl, HB2⟩ := hrel
    obtain ⟨G1, hG1⟩ : ∃ x : Nat, x = gk := ⟨_, rfl⟩
    subst hG1
    by_cases hlt : k < l.length
    · obtain ⟨b, off, ad, c, rfl, hbs, d0, d1, d2, d3, d4, hrd⟩ := vol_cells (H.out.step HB2.out) k hlt
      have hLT := linksF_take l id k hlt
      have hLE := linksF_mono l id (k + 1)
      have hi : (k : Int) < (l.length : Int) := by omega
      have hi0 : (0 : Int) ≤ (k : Int) := by omega
      have HLT := Lib.hid hLT
      have hbound : (linksF (l.take k) id : Int) + (cntE l[k].ents id : Int) ≤ 4611686018427387904 := by omega
      obtain ⟨V, hV⟩ : ∃ x : World, x = wr := ⟨_, rfl⟩
      subst hV
      have HRD := Lib.hid hrd
      have hmx := hrd.max
      have hle := hrd.le
      unfold maxLen at hmx
      clear hrd hLT hLE
      generalize l[k].id = x0 at *
      generalize l[k].kind = x1 at *
      generalize l[k].links = x2 at *
      generalize l[k].data = x3 at *
      generalize l[k].ents = es at *
      generalize linksF (l.take k) id = q at *
      have HRX := Lib.hid (HRD.out.alloc (.cells #[.int .i64 x0, .int .i64 x1, .int .i64 x2, .string x3, .slice ad es.length c] 45))
      have HBX := Lib.hid (boxA V (.cells #[.int .i64 x0, .int .i64 x1, .int .i64 x2, .string x3, .slice ad es.length c] 45))
      go_wp2
      generalize V.alloc (.cells #[.int .i64 x0, .int .i64 x1, .int .i64 x2, .string x3, .slice ad es.length c] 45) = V1 at *
      go_loopg [5, 20] es.length (fun gg o i wr => ∃ j : Nat, j + gg = es.length ∧ i = .int .i64 (j : Int) ∧ o = .int .i64 ((q : Int) + (cntE (es.take j) id : Int)) ∧ Hid (Below V1.heap.size V1 wr))
      case atStart => exact ⟨0, by omega, rfl, by simp [cntE], Lib.hid (Below.refl _ _)⟩
      case round =>
        obtain ⟨j, hj, rfl, rfl, HB3⟩ := hrel
        by_cases hjl : j < es.length
        · obtain ⟨be, oe, rfl, hbe, e0, e1, e2, e3⟩ := ens_cells (HRX.out.below HB3.out (Nat.le_refl _)) j hjl
          have HCT := Lib.hid (cntE_take es id j hjl)
          have hcm := cntE_mono es id (j + 1)
          have hji : (j : Int) < (es.length : Int) := by omega
          have hj0 : (0 : Int) ≤ (j : Int) := by omega
          have hct := cntE_take es id j hjl
          by_cases he : es[j].id = id
          · rw [if_pos he] at hct
            have HC2 : Hid ((q : Int) + (cntE (es.take (j + 1)) id : Int) = (q : Int) + (cntE (es.take j) id : Int) + 1) := Lib.hid (by omega)
            have hbd : (q : Int) + (cntE (es.take j) id : Int) + 1 ≤ 4611686018427387904 := by omega
            have heq : (es[j].id == id) = true := by simp [he]
            clear hct hcm HCT he
            generalize es[j].hash = y0 at *
            generalize es[j].index = y1 at *
            generalize es[j].name = y2 at *
            generalize es[j].id = y3 at *
            generalize cntE (es.take j) id = r at *
            have HB4 := Lib.hid (below_step1 HB3.out (boxA wr (.cells #[.int .i64 y0, .int .i64 y1, .string y2, .int .i64 y3] 74)))
            go_wp2
            go_roundg (gk - 1)
            case measure => omega
            case rel => exact ⟨j + 1, by omega, by go_num, by rw [HC2.out], HB4⟩
          · rw [if_neg he] at hct
            have HC2 : Hid ((q : Int) + (cntE (es.take (j + 1)) id : Int) = (q : Int) + (cntE (es.take j) id : Int)) := Lib.hid (by omega)
            have heq : (es[j].id == id) = false := by simp [he]
            clear hct hcm HCT he
            generalize es[j].hash = y0 at *
            generalize es[j].index = y1 at *
            generalize es[j].name = y2 at *
            generalize es[j].id = y3 at *
            generalize cntE (es.take j) id = r at *
            have HB4 := Lib.hid (below_step1 HB3.out (boxA wr (.cells #[.int .i64 y0, .int .i64 y1, .string y2, .int .i64 y3] 74)))
            go_wp2
            go_roundg (gk - 1)
            case measure => omega
            case rel => exact ⟨j + 1, by omega, by go_num, by rw [HC2.out], HB4⟩
        · have hjl2 : j = es.length := by omega
          subst hjl2
          rw [List.take_length]
          have HB5 := Lib.hid (below_step1 (below_step1 HB2.out HBX.out) HB3.out)
          go_wp2
          go_roundg (G1 - 1)
          case measure => omega
          case rel => exact ⟨k + 1, by omega, by go_num, by rw [HLT.out]; go_num, HB5⟩
    · have hkl : k = l.length := by omega
      subst hkl
      rw [List.take_length]
      have HB5 := Lib.hid (below_step1 HB.out HB2.out)
      go_wp2
      go_ret
      exact ⟨rfl, HB5.out⟩
set_option maxRecDepth 1000000 in
set_option maxHeartbeats 6000000 in
theorem l6At_any (next : Int) (a : Option Addr) (n cap : Nat) (l : List InoL) (id : Int) (w : World) (hr : VolRd w a n cap l) :
    Calls Tryz.prog 69 #[.agg #[.int .i64 next, .slice a n cap], .int .i64 id] w fun e w' => e = .returned (.int .i64 (atF l id)) ∧ Below w.heap.size w w' := by
  have hl : l.length = n := hr.len
  subst hl
  have hm := hr.room
  have HB := Lib.hid (boxA w (.cells #[.int .i64 next, .slice a l.length cap] 26))
  have H := Lib.hid (hr.step HB.out)
  obtain ⟨c0, c1⟩ := box2 w 26 (.int .i64 next) (.slice a l.length cap)
  clear hr
  go_enter Tryz.func69, Tryz.ntmps69
  go_wp2
  have hw0 : w.heap.size < (w.alloc (.cells #[.int .i64 next, .slice a l.length cap] 26)).heap.size := by simp
  generalize w.alloc (.cells #[.int .i64 next, .slice a l.length cap] 26) = w1 at *
  go_loopg [5] l.length (fun gg i wr => ∃ m : Nat, m + gg = l.length ∧ i = .int .i64 (m : Int) ∧ Hid (∀ j (hj : j < m) (hl : j < l.length), l[j].id ≠ id) ∧ wr = w1)
  case atStart => exact ⟨0, by omega, rfl, Lib.hid (fun j hj => by omega), rfl⟩
  case round =>
    obtain ⟨m, hm2, rfl, HM, rfl⟩ := hrel
    by_cases hlt : m < l.length
    · obtain ⟨b, off, ad, c, rfl, hbs, d0, d1, d2, d3, d4, hrd⟩ := vol_cells H.out m hlt
      have hi : (m : Int) < (l.length : Int) := by omega
      have hi0 : (0 : Int) ≤ (m : Int) := by omega
      by_cases he : l[m].id = id
      · have HE := Lib.hid (atF_hit l id m hlt he (fun j hj => HM.out j hj (by omega)))
        have heq : (l[m].id == id) = true := by simp [he]
        clear hrd he
        generalize l[m].id = x0 at *
        clear d1 d2 d3 d4
        go_wp2
        go_ret
        exact ⟨ret_int HE.out.symm, HB.out⟩
      · have HN : Hid (∀ j (hj : j < m + 1) (hl : j < l.length), l[j].id ≠ id) := Lib.hid (fun j hj hl => by
          by_cases h : j = m
          · subst h; exact he
          · exact HM.out j (by omega) hl)
        have heq : (l[m].id == id) = false := by simp [he]
        clear hrd he
        generalize l[m].id = x0 at *
        clear d1 d2 d3 d4
        go_wp2
        go_roundg (gk - 1)
        case measure => omega
        case rel => exact ⟨m + 1, by omega, by go_num, HN, rfl⟩
    · have hlm : m = l.length := by omega
      subst hlm
      have HE : Hid (atF l id = -1) := Lib.hid (atF_miss l id (fun x hx => by obtain ⟨j, hj, rfl⟩ := List.mem_iff_getElem.1 hx; exact HM.out j hj hj))
      go_wp2
      go_ret
      exact ⟨ret_int HE.out.symm, HB.out⟩
set_option maxRecDepth 1000000 in
set_option maxHeartbeats 6000000 in
theorem l6Named_any (next : Int) (a : Option Addr) (n cap : Nat) (l : List InoL) (id : Int) (w : World) (hr : VolRd w a n cap l) (hb0 : (linksF l id : Int) ≤ 4611686018427387904) :
    Calls Tryz.prog 67 #[.agg #[.int .i64 next, .slice a n cap], .int .i64 id] w fun e w' => e = .returned (.int .i64 (linksF l id : Int)) ∧ Below w.heap.size w w' := by
  have hl : l.length = n := hr.len
  subst hl
  have hm := hr.room
  have HB := Lib.hid (boxA w (.cells #[.int .i64 next, .slice a l.length cap] 26))
  have H := Lib.hid (hr.step HB.out)
  obtain ⟨c0, c1⟩ := box2 w 26 (.int .i64 next) (.slice a l.length cap)
  clear hr
  go_enter Tryz.func67, Tryz.ntmps67
  go_wp2
  have hw0 : w.heap.size < (w.alloc (.cells #[.int .i64 next, .slice a l.length cap] 26)).heap.size := by simp
  generalize w.alloc (.cells #[.int .i64 next, .slice a l.length cap] 26) = w1 at *
  go_loopg [5, 6] l.length (fun gg o i wr => ∃ k : Nat, k + gg = l.length ∧ i = .int .i64 (k : Int) ∧ o = .int .i64 (linksF (l.take k) id : Int) ∧ wr = w1)
  case atStart => exact ⟨0, by omega, rfl, rfl, rfl⟩
  case round =>
    obtain ⟨k, hk, rfl, rfl, rfl⟩ := hrel
    obtain ⟨G1, hG1⟩ : ∃ x : Nat, x = gk := ⟨_, rfl⟩
    subst hG1
    by_cases hlt : k < l.length
    · obtain ⟨b, off, ad, c, rfl, hbs, d0, d1, d2, d3, d4, hrd⟩ := vol_cells H.out k hlt
      have hLT := linksF_take l id k hlt
      have hLE := linksF_mono l id (k + 1)
      have hi : (k : Int) < (l.length : Int) := by omega
      have hi0 : (0 : Int) ≤ (k : Int) := by omega
      have HLT := Lib.hid hLT
      have hbound : (linksF (l.take k) id : Int) + (cntE l[k].ents id : Int) ≤ 4611686018427387904 := by omega
      have HRD := Lib.hid hrd
      have hmx := hrd.max
      have hle := hrd.le
      unfold maxLen at hmx
      clear hrd hLT hLE d0 d1 d2 d3
      generalize l[k].ents = es at *
      generalize linksF (l.take k) id = q at *
      obtain ⟨V, hV⟩ : ∃ x : World, x = wr := ⟨_, rfl⟩
      subst hV
      go_wp2
      go_loopg [5, 7] es.length (fun gg o i wr => ∃ j : Nat, j + gg = es.length ∧ i = .int .i64 (j : Int) ∧ o = .int .i64 ((q : Int) + (cntE (es.take j) id : Int)) ∧ wr = V)
      case atStart => exact ⟨0, by omega, rfl, by simp [cntE], rfl⟩
      case round =>
        obtain ⟨j, hj, rfl, rfl, rfl⟩ := hrel
        by_cases hjl : j < es.length
        · obtain ⟨be, oe, rfl, hbe, e0, e1, e2, e3⟩ := ens_cells HRD.out j hjl
          have hcm := cntE_mono es id (j + 1)
          have hji : (j : Int) < (es.length : Int) := by omega
          have hj0 : (0 : Int) ≤ (j : Int) := by omega
          have hct := cntE_take es id j hjl
          by_cases he : es[j].id = id
          · rw [if_pos he] at hct
            have HC2 : Hid ((q : Int) + (cntE (es.take (j + 1)) id : Int) = (q : Int) + (cntE (es.take j) id : Int) + 1) := Lib.hid (by omega)
            have hbd : (q : Int) + (cntE (es.take j) id : Int) + 1 ≤ 4611686018427387904 := by omega
            have heq : (es[j].id == id) = true := by simp [he]
            clear hct hcm he e0 e1 e2
            generalize es[j].id = y3 at *
            generalize cntE (es.take j) id = r at *
            go_wp2
            go_roundg (gk - 1)
            case measure => omega
            case rel => exact ⟨j + 1, by omega, by go_num, by rw [HC2.out], rfl⟩
          · rw [if_neg he] at hct
            have HC2 : Hid ((q : Int) + (cntE (es.take (j + 1)) id : Int) = (q : Int) + (cntE (es.take j) id : Int)) := Lib.hid (by omega)
            have heq : (es[j].id == id) = false := by simp [he]
            clear hct hcm he e0 e1 e2
            generalize es[j].id = y3 at *
            generalize cntE (es.take j) id = r at *
            go_wp2
            go_roundg (gk - 1)
            case measure => omega
            case rel => exact ⟨j + 1, by omega, by go_num, by rw [HC2.out], rfl⟩
        · have hjl2 : j = es.length := by omega
          subst hjl2
          rw [List.take_length]
          go_wp2
          go_roundg (G1 - 1)
          case measure => omega
          case rel => exact ⟨k + 1, by omega, by go_num, by rw [HLT.out]; go_num, rfl⟩
    · have hkl : k = l.length := by omega
      subst hkl
      rw [List.take_length]
      go_wp2
      go_ret
      exact ⟨rfl, HB.out⟩
theorem inoB_file {l : List InoL} {x : InoL} (h : x.kind = 1) : inoB l x = (decide (x.ents.length = 0) && (decide (x.data.size ≤ 20) && decide (x.links = (linksF l x.id : Int)))) := by unfold inoB; rw [if_pos h]
theorem inoB_dir {l : List InoL} {x : InoL} (h : x.kind = 2) : inoB l x = (decide (x.data.size = 0) && (decide (x.links = 1) && (dirB x.ents && ((decide (x.id = 1) || decide (linksF l x.id = 1)) && x.ents.all (kidB l))))) := by
  unfold inoB
  rw [if_neg (by omega), decide_eq_true h]
  rfl
theorem inoB_none {l : List InoL} {x : InoL} (h1 : ¬ x.kind = 1) (h2 : ¬ x.kind = 2) : inoB l x = false := by
  unfold inoB
  rw [if_neg h1, decide_eq_false h2]
  rfl
theorem empty_size (s : ByteArray) : s.toList.isEmpty = decide (s.size = 0) := by
  rw [ByteArray.toList_eq, Bool.eq_iff_iff, List.isEmpty_iff, decide_eq_true_iff]
  constructor
  · intro h
    have h2 : s.data.toList.length = 0 := by rw [h]; rfl
    rw [Array.length_toList] at h2
    exact h2
  · intro h
    refine List.eq_nil_of_length_eq_zero ?_
    rw [Array.length_toList]
    exact h
set_option maxRecDepth 1000000 in
set_option maxHeartbeats 6000000 in
theorem inodeOk1_any (x : EntL) (next : Int) (a : Option Addr) (n cap : Nat) (l : List InoL) (g : Nat) (w : World) (hr : VolRd w a n cap l) (hg0 : w.cell? ⟨g, 0, none⟩ = some (.int .i64 next)) (hg1 : w.cell? ⟨g, 1, none⟩ = some (.slice a n cap)) :
    Calls Tryz.prog 85 #[.agg #[.int .i64 x.hash, .int .i64 x.index, .string x.name, .int .i64 x.id], .pointer (some ⟨g, 0, none⟩)] w fun e w' => e = .returned (.bool (!kidB l x)) ∧ Below w.heap.size w w' := by
  obtain ⟨xh, xi, xn, xd⟩ := x
  simp only
  have HB := Lib.hid (boxA w (.cells #[.int .i64 xh, .int .i64 xi, .string xn, .int .i64 xd] 74))
  have H := Lib.hid (hr.step HB.out)
  have g0 := cellK hg0 HB.out
  have g1 := cellK hg1 HB.out
  have hgl : g < w.heap.size := World.block_lt_of_cell? w _ hg0
  clear hr
  by_cases h1 : xd = 1
  · have HR : Hid ((!kidB l ⟨xh, xi, xn, xd⟩) = true) := Lib.hid (by unfold kidB; simp [h1])
    have hq : (xd == 1) = true := by simp [h1]
    clear h1
    go_enter Tryz.func85, Tryz.ntmps85
    go_wp2
    go_ret
    exact ⟨ret_bool HR.out.symm, HB.out⟩
  · have hq : (xd == 1) = false := by simp [h1]
    have HR : Hid ((!kidB l ⟨xh, xi, xn, xd⟩) = !decide (0 ≤ atF l xd)) := Lib.hid (by unfold kidB; simp [h1])
    have har := atF_range l xd
    have hln := H.out.len
    have hrm := H.out.room
    clear h1
    go_enter Tryz.func85, Tryz.ntmps85
    go_wp2_with fail
    refine (implAt_any next a n cap l xd _ H.out).mono ?_
    rintro e w2 ⟨rfl, hb⟩
    have HB2 := Lib.hid (below_step1 HB.out hb)
    clear hb
    generalize atF l xd = r at *
    by_cases hr0 : 0 ≤ r
    · have HR2 : Hid ((!kidB l ⟨xh, xi, xn, xd⟩) = false) := Lib.hid (by rw [HR.out, decide_eq_true hr0]; rfl)
      have hr1 : (r < 0) = False := eq_false (by omega)
      go_wp2
      go_ret
      exact ⟨ret_bool HR2.out.symm, HB2.out⟩
    · have HR2 : Hid ((!kidB l ⟨xh, xi, xn, xd⟩) = true) := Lib.hid (by rw [HR.out, decide_eq_false hr0]; rfl)
      have hr1 : (r < 0) = True := eq_true (by omega)
      go_wp2
      go_ret
      exact ⟨ret_bool HR2.out.symm, HB2.out⟩
set_option maxRecDepth 1000000 in
set_option maxHeartbeats 6000000 in
theorem idxK_any (next : Int) (ad : Option Addr) (n c : Nat) (es : List EntL) (a : Option Addr) (cap : Nat) (l : List InoL) (g : Nat) (w : World) (he : Rd w ad n c 4 (ens es)) (hr : VolRd w a l.length cap l) (hg0 : w.cell? ⟨g, 0, none⟩ = some (.int .i64 next)) (hg1 : w.cell? ⟨g, 1, none⟩ = some (.slice a l.length cap)) :
    Calls Tryz.prog 115 #[.slice ad n c, .func (.func 85) #[] #[.pointer (some ⟨g, 0, none⟩)]] w fun e w' => ∃ r, e = .returned (.int .i64 r) ∧ decide (0 ≤ r) = !es.all (kidB l) ∧ -1 ≤ r ∧ r ≤ n ∧ Below w.heap.size w w' := by
  have hl : es.length = n := by have := he.len; simp at this; omega
  subst hl
  have hm : es.length ≤ maxLen := Nat.le_trans he.le he.max
  unfold maxLen at hm
  have HE := Lib.hid he
  have H := Lib.hid hr
  have HG := Lib.hid (And.intro hg0 hg1)
  clear he hr hg0 hg1
  go_enter Tryz.func115, Tryz.ntmps115
  go_wp2
  go_loopg [8] es.length (fun gg i wr => ∃ m : Nat, m + gg = es.length ∧ i = .int .i64 (m : Int) ∧ Hid ((es.take m).all (kidB l) = true) ∧ Hid (Below w.heap.size w wr))
  case atStart => exact ⟨0, by omega, rfl, Lib.hid rfl, Lib.hid (Below.refl _ _)⟩
  case round =>
    obtain ⟨m, hm2, rfl, HM, HB2⟩ := hrel
    by_cases hlt : m < es.length
    · obtain ⟨b, off, rfl, hbs, d0, d1, d2, d3⟩ := ens_cells (HE.out.below HB2.out (Nat.le_refl _)) m hlt
      have HH : Hid ((!kidB l es[m]) = true → es.all (kidB l) = false) := Lib.hid (fun e => by rw [List.all_eq_false]; exact ⟨es[m], List.getElem_mem hlt, by simpa using e⟩)
      have HN : Hid ((!kidB l es[m]) = false → (es.take (m + 1)).all (kidB l) = true) := Lib.hid (fun e => by rw [List.take_succ_eq_append_getElem hlt, List.all_append, HM.out]; simpa using e)
      have hi : (m : Int) < (es.length : Int) := by omega
      have hi0 : (0 : Int) ≤ (m : Int) := by omega
      have HCL : Hid (∀ W, Below w.heap.size w W → Calls Tryz.prog 85 #[.agg #[.int .i64 es[m].hash, .int .i64 es[m].index, .string es[m].name, .int .i64 es[m].id], .pointer (some ⟨g, 0, none⟩)] W fun e w' => e = .returned (.bool (!kidB l es[m])) ∧ Below W.heap.size W w') := Lib.hid (fun W hW => inodeOk1_any es[m] next a _ cap l g W (H.out.step hW) (cellK HG.out.1 hW) (cellK HG.out.2 hW))
      generalize (!kidB l es[m]) = q at *
      generalize es[m].hash = y0 at *
      generalize es[m].index = y1 at *
      generalize es[m].name = y2 at *
      generalize es[m].id = y3 at *
      clear hlt
      cases q with
      | true =>
        have HE2 := Lib.hid (HH.out rfl)
        clear HH HN
        go_wp2_with (go_at_call 85; refine (HCL.out _ HB2.out).mono ?_; rintro e w3 ⟨rfl, hb⟩; have HB3 := Lib.hid (below_step1 HB2.out hb); clear hb)
        go_ret
        exact ⟨_, rfl, by rw [HE2.out]; exact decide_eq_true hi0, by omega, by omega, HB3.out⟩
      | false =>
        have HE2 := Lib.hid (HN.out rfl)
        clear HH HN
        go_wp2_with (go_at_call 85; refine (HCL.out _ HB2.out).mono ?_; rintro e w3 ⟨rfl, hb⟩; have HB3 := Lib.hid (below_step1 HB2.out hb); clear hb)
        go_roundg (gk - 1)
        case measure => omega
        case rel => exact ⟨m + 1, by omega, by go_num, HE2, HB3⟩
    · have hlm : m = es.length := by omega
      subst hlm
      rw [List.take_length] at HM
      go_wp2
      go_ret
      exact ⟨-1, rfl, by rw [HM.out]; rfl, by omega, by omega, HB2.out⟩
set_option maxRecDepth 1000000 in
set_option maxHeartbeats 6000000 in
theorem contK_any (next : Int) (ad : Option Addr) (n c : Nat) (es : List EntL) (a : Option Addr) (cap : Nat) (l : List InoL) (g : Nat) (w : World) (he : Rd w ad n c 4 (ens es)) (hr : VolRd w a l.length cap l) (hg0 : w.cell? ⟨g, 0, none⟩ = some (.int .i64 next)) (hg1 : w.cell? ⟨g, 1, none⟩ = some (.slice a l.length cap)) :
    Calls Tryz.prog 84 #[.slice ad n c, .func (.func 85) #[] #[.pointer (some ⟨g, 0, none⟩)]] w fun e w' => e = .returned (.bool (!es.all (kidB l))) ∧ Below w.heap.size w w' := by
  have hm : n ≤ maxLen := Nat.le_trans he.le he.max
  unfold maxLen at hm
  have HE := Lib.hid he
  have H := Lib.hid hr
  have HG := Lib.hid (And.intro hg0 hg1)
  clear he hr hg0 hg1
  go_enter Tryz.func84, Tryz.ntmps84
  go_wp2_with fail
  refine (idxK_any next ad n c es a cap l g _ HE.out H.out HG.out.1 HG.out.2).mono ?_
  rintro e w1 ⟨r, rfl, hr, hr1, hr2, hb⟩
  have HR := Lib.hid hr
  have HB := Lib.hid hb
  clear hr hb
  go_wp2
  go_ret
  exact ⟨ret_bool HR.out, HB.out⟩
set_option maxRecDepth 1000000 in
set_option maxHeartbeats 6000000 in
theorem implInodeOk_any (next : Int) (a : Option Addr) (n cap : Nat) (l : List InoL) (x : InoL) (ad : Option Addr) (c : Nat) (w : World) (hr : VolRd w a n cap l) (he : Rd w ad x.ents.length c 4 (ens x.ents)) (hs : ∀ s ∈ x.ents, s.name.size ≤ 1073741824) (hlk : (linksF l x.id : Int) ≤ 4611686018427387904) (hT : KTab w) :
    Calls Tryz.prog 55 #[.agg #[.int .i64 next, .slice a n cap], .agg #[.int .i64 x.id, .int .i64 x.kind, .int .i64 x.links, .string x.data, .slice ad x.ents.length c]] w fun e w' => e = .returned (.bool (inoB l x)) ∧ Below w.heap.size w w' := by
  have hl : l.length = n := hr.len
  subst hl
  have hm := hr.room
  have hme := he.max
  have hle := he.le
  unfold maxLen at hme
  obtain ⟨x0, x1, x2, x3, es⟩ := x
  simp only at he hs hlk hme hle
  have HS := Lib.hid hs
  clear hs
  have HT := Lib.hid hT
  clear hT
  have HB := Lib.hid ((boxA w (.cells #[.int .i64 next, .slice a l.length cap] 26)).alloc (by simp) (.cells #[.int .i64 x0, .int .i64 x1, .int .i64 x2, .string x3, .slice ad es.length c] 45))
  have H := Lib.hid (hr.step HB.out)
  have HE := Lib.hid (he.below HB.out (Nat.le_refl _))
  obtain ⟨c0, c1⟩ := box2 w 26 (.int .i64 next) (.slice a l.length cap)
  replace c0 := cellK c0 (boxA _ (.cells #[.int .i64 x0, .int .i64 x1, .int .i64 x2, .string x3, .slice ad es.length c] 45))
  replace c1 := cellK c1 (boxA _ (.cells #[.int .i64 x0, .int .i64 x1, .int .i64 x2, .string x3, .slice ad es.length c] 45))
  obtain ⟨d0, d1, d2, d3, d4⟩ := box5 (w.alloc (.cells #[.int .i64 next, .slice a l.length cap] 26)) 45 (.int .i64 x0) (.int .i64 x1) (.int .i64 x2) (.string x3) (.slice ad es.length c)
  rw [show (w.alloc (.cells #[.int .i64 next, .slice a l.length cap] 26)).heap.size = w.heap.size + 1 from by simp] at d0 d1 d2 d3 d4
  have hz0 : w.heap.size < ((w.alloc (.cells #[.int .i64 next, .slice a l.length cap] 26)).alloc (.cells #[.int .i64 x0, .int .i64 x1, .int .i64 x2, .string x3, .slice ad es.length c] 45)).heap.size := by simp; omega
  have hz1 : w.heap.size + 1 < ((w.alloc (.cells #[.int .i64 next, .slice a l.length cap] 26)).alloc (.cells #[.int .i64 x0, .int .i64 x1, .int .i64 x2, .string x3, .slice ad es.length c] 45)).heap.size := by simp
  clear hr he
  go_enter Tryz.func55, Tryz.ntmps55
  go_upto_region 1 with fail
  generalize ((w.alloc (.cells #[.int .i64 next, .slice a l.length cap] 26)).alloc (.cells #[.int .i64 x0, .int .i64 x1, .int .i64 x2, .string x3, .slice ad es.length c] 45)) = w1 at *
  have HALL : Hid (∀ W, Below w1.heap.size w1 W → ((W.cell? ⟨w.heap.size, 0, none⟩ = some (Value.int .i64 next) ∧ W.cell? ⟨w.heap.size, 1, none⟩ = some (Value.slice a l.length cap)) ∧ (W.cell? ⟨w.heap.size + 1, 0, none⟩ = some (.int .i64 x0) ∧ W.cell? ⟨w.heap.size + 1, 1, none⟩ = some (.int .i64 x1) ∧ W.cell? ⟨w.heap.size + 1, 2, none⟩ = some (.int .i64 x2) ∧ W.cell? ⟨w.heap.size + 1, 3, none⟩ = some (.string x3) ∧ W.cell? ⟨w.heap.size + 1, 4, none⟩ = some (.slice ad es.length c)) ∧ Below w1.heap.size w1 W)) := Lib.hid (fun W hW => ⟨⟨cellK c0 hW, cellK c1 hW⟩, ⟨cellK d0 hW, cellK d1 hW, cellK d2 hW, cellK d3 hW, cellK d4 hW⟩, hW⟩)
  by_cases hk1 : x1 = 1
  · subst hk1
    have hk3 : ((1 : Int) == 1) = true := rfl
    have hB0 := Below.refl w1.heap.size w1
    have HL : Hid (∀ W, Below w1.heap.size w1 W → Calls Tryz.prog 82 #[.agg #[.int .i64 next, .slice a l.length cap], .int .i64 x0] W fun e w' => e = .returned (.int .i64 (linksF l x0 : Int)) ∧ Below W.heap.size W w') := Lib.hid (fun W hW => implLinks_any next a l.length cap l x0 W (H.out.step hW) hlk)
    by_cases hel : es.length = 0
    · have hee : ((es.length : Int) == 0) = true := by simp [hel]
      by_cases hdl : x3.size ≤ 20
      · have hdd : ((x3.size : Int) ≤ 20) = True := eq_true (by omega)
        have HR : Hid (inoB l ⟨x0, 1, x2, x3, es⟩ = (x2 == (linksF l x0 : Int))) := Lib.hid (by rw [inoB_file rfl, decide_eq_true hel, decide_eq_true hdl]; simp; rfl)
        generalize (linksF l x0 : Int) = lk at *
        clear hlk hel hdl
        go_wp2
        clear c0 c1 d0 d1 d2 d3 d4
        refine wp_region_held_drew (S := (fun W => (W.cell? ⟨w.heap.size, 0, none⟩ = some (Value.int .i64 next) ∧ W.cell? ⟨w.heap.size, 1, none⟩ = some (Value.slice a l.length cap)) ∧ (W.cell? ⟨w.heap.size + 1, 0, none⟩ = some (.int .i64 x0) ∧ W.cell? ⟨w.heap.size + 1, 1, none⟩ = some (.int .i64 1) ∧ W.cell? ⟨w.heap.size + 1, 2, none⟩ = some (.int .i64 x2) ∧ W.cell? ⟨w.heap.size + 1, 3, none⟩ = some (.string x3) ∧ W.cell? ⟨w.heap.size + 1, 4, none⟩ = some (.slice ad es.length c)) ∧ Below w1.heap.size w1 W)) (by kernel_rfl) ?_ (fun hHeld => ?_)
        · try dsimp only
          (go_split_ands; first | exact HALL.out _ (by assumption) | exact HALL.out _ (Below.drew (by assumption)) | exact HALL.out _ (below_step1 (by assumption) (by assumption)))
        change wpAnyH _ _ _ _ _ 20 #[false, false, false, false, false, false, false, false, false, false, false, false, false, false, false, false, false, false, false, false] _ _
        clear hB0
        refine wpH_take (i := 0) (v := ?_) rfl (by kernel_rfl) (by kernel_rfl) (by kernel_rfl) (fun _ _ _ h => h) (by rfl) ?_ (by assumption) ?_; rotate_left; (focus (intro w hSw; (try dsimp only at hSw); go_simp; try with_reducible rfl)); try simp only [Act.put, List.setIfInBounds_toArray, List.set_cons_zero, List.set_cons_succ]
        refine wpH_take (i := 1) (v := ?_) rfl (by kernel_rfl) (by kernel_rfl) (by kernel_rfl) (fun _ _ _ h => h) (by rfl) ?_ (by assumption) ?_; rotate_left; (focus (intro w hSw; (try dsimp only at hSw); go_simp; try with_reducible rfl)); try simp only [Act.put, List.setIfInBounds_toArray, List.set_cons_zero, List.set_cons_succ]
        refine wpH_take (i := 2) (v := ?_) rfl (by kernel_rfl) (by kernel_rfl) (by kernel_rfl) (fun _ _ _ h => h) (by rfl) ?_ (by assumption) ?_; rotate_left; (focus (intro w hSw; (try dsimp only at hSw); go_simp; try with_reducible rfl)); try simp only [Act.put, List.setIfInBounds_toArray, List.set_cons_zero, List.set_cons_succ]
        refine wpH_take (i := 3) (v := ?_) rfl (by kernel_rfl) (by kernel_rfl) (by kernel_rfl) (fun _ _ _ h => h) (by rfl) ?_ (by assumption) ?_; rotate_left; (focus (intro w hSw; (try dsimp only at hSw); go_simp; try with_reducible rfl)); try simp only [Act.put, List.setIfInBounds_toArray, List.set_cons_zero, List.set_cons_succ]
        refine wpH_take (i := 4) (v := ?_) rfl (by kernel_rfl) (by kernel_rfl) (by kernel_rfl) (fun _ _ _ h => h) (by rfl) ?_ (by assumption) ?_; rotate_left; (focus (intro w hSw; (try dsimp only at hSw); go_simp; try with_reducible rfl)); try simp only [Act.put, List.setIfInBounds_toArray, List.set_cons_zero, List.set_cons_succ]
        refine wpH_take (i := 5) (v := ?_) rfl (by kernel_rfl) (by kernel_rfl) (by kernel_rfl) (fun _ _ _ h => h) (by rfl) ?_ (by assumption) ?_; rotate_left; (focus (intro w hSw; (try dsimp only at hSw); go_simp; try with_reducible rfl)); try simp only [Act.put, List.setIfInBounds_toArray, List.set_cons_zero, List.set_cons_succ]
        refine wpH_take (i := 6) (v := ?_) rfl (by kernel_rfl) (by kernel_rfl) (by kernel_rfl) (fun _ _ _ h => h) (by rfl) ?_ (by assumption) ?_; rotate_left; (focus (intro w hSw; (try dsimp only at hSw); go_simp; try with_reducible rfl)); try simp only [Act.put, List.setIfInBounds_toArray, List.set_cons_zero, List.set_cons_succ]
        refine wpH_take (i := 7) (v := ?_) rfl (by kernel_rfl) (by kernel_rfl) (by kernel_rfl) (fun _ _ _ h => h) (by rfl) ?_ (by assumption) ?_; rotate_left; (focus (intro w hSw; (try dsimp only at hSw); go_simp; try with_reducible rfl)); try simp only [Act.put, List.setIfInBounds_toArray, List.set_cons_zero, List.set_cons_succ]
        refine wpH_take (i := 8) (v := ?_) rfl (by kernel_rfl) (by kernel_rfl) (by kernel_rfl) (fun _ _ _ h => h) (by rfl) ?_ (by assumption) ?_; rotate_left; (focus (intro w hSw; (try dsimp only at hSw); go_simp; try with_reducible rfl)); try simp only [Act.put, List.setIfInBounds_toArray, List.set_cons_zero, List.set_cons_succ]
        refine wpH_take (i := 9) (v := ?_) rfl (by kernel_rfl) (by kernel_rfl) (by kernel_rfl) (fun _ _ _ h => h) (by rfl) ?_ (by assumption) ?_; rotate_left; (focus (intro w hSw; (try dsimp only at hSw); go_simp; try with_reducible rfl)); try simp only [Act.put, List.setIfInBounds_toArray, List.set_cons_zero, List.set_cons_succ]
        refine wpH_take (i := 10) (v := ?_) rfl (by kernel_rfl) (by kernel_rfl) (by kernel_rfl) (fun _ _ _ h => h) (by rfl) ?_ (by assumption) ?_; rotate_left; (focus (intro w hSw; (try dsimp only at hSw); go_simp; try with_reducible rfl)); try simp only [Act.put, List.setIfInBounds_toArray, List.set_cons_zero, List.set_cons_succ]
        refine wpH_take (i := 11) (v := ?_) rfl (by kernel_rfl) (by kernel_rfl) (by kernel_rfl) (fun _ _ _ h => h) (by rfl) ?_ (by assumption) ?_; rotate_left; (focus (intro w hSw; (try dsimp only at hSw); go_simp; try with_reducible rfl)); try simp only [Act.put, List.setIfInBounds_toArray, List.set_cons_zero, List.set_cons_succ]
        refine wpH_take (i := 12) (v := ?_) rfl (by kernel_rfl) (by kernel_rfl) (by kernel_rfl) (fun _ _ _ h => h) (by rfl) ?_ (by assumption) ?_; rotate_left; (focus (intro w hSw; (try dsimp only at hSw); go_simp; try with_reducible rfl)); try simp only [Act.put, List.setIfInBounds_toArray, List.set_cons_zero, List.set_cons_succ]
        refine wpH_take (i := 13) (v := ?_) rfl (by kernel_rfl) (by kernel_rfl) (by kernel_rfl) (fun _ _ _ h => h) (by rfl) ?_ (by assumption) ?_; rotate_left; (focus (intro w hSw; (try dsimp only at hSw); go_simp; try with_reducible rfl)); try simp only [Act.put, List.setIfInBounds_toArray, List.set_cons_zero, List.set_cons_succ]
        refine wpH_take (i := 14) (v := ?_) rfl (by kernel_rfl) (by kernel_rfl) (by kernel_rfl) (fun _ _ _ h => h) (by rfl) ?_ (by assumption) ?_; rotate_left; (focus (intro w hSw; (try dsimp only at hSw); go_simp; try with_reducible rfl)); try simp only [Act.put, List.setIfInBounds_toArray, List.set_cons_zero, List.set_cons_succ]
        refine wpH_take (i := 15) (v := ?_) rfl (by kernel_rfl) (by kernel_rfl) (by kernel_rfl) (fun _ _ _ h => h) (by rfl) ?_ (by assumption) ?_; rotate_left; (focus (intro w hSw; (try dsimp only at hSw); go_simp; try with_reducible rfl)); try simp only [Act.put, List.setIfInBounds_toArray, List.set_cons_zero, List.set_cons_succ]
        refine wpAnyH_ready (rs := [16]) (by kernel_rfl) (by simp) ?_
        refine AllReadyH.cons rfl (fun K hK => ?_) AllReadyH.nil
        try dsimp only at hHeld
        go_simp
        (go_at_call 82; refine (HL.out _ hHeld.2.2).mono ?_; rintro e w2 ⟨rfl, hbk⟩)
        refine hK.out _ _ ?_ (fun hHeld2 => ?_)
        · try dsimp only
          (go_split_ands; first | exact HALL.out _ (by assumption) | exact HALL.out _ (Below.drew (by assumption)) | exact HALL.out _ (below_step1 (by assumption) (by assumption)))
        clear hK K hHeld
        have hHeld := hHeld2
        clear hHeld2
        clear hbk
        refine wpH_take (i := 17) (v := ?_) rfl (by kernel_rfl) (by kernel_rfl) (by kernel_rfl) (fun _ _ _ h => h) (by rfl) ?_ (by assumption) ?_; rotate_left; (focus (intro w hSw; (try dsimp only at hSw); go_simp; try with_reducible rfl)); try simp only [Act.put, List.setIfInBounds_toArray, List.set_cons_zero, List.set_cons_succ]
        refine wpH_take (i := 18) (v := ?_) rfl (by kernel_rfl) (by kernel_rfl) (by kernel_rfl) (fun _ _ _ h => h) (by rfl) ?_ (by assumption) ?_; rotate_left; (focus (intro w hSw; (try dsimp only at hSw); go_simp; try with_reducible rfl)); try simp only [Act.put, List.setIfInBounds_toArray, List.set_cons_zero, List.set_cons_succ]
        refine wpH_take (i := 19) (v := ?_) rfl (by kernel_rfl) (by kernel_rfl) (by kernel_rfl) (fun _ _ _ h => h) (by rfl) ?_ (by assumption) ?_; rotate_left; (focus (intro w hSw; (try dsimp only at hSw); go_simp; try with_reducible rfl)); try simp only [Act.put, List.setIfInBounds_toArray, List.set_cons_zero, List.set_cons_succ]
        refine wpAnyH_done (by kernel_rfl) ?_ _
        try dsimp only at hHeld
        have HBF := Lib.hid (below_step1 HB.out hHeld.2.2)
        clear hHeld
        go_wp2
        go_ret
        exact ⟨ret_bool HR.out.symm, HBF.out⟩
      · have hdd : ((x3.size : Int) ≤ 20) = False := eq_false (by omega)
        have HR : Hid (inoB l ⟨x0, 1, x2, x3, es⟩ = false) := Lib.hid (by rw [inoB_file rfl, decide_eq_false (p := x3.size ≤ 20) hdl]; simp)
        clear hlk hel hdl
        go_wp2
        clear c0 c1 d0 d1 d2 d3 d4
        refine wp_region_held_drew (S := (fun W => (W.cell? ⟨w.heap.size, 0, none⟩ = some (Value.int .i64 next) ∧ W.cell? ⟨w.heap.size, 1, none⟩ = some (Value.slice a l.length cap)) ∧ (W.cell? ⟨w.heap.size + 1, 0, none⟩ = some (.int .i64 x0) ∧ W.cell? ⟨w.heap.size + 1, 1, none⟩ = some (.int .i64 1) ∧ W.cell? ⟨w.heap.size + 1, 2, none⟩ = some (.int .i64 x2) ∧ W.cell? ⟨w.heap.size + 1, 3, none⟩ = some (.string x3) ∧ W.cell? ⟨w.heap.size + 1, 4, none⟩ = some (.slice ad es.length c)) ∧ Below w1.heap.size w1 W)) (by kernel_rfl) ?_ (fun hHeld => ?_)
        · try dsimp only
          (go_split_ands; first | exact HALL.out _ (by assumption) | exact HALL.out _ (Below.drew (by assumption)) | exact HALL.out _ (below_step1 (by assumption) (by assumption)))
        change wpAnyH _ _ _ _ _ 20 #[false, false, false, false, false, false, false, false, false, false, false, false, false, false, false, false, false, false, false, false] _ _
        clear hB0
        refine wpH_take (i := 0) (v := ?_) rfl (by kernel_rfl) (by kernel_rfl) (by kernel_rfl) (fun _ _ _ h => h) (by rfl) ?_ (by assumption) ?_; rotate_left; (focus (intro w hSw; (try dsimp only at hSw); go_simp; try with_reducible rfl)); try simp only [Act.put, List.setIfInBounds_toArray, List.set_cons_zero, List.set_cons_succ]
        refine wpH_take (i := 1) (v := ?_) rfl (by kernel_rfl) (by kernel_rfl) (by kernel_rfl) (fun _ _ _ h => h) (by rfl) ?_ (by assumption) ?_; rotate_left; (focus (intro w hSw; (try dsimp only at hSw); go_simp; try with_reducible rfl)); try simp only [Act.put, List.setIfInBounds_toArray, List.set_cons_zero, List.set_cons_succ]
        refine wpH_take (i := 2) (v := ?_) rfl (by kernel_rfl) (by kernel_rfl) (by kernel_rfl) (fun _ _ _ h => h) (by rfl) ?_ (by assumption) ?_; rotate_left; (focus (intro w hSw; (try dsimp only at hSw); go_simp; try with_reducible rfl)); try simp only [Act.put, List.setIfInBounds_toArray, List.set_cons_zero, List.set_cons_succ]
        refine wpH_take (i := 3) (v := ?_) rfl (by kernel_rfl) (by kernel_rfl) (by kernel_rfl) (fun _ _ _ h => h) (by rfl) ?_ (by assumption) ?_; rotate_left; (focus (intro w hSw; (try dsimp only at hSw); go_simp; try with_reducible rfl)); try simp only [Act.put, List.setIfInBounds_toArray, List.set_cons_zero, List.set_cons_succ]
        refine wpH_take (i := 4) (v := ?_) rfl (by kernel_rfl) (by kernel_rfl) (by kernel_rfl) (fun _ _ _ h => h) (by rfl) ?_ (by assumption) ?_; rotate_left; (focus (intro w hSw; (try dsimp only at hSw); go_simp; try with_reducible rfl)); try simp only [Act.put, List.setIfInBounds_toArray, List.set_cons_zero, List.set_cons_succ]
        refine wpH_take (i := 5) (v := ?_) rfl (by kernel_rfl) (by kernel_rfl) (by kernel_rfl) (fun _ _ _ h => h) (by rfl) ?_ (by assumption) ?_; rotate_left; (focus (intro w hSw; (try dsimp only at hSw); go_simp; try with_reducible rfl)); try simp only [Act.put, List.setIfInBounds_toArray, List.set_cons_zero, List.set_cons_succ]
        refine wpH_take (i := 6) (v := ?_) rfl (by kernel_rfl) (by kernel_rfl) (by kernel_rfl) (fun _ _ _ h => h) (by rfl) ?_ (by assumption) ?_; rotate_left; (focus (intro w hSw; (try dsimp only at hSw); go_simp; try with_reducible rfl)); try simp only [Act.put, List.setIfInBounds_toArray, List.set_cons_zero, List.set_cons_succ]
        refine wpH_take (i := 7) (v := ?_) rfl (by kernel_rfl) (by kernel_rfl) (by kernel_rfl) (fun _ _ _ h => h) (by rfl) ?_ (by assumption) ?_; rotate_left; (focus (intro w hSw; (try dsimp only at hSw); go_simp; try with_reducible rfl)); try simp only [Act.put, List.setIfInBounds_toArray, List.set_cons_zero, List.set_cons_succ]
        refine wpH_take (i := 8) (v := ?_) rfl (by kernel_rfl) (by kernel_rfl) (by kernel_rfl) (fun _ _ _ h => h) (by rfl) ?_ (by assumption) ?_; rotate_left; (focus (intro w hSw; (try dsimp only at hSw); go_simp; try with_reducible rfl)); try simp only [Act.put, List.setIfInBounds_toArray, List.set_cons_zero, List.set_cons_succ]
        refine wpH_take (i := 9) (v := ?_) rfl (by kernel_rfl) (by kernel_rfl) (by kernel_rfl) (fun _ _ _ h => h) (by rfl) ?_ (by assumption) ?_; rotate_left; (focus (intro w hSw; (try dsimp only at hSw); go_simp; try with_reducible rfl)); try simp only [Act.put, List.setIfInBounds_toArray, List.set_cons_zero, List.set_cons_succ]
        refine wpH_take (i := 10) (v := ?_) rfl (by kernel_rfl) (by kernel_rfl) (by kernel_rfl) (fun _ _ _ h => h) (by rfl) ?_ (by assumption) ?_; rotate_left; (focus (intro w hSw; (try dsimp only at hSw); go_simp; try with_reducible rfl)); try simp only [Act.put, List.setIfInBounds_toArray, List.set_cons_zero, List.set_cons_succ]
        refine wpH_off (i := 11) rfl (by kernel_rfl) (by kernel_rfl) (by kernel_rfl) (fun _ _ _ h => h) (by rfl) (by assumption) ?_; try simp only [Act.put, List.setIfInBounds_toArray, List.set_cons_zero, List.set_cons_succ]
        refine wpH_off (i := 12) rfl (by kernel_rfl) (by kernel_rfl) (by kernel_rfl) (fun _ _ _ h => h) (by rfl) (by assumption) ?_; try simp only [Act.put, List.setIfInBounds_toArray, List.set_cons_zero, List.set_cons_succ]
        refine wpH_off (i := 13) rfl (by kernel_rfl) (by kernel_rfl) (by kernel_rfl) (fun _ _ _ h => h) (by rfl) (by assumption) ?_; try simp only [Act.put, List.setIfInBounds_toArray, List.set_cons_zero, List.set_cons_succ]
        refine wpH_off (i := 14) rfl (by kernel_rfl) (by kernel_rfl) (by kernel_rfl) (fun _ _ _ h => h) (by rfl) (by assumption) ?_; try simp only [Act.put, List.setIfInBounds_toArray, List.set_cons_zero, List.set_cons_succ]
        refine wpH_off (i := 15) rfl (by kernel_rfl) (by kernel_rfl) (by kernel_rfl) (fun _ _ _ h => h) (by rfl) (by assumption) ?_; try simp only [Act.put, List.setIfInBounds_toArray, List.set_cons_zero, List.set_cons_succ]
        refine wpH_off (i := 16) rfl (by kernel_rfl) (by kernel_rfl) (by kernel_rfl) (fun _ _ _ h => h) (by rfl) (by assumption) ?_; try simp only [Act.put, List.setIfInBounds_toArray, List.set_cons_zero, List.set_cons_succ]
        refine wpH_off (i := 17) rfl (by kernel_rfl) (by kernel_rfl) (by kernel_rfl) (fun _ _ _ h => h) (by rfl) (by assumption) ?_; try simp only [Act.put, List.setIfInBounds_toArray, List.set_cons_zero, List.set_cons_succ]
        refine wpH_take (i := 18) (v := ?_) rfl (by kernel_rfl) (by kernel_rfl) (by kernel_rfl) (fun _ _ _ h => h) (by rfl) ?_ (by assumption) ?_; rotate_left; (focus (intro w hSw; (try dsimp only at hSw); go_simp; try with_reducible rfl)); try simp only [Act.put, List.setIfInBounds_toArray, List.set_cons_zero, List.set_cons_succ]
        refine wpH_take (i := 19) (v := ?_) rfl (by kernel_rfl) (by kernel_rfl) (by kernel_rfl) (fun _ _ _ h => h) (by rfl) ?_ (by assumption) ?_; rotate_left; (focus (intro w hSw; (try dsimp only at hSw); go_simp; try with_reducible rfl)); try simp only [Act.put, List.setIfInBounds_toArray, List.set_cons_zero, List.set_cons_succ]
        refine wpAnyH_done (by kernel_rfl) ?_ _
        try dsimp only at hHeld
        have HBF := Lib.hid (below_step1 HB.out hHeld.2.2)
        clear hHeld
        go_wp2
        go_ret
        exact ⟨ret_bool HR.out.symm, HBF.out⟩
    · have hee : ((es.length : Int) == 0) = false := by rw [beq_eq_false_iff_ne]; omega
      have HR : Hid (inoB l ⟨x0, 1, x2, x3, es⟩ = false) := Lib.hid (by rw [inoB_file rfl, decide_eq_false hel]; rfl)
      clear hlk hel
      go_wp2
      clear c0 c1 d0 d1 d2 d3 d4
      refine wp_region_held_drew (S := (fun W => (W.cell? ⟨w.heap.size, 0, none⟩ = some (Value.int .i64 next) ∧ W.cell? ⟨w.heap.size, 1, none⟩ = some (Value.slice a l.length cap)) ∧ (W.cell? ⟨w.heap.size + 1, 0, none⟩ = some (.int .i64 x0) ∧ W.cell? ⟨w.heap.size + 1, 1, none⟩ = some (.int .i64 1) ∧ W.cell? ⟨w.heap.size + 1, 2, none⟩ = some (.int .i64 x2) ∧ W.cell? ⟨w.heap.size + 1, 3, none⟩ = some (.string x3) ∧ W.cell? ⟨w.heap.size + 1, 4, none⟩ = some (.slice ad es.length c)) ∧ Below w1.heap.size w1 W)) (by kernel_rfl) ?_ (fun hHeld => ?_)
      · try dsimp only
        (go_split_ands; first | exact HALL.out _ (by assumption) | exact HALL.out _ (Below.drew (by assumption)) | exact HALL.out _ (below_step1 (by assumption) (by assumption)))
      change wpAnyH _ _ _ _ _ 20 #[false, false, false, false, false, false, false, false, false, false, false, false, false, false, false, false, false, false, false, false] _ _
      clear hB0
      refine wpH_take (i := 0) (v := ?_) rfl (by kernel_rfl) (by kernel_rfl) (by kernel_rfl) (fun _ _ _ h => h) (by rfl) ?_ (by assumption) ?_; rotate_left; (focus (intro w hSw; (try dsimp only at hSw); go_simp; try with_reducible rfl)); try simp only [Act.put, List.setIfInBounds_toArray, List.set_cons_zero, List.set_cons_succ]
      refine wpH_take (i := 1) (v := ?_) rfl (by kernel_rfl) (by kernel_rfl) (by kernel_rfl) (fun _ _ _ h => h) (by rfl) ?_ (by assumption) ?_; rotate_left; (focus (intro w hSw; (try dsimp only at hSw); go_simp; try with_reducible rfl)); try simp only [Act.put, List.setIfInBounds_toArray, List.set_cons_zero, List.set_cons_succ]
      refine wpH_take (i := 2) (v := ?_) rfl (by kernel_rfl) (by kernel_rfl) (by kernel_rfl) (fun _ _ _ h => h) (by rfl) ?_ (by assumption) ?_; rotate_left; (focus (intro w hSw; (try dsimp only at hSw); go_simp; try with_reducible rfl)); try simp only [Act.put, List.setIfInBounds_toArray, List.set_cons_zero, List.set_cons_succ]
      refine wpH_take (i := 3) (v := ?_) rfl (by kernel_rfl) (by kernel_rfl) (by kernel_rfl) (fun _ _ _ h => h) (by rfl) ?_ (by assumption) ?_; rotate_left; (focus (intro w hSw; (try dsimp only at hSw); go_simp; try with_reducible rfl)); try simp only [Act.put, List.setIfInBounds_toArray, List.set_cons_zero, List.set_cons_succ]
      refine wpH_take (i := 4) (v := ?_) rfl (by kernel_rfl) (by kernel_rfl) (by kernel_rfl) (fun _ _ _ h => h) (by rfl) ?_ (by assumption) ?_; rotate_left; (focus (intro w hSw; (try dsimp only at hSw); go_simp; try with_reducible rfl)); try simp only [Act.put, List.setIfInBounds_toArray, List.set_cons_zero, List.set_cons_succ]
      refine wpH_off (i := 5) rfl (by kernel_rfl) (by kernel_rfl) (by kernel_rfl) (fun _ _ _ h => h) (by rfl) (by assumption) ?_; try simp only [Act.put, List.setIfInBounds_toArray, List.set_cons_zero, List.set_cons_succ]
      refine wpH_off (i := 6) rfl (by kernel_rfl) (by kernel_rfl) (by kernel_rfl) (fun _ _ _ h => h) (by rfl) (by assumption) ?_; try simp only [Act.put, List.setIfInBounds_toArray, List.set_cons_zero, List.set_cons_succ]
      refine wpH_off (i := 7) rfl (by kernel_rfl) (by kernel_rfl) (by kernel_rfl) (fun _ _ _ h => h) (by rfl) (by assumption) ?_; try simp only [Act.put, List.setIfInBounds_toArray, List.set_cons_zero, List.set_cons_succ]
      refine wpH_off (i := 8) rfl (by kernel_rfl) (by kernel_rfl) (by kernel_rfl) (fun _ _ _ h => h) (by rfl) (by assumption) ?_; try simp only [Act.put, List.setIfInBounds_toArray, List.set_cons_zero, List.set_cons_succ]
      refine wpH_take (i := 9) (v := ?_) rfl (by kernel_rfl) (by kernel_rfl) (by kernel_rfl) (fun _ _ _ h => h) (by rfl) ?_ (by assumption) ?_; rotate_left; (focus (intro w hSw; (try dsimp only at hSw); go_simp; try with_reducible rfl)); try simp only [Act.put, List.setIfInBounds_toArray, List.set_cons_zero, List.set_cons_succ]
      refine wpH_take (i := 10) (v := ?_) rfl (by kernel_rfl) (by kernel_rfl) (by kernel_rfl) (fun _ _ _ h => h) (by rfl) ?_ (by assumption) ?_; rotate_left; (focus (intro w hSw; (try dsimp only at hSw); go_simp; try with_reducible rfl)); try simp only [Act.put, List.setIfInBounds_toArray, List.set_cons_zero, List.set_cons_succ]
      refine wpH_off (i := 11) rfl (by kernel_rfl) (by kernel_rfl) (by kernel_rfl) (fun _ _ _ h => h) (by rfl) (by assumption) ?_; try simp only [Act.put, List.setIfInBounds_toArray, List.set_cons_zero, List.set_cons_succ]
      refine wpH_off (i := 12) rfl (by kernel_rfl) (by kernel_rfl) (by kernel_rfl) (fun _ _ _ h => h) (by rfl) (by assumption) ?_; try simp only [Act.put, List.setIfInBounds_toArray, List.set_cons_zero, List.set_cons_succ]
      refine wpH_off (i := 13) rfl (by kernel_rfl) (by kernel_rfl) (by kernel_rfl) (fun _ _ _ h => h) (by rfl) (by assumption) ?_; try simp only [Act.put, List.setIfInBounds_toArray, List.set_cons_zero, List.set_cons_succ]
      refine wpH_off (i := 14) rfl (by kernel_rfl) (by kernel_rfl) (by kernel_rfl) (fun _ _ _ h => h) (by rfl) (by assumption) ?_; try simp only [Act.put, List.setIfInBounds_toArray, List.set_cons_zero, List.set_cons_succ]
      refine wpH_off (i := 15) rfl (by kernel_rfl) (by kernel_rfl) (by kernel_rfl) (fun _ _ _ h => h) (by rfl) (by assumption) ?_; try simp only [Act.put, List.setIfInBounds_toArray, List.set_cons_zero, List.set_cons_succ]
      refine wpH_off (i := 16) rfl (by kernel_rfl) (by kernel_rfl) (by kernel_rfl) (fun _ _ _ h => h) (by rfl) (by assumption) ?_; try simp only [Act.put, List.setIfInBounds_toArray, List.set_cons_zero, List.set_cons_succ]
      refine wpH_off (i := 17) rfl (by kernel_rfl) (by kernel_rfl) (by kernel_rfl) (fun _ _ _ h => h) (by rfl) (by assumption) ?_; try simp only [Act.put, List.setIfInBounds_toArray, List.set_cons_zero, List.set_cons_succ]
      refine wpH_take (i := 18) (v := ?_) rfl (by kernel_rfl) (by kernel_rfl) (by kernel_rfl) (fun _ _ _ h => h) (by rfl) ?_ (by assumption) ?_; rotate_left; (focus (intro w hSw; (try dsimp only at hSw); go_simp; try with_reducible rfl)); try simp only [Act.put, List.setIfInBounds_toArray, List.set_cons_zero, List.set_cons_succ]
      refine wpH_take (i := 19) (v := ?_) rfl (by kernel_rfl) (by kernel_rfl) (by kernel_rfl) (fun _ _ _ h => h) (by rfl) ?_ (by assumption) ?_; rotate_left; (focus (intro w hSw; (try dsimp only at hSw); go_simp; try with_reducible rfl)); try simp only [Act.put, List.setIfInBounds_toArray, List.set_cons_zero, List.set_cons_succ]
      refine wpAnyH_done (by kernel_rfl) ?_ _
      try dsimp only at hHeld
      have HBF := Lib.hid (below_step1 HB.out hHeld.2.2)
      clear hHeld
      go_wp2
      go_ret
      exact ⟨ret_bool HR.out.symm, HBF.out⟩
  · by_cases hk2 : x1 = 2
    rotate_left
    · have HR := Lib.hid (inoB_none (l := l) (x := ⟨x0, x1, x2, x3, es⟩) hk1 hk2)
      have hk3 : (x1 == 1) = false := by simp [hk1]
      have hk4 : (x1 == 2) = false := by simp [hk2]
      have hk5 : (x1 != 2) = true := by simp [hk2]
      clear hlk hk1 hk2
      go_wp2
      go_ret
      exact ⟨ret_bool HR.out.symm, HB.out⟩
    clear hk1
    subst hk2
    have hk3 : ((2 : Int) == 1) = false := rfl
    have hk4 : ((2 : Int) == 2) = true := rfl
    have hk5 : ((2 : Int) != 2) = false := rfl
    have HD := Lib.hid (inoB_dir (l := l) (x := ⟨x0, 2, x2, x3, es⟩) rfl)
    by_cases hd0 : x3.size = 0
    rotate_left
    · have HR : Hid (inoB l ⟨x0, 2, x2, x3, es⟩ = false) := Lib.hid (by rw [HD.out, decide_eq_false hd0]; rfl)
      have hq : x3.toList.isEmpty = false := by rw [empty_size]; simp [hd0]
      clear hd0 hlk
      go_wp2
      go_ret
      exact ⟨ret_bool HR.out.symm, HB.out⟩
    have hq : x3.toList.isEmpty = true := by rw [empty_size]; simp [hd0]
    by_cases hl1 : x2 = 1
    rotate_left
    · have HR : Hid (inoB l ⟨x0, 2, x2, x3, es⟩ = false) := Lib.hid (by rw [HD.out, decide_eq_false hl1]; simp)
      have hq2 : (x2 != 1) = true := by simp [hl1]
      clear hd0 hlk hl1
      go_wp2
      go_ret
      exact ⟨ret_bool HR.out.symm, HB.out⟩
    have hq2 : (x2 != 1) = false := by simp [hl1]
    have HD2 : Hid (inoB l ⟨x0, 2, x2, x3, es⟩ = (dirB es && ((decide (x0 = 1) || decide (linksF l x0 = 1)) && es.all (kidB l)))) := Lib.hid (by rw [HD.out, decide_eq_true hd0, decide_eq_true hl1]; rfl)
    clear hd0 hl1 HD
    have HDK := Lib.hid (fun W (hW : Below w1.heap.size w1 W) => implDirOk_any ad es.length c es W (HE.out.below hW (Nat.le_refl _)) HS.out (HT.out.below (below_step1 HB.out hW) (Nat.le_refl _)))
    have HLK := Lib.hid hlk
    clear hlk
    go_wp2_with fail
    refine (HDK.out _ (Below.refl _ _)).mono ?_
    rintro e w2 ⟨rfl, hb⟩
    have HB2 := Lib.hid hb
    clear hb c0 c1 d0 d1 d2 d3 d4
    obtain ⟨⟨c0, c1⟩, ⟨d0, d1, d2, d3, d4⟩, -⟩ := HALL.out w2 HB2.out
    have hz2 : w.heap.size < w2.heap.size := World.block_lt_of_cell? w2 _ c0
    have hz3 : w.heap.size + 1 < w2.heap.size := World.block_lt_of_cell? w2 _ d0
    cases hdir : dirB es with
    | false =>
      have HR : Hid (inoB l ⟨x0, 2, x2, x3, es⟩ = false) := Lib.hid (by rw [HD2.out, hdir]; rfl)
      have HBF := Lib.hid (below_step1 HB.out HB2.out)
      clear hdir
      go_wp2
      go_ret
      exact ⟨ret_bool HR.out.symm, HBF.out⟩
    | true =>
      have HD3 : Hid (inoB l ⟨x0, 2, x2, x3, es⟩ = ((decide (x0 = 1) || decide (linksF l x0 = 1)) && es.all (kidB l))) := Lib.hid (by rw [HD2.out, hdir]; rfl)
      have HDR := Lib.hid hdir
      clear hdir
      by_cases hx1 : x0 = 1
      · have hq3 : (x0 != 1) = false := by simp [hx1]
        have HD4 : Hid (inoB l ⟨x0, 2, x2, x3, es⟩ = es.all (kidB l)) := Lib.hid (by rw [HD3.out, decide_eq_true hx1]; rfl)
        clear hx1
        have HCF := Lib.hid (fun W (hW : Below w1.heap.size w1 W) => contK_any next ad es.length c es a cap l w.heap.size W (HE.out.below hW (Nat.le_refl _)) (H.out.step hW) (HALL.out W hW).1.1 (HALL.out W hW).1.2)
        go_wp2_with fail
        refine (HCF.out _ HB2.out).mono ?_
        rintro e w5 ⟨rfl, hb⟩
        have HBF := Lib.hid (below_step1 HB.out (below_step1 HB2.out hb))
        clear hb
        generalize es.all (kidB l) = ba at *
        go_wp2
        go_ret
        exact ⟨ret_bool (by rw [HD4.out]), HBF.out⟩
      · have hq3 : (x0 != 1) = true := by simp [hx1]
        have HLC : Hid (∀ W, Below w1.heap.size w1 W → Calls Tryz.prog 82 #[.agg #[.int .i64 next, .slice a l.length cap], .int .i64 x0] W fun e w' => e = .returned (.int .i64 (linksF l x0 : Int)) ∧ Below W.heap.size W w') := Lib.hid (fun W hW => implLinks_any next a l.length cap l x0 W (H.out.step hW) HLK.out)
        go_wp2_with fail
        refine (HLC.out _ HB2.out).mono ?_
        rintro e w3 ⟨rfl, hb⟩
        have HB3 := Lib.hid (below_step1 HB2.out hb)
        clear hb c0 c1 d0 d1 d2 d3 d4
        obtain ⟨⟨c0, c1⟩, ⟨d0, d1, d2, d3, d4⟩, -⟩ := HALL.out w3 HB3.out
        have hz4 : w.heap.size < w3.heap.size := World.block_lt_of_cell? w3 _ c0
        have hz5 : w.heap.size + 1 < w3.heap.size := World.block_lt_of_cell? w3 _ d0
        by_cases hlk1 : linksF l x0 = 1
        · have HD4 : Hid (inoB l ⟨x0, 2, x2, x3, es⟩ = es.all (kidB l)) := Lib.hid (by rw [HD3.out, decide_eq_false hx1, decide_eq_true hlk1]; rfl)
          have hq4 : ((linksF l x0 : Int) != 1) = false := by simp; omega
          clear hx1 hlk1
          have HCF := Lib.hid (fun W (hW : Below w1.heap.size w1 W) => contK_any next ad es.length c es a cap l w.heap.size W (HE.out.below hW (Nat.le_refl _)) (H.out.step hW) (HALL.out W hW).1.1 (HALL.out W hW).1.2)
          go_wp2_with fail
          refine (HCF.out _ HB3.out).mono ?_
          rintro e w5 ⟨rfl, hb⟩
          have HBF := Lib.hid (below_step1 HB.out (below_step1 HB3.out hb))
          clear hb
          generalize es.all (kidB l) = ba at *
          go_wp2
          go_ret
          exact ⟨ret_bool (by rw [HD4.out]), HBF.out⟩
        · have HR : Hid (inoB l ⟨x0, 2, x2, x3, es⟩ = false) := Lib.hid (by rw [HD3.out, decide_eq_false hx1, decide_eq_false hlk1]; rfl)
          have HBF := Lib.hid (below_step1 HB.out HB3.out)
          have hq4 : ((linksF l x0 : Int) != 1) = true := by simp; omega
          clear hx1 hlk1
          go_wp2
          go_ret
          exact ⟨ret_bool HR.out.symm, HBF.out⟩
theorem inoC_file {l : List InoL} {x : InoL} (h : x.kind = 1) : inoB l x = (decide (x.ents.length = 0) && (decide (x.data.size ≤ 20) && decide (x.links = (linksF l x.id : Int)))) := by unfold inoB; rw [if_pos h]
theorem inoC_dir {l : List InoL} {x : InoL} (h : x.kind = 2) : inoB l x = (decide (x.data.size = 0) && (decide (x.links = 1) && (dirB x.ents && ((decide (x.id = 1) || decide (linksF l x.id = 1)) && x.ents.all (kidB l))))) := by
  unfold inoB
  rw [if_neg (by omega), decide_eq_true h]
  rfl
theorem inoC_none {l : List InoL} {x : InoL} (h1 : ¬ x.kind = 1) (h2 : ¬ x.kind = 2) : inoB l x = false := by
  unfold inoB
  rw [if_neg h1, decide_eq_false h2]
  rfl
theorem empty_sizeC (s : ByteArray) : s.toList.isEmpty = decide (s.size = 0) := by
  rw [ByteArray.toList_eq, Bool.eq_iff_iff, List.isEmpty_iff, decide_eq_true_iff]
  constructor
  · intro h
    have h2 : s.data.toList.length = 0 := by rw [h]; rfl
    rw [Array.length_toList] at h2
    exact h2
  · intro h
    refine List.eq_nil_of_length_eq_zero ?_
    rw [Array.length_toList]
    exact h
set_option maxRecDepth 1000000 in
set_option maxHeartbeats 6000000 in
theorem specInodeOk_any (next : Int) (a : Option Addr) (n cap : Nat) (l : List InoL) (x : InoL) (ad : Option Addr) (c : Nat) (w : World) (hr : VolRd w a n cap l) (he : Rd w ad x.ents.length c 4 (ens x.ents)) (hs : ∀ s ∈ x.ents, s.name.size ≤ 1073741824) (hlk : (linksF l x.id : Int) ≤ 4611686018427387904) :
    Calls Tryz.prog 40 #[.agg #[.int .i64 next, .slice a n cap], .agg #[.int .i64 x.id, .int .i64 x.kind, .int .i64 x.links, .string x.data, .slice ad x.ents.length c]] w fun e w' => e = .returned (.bool (inoB l x)) ∧ Below w.heap.size w w' := by
  have hl : l.length = n := hr.len
  subst hl
  have hm := hr.room
  have hme := he.max
  have hle := he.le
  unfold maxLen at hme
  obtain ⟨x0, x1, x2, x3, es⟩ := x
  simp only at he hs hlk hme hle
  have HS := Lib.hid hs
  clear hs
  have HB := Lib.hid ((boxA w (.cells #[.int .i64 next, .slice a l.length cap] 26)).alloc (by simp) (.cells #[.int .i64 x0, .int .i64 x1, .int .i64 x2, .string x3, .slice ad es.length c] 45))
  have H := Lib.hid (hr.step HB.out)
  have HE := Lib.hid (he.below HB.out (Nat.le_refl _))
  obtain ⟨c0, c1⟩ := box2 w 26 (.int .i64 next) (.slice a l.length cap)
  replace c0 := cellK c0 (boxA _ (.cells #[.int .i64 x0, .int .i64 x1, .int .i64 x2, .string x3, .slice ad es.length c] 45))
  replace c1 := cellK c1 (boxA _ (.cells #[.int .i64 x0, .int .i64 x1, .int .i64 x2, .string x3, .slice ad es.length c] 45))
  obtain ⟨d0, d1, d2, d3, d4⟩ := box5 (w.alloc (.cells #[.int .i64 next, .slice a l.length cap] 26)) 45 (.int .i64 x0) (.int .i64 x1) (.int .i64 x2) (.string x3) (.slice ad es.length c)
  rw [show (w.alloc (.cells #[.int .i64 next, .slice a l.length cap] 26)).heap.size = w.heap.size + 1 from by simp] at d0 d1 d2 d3 d4
  have hz0 : w.heap.size < ((w.alloc (.cells #[.int .i64 next, .slice a l.length cap] 26)).alloc (.cells #[.int .i64 x0, .int .i64 x1, .int .i64 x2, .string x3, .slice ad es.length c] 45)).heap.size := by simp; omega
  have hz1 : w.heap.size + 1 < ((w.alloc (.cells #[.int .i64 next, .slice a l.length cap] 26)).alloc (.cells #[.int .i64 x0, .int .i64 x1, .int .i64 x2, .string x3, .slice ad es.length c] 45)).heap.size := by simp
  clear hr he
  go_enter Tryz.func40, Tryz.ntmps40
  go_upto_region 1 with fail
  generalize ((w.alloc (.cells #[.int .i64 next, .slice a l.length cap] 26)).alloc (.cells #[.int .i64 x0, .int .i64 x1, .int .i64 x2, .string x3, .slice ad es.length c] 45)) = w1 at *
  have HALL : Hid (∀ W, Below w1.heap.size w1 W → ((W.cell? ⟨w.heap.size, 0, none⟩ = some (Value.int .i64 next) ∧ W.cell? ⟨w.heap.size, 1, none⟩ = some (Value.slice a l.length cap)) ∧ (W.cell? ⟨w.heap.size + 1, 0, none⟩ = some (.int .i64 x0) ∧ W.cell? ⟨w.heap.size + 1, 1, none⟩ = some (.int .i64 x1) ∧ W.cell? ⟨w.heap.size + 1, 2, none⟩ = some (.int .i64 x2) ∧ W.cell? ⟨w.heap.size + 1, 3, none⟩ = some (.string x3) ∧ W.cell? ⟨w.heap.size + 1, 4, none⟩ = some (.slice ad es.length c)) ∧ Below w1.heap.size w1 W)) := Lib.hid (fun W hW => ⟨⟨cellK c0 hW, cellK c1 hW⟩, ⟨cellK d0 hW, cellK d1 hW, cellK d2 hW, cellK d3 hW, cellK d4 hW⟩, hW⟩)
  by_cases hk1 : x1 = 1
  · subst hk1
    have hk3 : ((1 : Int) == 1) = true := rfl
    have hB0 := Below.refl w1.heap.size w1
    have HL : Hid (∀ W, Below w1.heap.size w1 W → Calls Tryz.prog 67 #[.agg #[.int .i64 next, .slice a l.length cap], .int .i64 x0] W fun e w' => e = .returned (.int .i64 (linksF l x0 : Int)) ∧ Below W.heap.size W w') := Lib.hid (fun W hW => l6Named_any next a l.length cap l x0 W (H.out.step hW) hlk)
    by_cases hel : es.length = 0
    · have hee : ((es.length : Int) == 0) = true := by simp [hel]
      by_cases hdl : x3.size ≤ 20
      · have hdd : ((x3.size : Int) ≤ 20) = True := eq_true (by omega)
        have HR : Hid (inoB l ⟨x0, 1, x2, x3, es⟩ = (x2 == (linksF l x0 : Int))) := Lib.hid (by rw [inoC_file rfl, decide_eq_true hel, decide_eq_true hdl]; simp; rfl)
        generalize (linksF l x0 : Int) = lk at *
        clear hlk hel hdl
        go_wp2
        clear c0 c1 d0 d1 d2 d3 d4
        refine wp_region_held_drew (S := (fun W => (W.cell? ⟨w.heap.size, 0, none⟩ = some (Value.int .i64 next) ∧ W.cell? ⟨w.heap.size, 1, none⟩ = some (Value.slice a l.length cap)) ∧ (W.cell? ⟨w.heap.size + 1, 0, none⟩ = some (.int .i64 x0) ∧ W.cell? ⟨w.heap.size + 1, 1, none⟩ = some (.int .i64 1) ∧ W.cell? ⟨w.heap.size + 1, 2, none⟩ = some (.int .i64 x2) ∧ W.cell? ⟨w.heap.size + 1, 3, none⟩ = some (.string x3) ∧ W.cell? ⟨w.heap.size + 1, 4, none⟩ = some (.slice ad es.length c)) ∧ Below w1.heap.size w1 W)) (by kernel_rfl) ?_ (fun hHeld => ?_)
        · try dsimp only
          (go_split_ands; first | exact HALL.out _ (by assumption) | exact HALL.out _ (Below.drew (by assumption)) | exact HALL.out _ (below_step1 (by assumption) (by assumption)))
        change wpAnyH _ _ _ _ _ 20 #[false, false, false, false, false, false, false, false, false, false, false, false, false, false, false, false, false, false, false, false] _ _
        clear hB0
        refine wpH_take (i := 0) (v := ?_) rfl (by kernel_rfl) (by kernel_rfl) (by kernel_rfl) (fun _ _ _ h => h) (by rfl) ?_ (by assumption) ?_; rotate_left; (focus (intro w hSw; (try dsimp only at hSw); go_simp; try with_reducible rfl)); try simp only [Act.put, List.setIfInBounds_toArray, List.set_cons_zero, List.set_cons_succ]
        refine wpH_take (i := 1) (v := ?_) rfl (by kernel_rfl) (by kernel_rfl) (by kernel_rfl) (fun _ _ _ h => h) (by rfl) ?_ (by assumption) ?_; rotate_left; (focus (intro w hSw; (try dsimp only at hSw); go_simp; try with_reducible rfl)); try simp only [Act.put, List.setIfInBounds_toArray, List.set_cons_zero, List.set_cons_succ]
        refine wpH_take (i := 2) (v := ?_) rfl (by kernel_rfl) (by kernel_rfl) (by kernel_rfl) (fun _ _ _ h => h) (by rfl) ?_ (by assumption) ?_; rotate_left; (focus (intro w hSw; (try dsimp only at hSw); go_simp; try with_reducible rfl)); try simp only [Act.put, List.setIfInBounds_toArray, List.set_cons_zero, List.set_cons_succ]
        refine wpH_take (i := 3) (v := ?_) rfl (by kernel_rfl) (by kernel_rfl) (by kernel_rfl) (fun _ _ _ h => h) (by rfl) ?_ (by assumption) ?_; rotate_left; (focus (intro w hSw; (try dsimp only at hSw); go_simp; try with_reducible rfl)); try simp only [Act.put, List.setIfInBounds_toArray, List.set_cons_zero, List.set_cons_succ]
        refine wpH_take (i := 4) (v := ?_) rfl (by kernel_rfl) (by kernel_rfl) (by kernel_rfl) (fun _ _ _ h => h) (by rfl) ?_ (by assumption) ?_; rotate_left; (focus (intro w hSw; (try dsimp only at hSw); go_simp; try with_reducible rfl)); try simp only [Act.put, List.setIfInBounds_toArray, List.set_cons_zero, List.set_cons_succ]
        refine wpH_take (i := 5) (v := ?_) rfl (by kernel_rfl) (by kernel_rfl) (by kernel_rfl) (fun _ _ _ h => h) (by rfl) ?_ (by assumption) ?_; rotate_left; (focus (intro w hSw; (try dsimp only at hSw); go_simp; try with_reducible rfl)); try simp only [Act.put, List.setIfInBounds_toArray, List.set_cons_zero, List.set_cons_succ]
        refine wpH_take (i := 6) (v := ?_) rfl (by kernel_rfl) (by kernel_rfl) (by kernel_rfl) (fun _ _ _ h => h) (by rfl) ?_ (by assumption) ?_; rotate_left; (focus (intro w hSw; (try dsimp only at hSw); go_simp; try with_reducible rfl)); try simp only [Act.put, List.setIfInBounds_toArray, List.set_cons_zero, List.set_cons_succ]
        refine wpH_take (i := 7) (v := ?_) rfl (by kernel_rfl) (by kernel_rfl) (by kernel_rfl) (fun _ _ _ h => h) (by rfl) ?_ (by assumption) ?_; rotate_left; (focus (intro w hSw; (try dsimp only at hSw); go_simp; try with_reducible rfl)); try simp only [Act.put, List.setIfInBounds_toArray, List.set_cons_zero, List.set_cons_succ]
        refine wpH_take (i := 8) (v := ?_) rfl (by kernel_rfl) (by kernel_rfl) (by kernel_rfl) (fun _ _ _ h => h) (by rfl) ?_ (by assumption) ?_; rotate_left; (focus (intro w hSw; (try dsimp only at hSw); go_simp; try with_reducible rfl)); try simp only [Act.put, List.setIfInBounds_toArray, List.set_cons_zero, List.set_cons_succ]
        refine wpH_take (i := 9) (v := ?_) rfl (by kernel_rfl) (by kernel_rfl) (by kernel_rfl) (fun _ _ _ h => h) (by rfl) ?_ (by assumption) ?_; rotate_left; (focus (intro w hSw; (try dsimp only at hSw); go_simp; try with_reducible rfl)); try simp only [Act.put, List.setIfInBounds_toArray, List.set_cons_zero, List.set_cons_succ]
        refine wpH_take (i := 10) (v := ?_) rfl (by kernel_rfl) (by kernel_rfl) (by kernel_rfl) (fun _ _ _ h => h) (by rfl) ?_ (by assumption) ?_; rotate_left; (focus (intro w hSw; (try dsimp only at hSw); go_simp; try with_reducible rfl)); try simp only [Act.put, List.setIfInBounds_toArray, List.set_cons_zero, List.set_cons_succ]
        refine wpH_take (i := 11) (v := ?_) rfl (by kernel_rfl) (by kernel_rfl) (by kernel_rfl) (fun _ _ _ h => h) (by rfl) ?_ (by assumption) ?_; rotate_left; (focus (intro w hSw; (try dsimp only at hSw); go_simp; try with_reducible rfl)); try simp only [Act.put, List.setIfInBounds_toArray, List.set_cons_zero, List.set_cons_succ]
        refine wpH_take (i := 12) (v := ?_) rfl (by kernel_rfl) (by kernel_rfl) (by kernel_rfl) (fun _ _ _ h => h) (by rfl) ?_ (by assumption) ?_; rotate_left; (focus (intro w hSw; (try dsimp only at hSw); go_simp; try with_reducible rfl)); try simp only [Act.put, List.setIfInBounds_toArray, List.set_cons_zero, List.set_cons_succ]
        refine wpH_take (i := 13) (v := ?_) rfl (by kernel_rfl) (by kernel_rfl) (by kernel_rfl) (fun _ _ _ h => h) (by rfl) ?_ (by assumption) ?_; rotate_left; (focus (intro w hSw; (try dsimp only at hSw); go_simp; try with_reducible rfl)); try simp only [Act.put, List.setIfInBounds_toArray, List.set_cons_zero, List.set_cons_succ]
        refine wpH_take (i := 14) (v := ?_) rfl (by kernel_rfl) (by kernel_rfl) (by kernel_rfl) (fun _ _ _ h => h) (by rfl) ?_ (by assumption) ?_; rotate_left; (focus (intro w hSw; (try dsimp only at hSw); go_simp; try with_reducible rfl)); try simp only [Act.put, List.setIfInBounds_toArray, List.set_cons_zero, List.set_cons_succ]
        refine wpH_take (i := 15) (v := ?_) rfl (by kernel_rfl) (by kernel_rfl) (by kernel_rfl) (fun _ _ _ h => h) (by rfl) ?_ (by assumption) ?_; rotate_left; (focus (intro w hSw; (try dsimp only at hSw); go_simp; try with_reducible rfl)); try simp only [Act.put, List.setIfInBounds_toArray, List.set_cons_zero, List.set_cons_succ]
        refine wpAnyH_ready (rs := [16]) (by kernel_rfl) (by simp) ?_
        refine AllReadyH.cons rfl (fun K hK => ?_) AllReadyH.nil
        try dsimp only at hHeld
        go_simp
        (go_at_call 67; refine (HL.out _ hHeld.2.2).mono ?_; rintro e w2 ⟨rfl, hbk⟩)
        refine hK.out _ _ ?_ (fun hHeld2 => ?_)
        · try dsimp only
          (go_split_ands; first | exact HALL.out _ (by assumption) | exact HALL.out _ (Below.drew (by assumption)) | exact HALL.out _ (below_step1 (by assumption) (by assumption)))
        clear hK K hHeld
        have hHeld := hHeld2
        clear hHeld2
        clear hbk
        refine wpH_take (i := 17) (v := ?_) rfl (by kernel_rfl) (by kernel_rfl) (by kernel_rfl) (fun _ _ _ h => h) (by rfl) ?_ (by assumption) ?_; rotate_left; (focus (intro w hSw; (try dsimp only at hSw); go_simp; try with_reducible rfl)); try simp only [Act.put, List.setIfInBounds_toArray, List.set_cons_zero, List.set_cons_succ]
        refine wpH_take (i := 18) (v := ?_) rfl (by kernel_rfl) (by kernel_rfl) (by kernel_rfl) (fun _ _ _ h => h) (by rfl) ?_ (by assumption) ?_; rotate_left; (focus (intro w hSw; (try dsimp only at hSw); go_simp; try with_reducible rfl)); try simp only [Act.put, List.setIfInBounds_toArray, List.set_cons_zero, List.set_cons_succ]
        refine wpH_take (i := 19) (v := ?_) rfl (by kernel_rfl) (by kernel_rfl) (by kernel_rfl) (fun _ _ _ h => h) (by rfl) ?_ (by assumption) ?_; rotate_left; (focus (intro w hSw; (try dsimp only at hSw); go_simp; try with_reducible rfl)); try simp only [Act.put, List.setIfInBounds_toArray, List.set_cons_zero, List.set_cons_succ]
        refine wpAnyH_done (by kernel_rfl) ?_ _
        try dsimp only at hHeld
        have HBF := Lib.hid (below_step1 HB.out hHeld.2.2)
        clear hHeld
        go_wp2
        go_ret
        exact ⟨ret_bool HR.out.symm, HBF.out⟩
      · have hdd : ((x3.size : Int) ≤ 20) = False := eq_false (by omega)
        have HR : Hid (inoB l ⟨x0, 1, x2, x3, es⟩ = false) := Lib.hid (by rw [inoC_file rfl, decide_eq_false (p := x3.size ≤ 20) hdl]; simp)
        clear hlk hel hdl
        go_wp2
        clear c0 c1 d0 d1 d2 d3 d4
        refine wp_region_held_drew (S := (fun W => (W.cell? ⟨w.heap.size, 0, none⟩ = some (Value.int .i64 next) ∧ W.cell? ⟨w.heap.size, 1, none⟩ = some (Value.slice a l.length cap)) ∧ (W.cell? ⟨w.heap.size + 1, 0, none⟩ = some (.int .i64 x0) ∧ W.cell? ⟨w.heap.size + 1, 1, none⟩ = some (.int .i64 1) ∧ W.cell? ⟨w.heap.size + 1, 2, none⟩ = some (.int .i64 x2) ∧ W.cell? ⟨w.heap.size + 1, 3, none⟩ = some (.string x3) ∧ W.cell? ⟨w.heap.size + 1, 4, none⟩ = some (.slice ad es.length c)) ∧ Below w1.heap.size w1 W)) (by kernel_rfl) ?_ (fun hHeld => ?_)
        · try dsimp only
          (go_split_ands; first | exact HALL.out _ (by assumption) | exact HALL.out _ (Below.drew (by assumption)) | exact HALL.out _ (below_step1 (by assumption) (by assumption)))
        change wpAnyH _ _ _ _ _ 20 #[false, false, false, false, false, false, false, false, false, false, false, false, false, false, false, false, false, false, false, false] _ _
        clear hB0
        refine wpH_take (i := 0) (v := ?_) rfl (by kernel_rfl) (by kernel_rfl) (by kernel_rfl) (fun _ _ _ h => h) (by rfl) ?_ (by assumption) ?_; rotate_left; (focus (intro w hSw; (try dsimp only at hSw); go_simp; try with_reducible rfl)); try simp only [Act.put, List.setIfInBounds_toArray, List.set_cons_zero, List.set_cons_succ]
        refine wpH_take (i := 1) (v := ?_) rfl (by kernel_rfl) (by kernel_rfl) (by kernel_rfl) (fun _ _ _ h => h) (by rfl) ?_ (by assumption) ?_; rotate_left; (focus (intro w hSw; (try dsimp only at hSw); go_simp; try with_reducible rfl)); try simp only [Act.put, List.setIfInBounds_toArray, List.set_cons_zero, List.set_cons_succ]
        refine wpH_take (i := 2) (v := ?_) rfl (by kernel_rfl) (by kernel_rfl) (by kernel_rfl) (fun _ _ _ h => h) (by rfl) ?_ (by assumption) ?_; rotate_left; (focus (intro w hSw; (try dsimp only at hSw); go_simp; try with_reducible rfl)); try simp only [Act.put, List.setIfInBounds_toArray, List.set_cons_zero, List.set_cons_succ]
        refine wpH_take (i := 3) (v := ?_) rfl (by kernel_rfl) (by kernel_rfl) (by kernel_rfl) (fun _ _ _ h => h) (by rfl) ?_ (by assumption) ?_; rotate_left; (focus (intro w hSw; (try dsimp only at hSw); go_simp; try with_reducible rfl)); try simp only [Act.put, List.setIfInBounds_toArray, List.set_cons_zero, List.set_cons_succ]
        refine wpH_take (i := 4) (v := ?_) rfl (by kernel_rfl) (by kernel_rfl) (by kernel_rfl) (fun _ _ _ h => h) (by rfl) ?_ (by assumption) ?_; rotate_left; (focus (intro w hSw; (try dsimp only at hSw); go_simp; try with_reducible rfl)); try simp only [Act.put, List.setIfInBounds_toArray, List.set_cons_zero, List.set_cons_succ]
        refine wpH_take (i := 5) (v := ?_) rfl (by kernel_rfl) (by kernel_rfl) (by kernel_rfl) (fun _ _ _ h => h) (by rfl) ?_ (by assumption) ?_; rotate_left; (focus (intro w hSw; (try dsimp only at hSw); go_simp; try with_reducible rfl)); try simp only [Act.put, List.setIfInBounds_toArray, List.set_cons_zero, List.set_cons_succ]
        refine wpH_take (i := 6) (v := ?_) rfl (by kernel_rfl) (by kernel_rfl) (by kernel_rfl) (fun _ _ _ h => h) (by rfl) ?_ (by assumption) ?_; rotate_left; (focus (intro w hSw; (try dsimp only at hSw); go_simp; try with_reducible rfl)); try simp only [Act.put, List.setIfInBounds_toArray, List.set_cons_zero, List.set_cons_succ]
        refine wpH_take (i := 7) (v := ?_) rfl (by kernel_rfl) (by kernel_rfl) (by kernel_rfl) (fun _ _ _ h => h) (by rfl) ?_ (by assumption) ?_; rotate_left; (focus (intro w hSw; (try dsimp only at hSw); go_simp; try with_reducible rfl)); try simp only [Act.put, List.setIfInBounds_toArray, List.set_cons_zero, List.set_cons_succ]
        refine wpH_take (i := 8) (v := ?_) rfl (by kernel_rfl) (by kernel_rfl) (by kernel_rfl) (fun _ _ _ h => h) (by rfl) ?_ (by assumption) ?_; rotate_left; (focus (intro w hSw; (try dsimp only at hSw); go_simp; try with_reducible rfl)); try simp only [Act.put, List.setIfInBounds_toArray, List.set_cons_zero, List.set_cons_succ]
        refine wpH_take (i := 9) (v := ?_) rfl (by kernel_rfl) (by kernel_rfl) (by kernel_rfl) (fun _ _ _ h => h) (by rfl) ?_ (by assumption) ?_; rotate_left; (focus (intro w hSw; (try dsimp only at hSw); go_simp; try with_reducible rfl)); try simp only [Act.put, List.setIfInBounds_toArray, List.set_cons_zero, List.set_cons_succ]
        refine wpH_take (i := 10) (v := ?_) rfl (by kernel_rfl) (by kernel_rfl) (by kernel_rfl) (fun _ _ _ h => h) (by rfl) ?_ (by assumption) ?_; rotate_left; (focus (intro w hSw; (try dsimp only at hSw); go_simp; try with_reducible rfl)); try simp only [Act.put, List.setIfInBounds_toArray, List.set_cons_zero, List.set_cons_succ]
        refine wpH_off (i := 11) rfl (by kernel_rfl) (by kernel_rfl) (by kernel_rfl) (fun _ _ _ h => h) (by rfl) (by assumption) ?_; try simp only [Act.put, List.setIfInBounds_toArray, List.set_cons_zero, List.set_cons_succ]
        refine wpH_off (i := 12) rfl (by kernel_rfl) (by kernel_rfl) (by kernel_rfl) (fun _ _ _ h => h) (by rfl) (by assumption) ?_; try simp only [Act.put, List.setIfInBounds_toArray, List.set_cons_zero, List.set_cons_succ]
        refine wpH_off (i := 13) rfl (by kernel_rfl) (by kernel_rfl) (by kernel_rfl) (fun _ _ _ h => h) (by rfl) (by assumption) ?_; try simp only [Act.put, List.setIfInBounds_toArray, List.set_cons_zero, List.set_cons_succ]
        refine wpH_off (i := 14) rfl (by kernel_rfl) (by kernel_rfl) (by kernel_rfl) (fun _ _ _ h => h) (by rfl) (by assumption) ?_; try simp only [Act.put, List.setIfInBounds_toArray, List.set_cons_zero, List.set_cons_succ]
        refine wpH_off (i := 15) rfl (by kernel_rfl) (by kernel_rfl) (by kernel_rfl) (fun _ _ _ h => h) (by rfl) (by assumption) ?_; try simp only [Act.put, List.setIfInBounds_toArray, List.set_cons_zero, List.set_cons_succ]
        refine wpH_off (i := 16) rfl (by kernel_rfl) (by kernel_rfl) (by kernel_rfl) (fun _ _ _ h => h) (by rfl) (by assumption) ?_; try simp only [Act.put, List.setIfInBounds_toArray, List.set_cons_zero, List.set_cons_succ]
        refine wpH_off (i := 17) rfl (by kernel_rfl) (by kernel_rfl) (by kernel_rfl) (fun _ _ _ h => h) (by rfl) (by assumption) ?_; try simp only [Act.put, List.setIfInBounds_toArray, List.set_cons_zero, List.set_cons_succ]
        refine wpH_take (i := 18) (v := ?_) rfl (by kernel_rfl) (by kernel_rfl) (by kernel_rfl) (fun _ _ _ h => h) (by rfl) ?_ (by assumption) ?_; rotate_left; (focus (intro w hSw; (try dsimp only at hSw); go_simp; try with_reducible rfl)); try simp only [Act.put, List.setIfInBounds_toArray, List.set_cons_zero, List.set_cons_succ]
        refine wpH_take (i := 19) (v := ?_) rfl (by kernel_rfl) (by kernel_rfl) (by kernel_rfl) (fun _ _ _ h => h) (by rfl) ?_ (by assumption) ?_; rotate_left; (focus (intro w hSw; (try dsimp only at hSw); go_simp; try with_reducible rfl)); try simp only [Act.put, List.setIfInBounds_toArray, List.set_cons_zero, List.set_cons_succ]
        refine wpAnyH_done (by kernel_rfl) ?_ _
        try dsimp only at hHeld
        have HBF := Lib.hid (below_step1 HB.out hHeld.2.2)
        clear hHeld
        go_wp2
        go_ret
        exact ⟨ret_bool HR.out.symm, HBF.out⟩
    · have hee : ((es.length : Int) == 0) = false := by rw [beq_eq_false_iff_ne]; omega
      have HR : Hid (inoB l ⟨x0, 1, x2, x3, es⟩ = false) := Lib.hid (by rw [inoC_file rfl, decide_eq_false hel]; rfl)
      clear hlk hel
      go_wp2
      clear c0 c1 d0 d1 d2 d3 d4
      refine wp_region_held_drew (S := (fun W => (W.cell? ⟨w.heap.size, 0, none⟩ = some (Value.int .i64 next) ∧ W.cell? ⟨w.heap.size, 1, none⟩ = some (Value.slice a l.length cap)) ∧ (W.cell? ⟨w.heap.size + 1, 0, none⟩ = some (.int .i64 x0) ∧ W.cell? ⟨w.heap.size + 1, 1, none⟩ = some (.int .i64 1) ∧ W.cell? ⟨w.heap.size + 1, 2, none⟩ = some (.int .i64 x2) ∧ W.cell? ⟨w.heap.size + 1, 3, none⟩ = some (.string x3) ∧ W.cell? ⟨w.heap.size + 1, 4, none⟩ = some (.slice ad es.length c)) ∧ Below w1.heap.size w1 W)) (by kernel_rfl) ?_ (fun hHeld => ?_)
      · try dsimp only
        (go_split_ands; first | exact HALL.out _ (by assumption) | exact HALL.out _ (Below.drew (by assumption)) | exact HALL.out _ (below_step1 (by assumption) (by assumption)))
      change wpAnyH _ _ _ _ _ 20 #[false, false, false, false, false, false, false, false, false, false, false, false, false, false, false, false, false, false, false, false] _ _
      clear hB0
      refine wpH_take (i := 0) (v := ?_) rfl (by kernel_rfl) (by kernel_rfl) (by kernel_rfl) (fun _ _ _ h => h) (by rfl) ?_ (by assumption) ?_; rotate_left; (focus (intro w hSw; (try dsimp only at hSw); go_simp; try with_reducible rfl)); try simp only [Act.put, List.setIfInBounds_toArray, List.set_cons_zero, List.set_cons_succ]
      refine wpH_take (i := 1) (v := ?_) rfl (by kernel_rfl) (by kernel_rfl) (by kernel_rfl) (fun _ _ _ h => h) (by rfl) ?_ (by assumption) ?_; rotate_left; (focus (intro w hSw; (try dsimp only at hSw); go_simp; try with_reducible rfl)); try simp only [Act.put, List.setIfInBounds_toArray, List.set_cons_zero, List.set_cons_succ]
      refine wpH_take (i := 2) (v := ?_) rfl (by kernel_rfl) (by kernel_rfl) (by kernel_rfl) (fun _ _ _ h => h) (by rfl) ?_ (by assumption) ?_; rotate_left; (focus (intro w hSw; (try dsimp only at hSw); go_simp; try with_reducible rfl)); try simp only [Act.put, List.setIfInBounds_toArray, List.set_cons_zero, List.set_cons_succ]
      refine wpH_take (i := 3) (v := ?_) rfl (by kernel_rfl) (by kernel_rfl) (by kernel_rfl) (fun _ _ _ h => h) (by rfl) ?_ (by assumption) ?_; rotate_left; (focus (intro w hSw; (try dsimp only at hSw); go_simp; try with_reducible rfl)); try simp only [Act.put, List.setIfInBounds_toArray, List.set_cons_zero, List.set_cons_succ]
      refine wpH_take (i := 4) (v := ?_) rfl (by kernel_rfl) (by kernel_rfl) (by kernel_rfl) (fun _ _ _ h => h) (by rfl) ?_ (by assumption) ?_; rotate_left; (focus (intro w hSw; (try dsimp only at hSw); go_simp; try with_reducible rfl)); try simp only [Act.put, List.setIfInBounds_toArray, List.set_cons_zero, List.set_cons_succ]
      refine wpH_off (i := 5) rfl (by kernel_rfl) (by kernel_rfl) (by kernel_rfl) (fun _ _ _ h => h) (by rfl) (by assumption) ?_; try simp only [Act.put, List.setIfInBounds_toArray, List.set_cons_zero, List.set_cons_succ]
      refine wpH_off (i := 6) rfl (by kernel_rfl) (by kernel_rfl) (by kernel_rfl) (fun _ _ _ h => h) (by rfl) (by assumption) ?_; try simp only [Act.put, List.setIfInBounds_toArray, List.set_cons_zero, List.set_cons_succ]
      refine wpH_off (i := 7) rfl (by kernel_rfl) (by kernel_rfl) (by kernel_rfl) (fun _ _ _ h => h) (by rfl) (by assumption) ?_; try simp only [Act.put, List.setIfInBounds_toArray, List.set_cons_zero, List.set_cons_succ]
      refine wpH_off (i := 8) rfl (by kernel_rfl) (by kernel_rfl) (by kernel_rfl) (fun _ _ _ h => h) (by rfl) (by assumption) ?_; try simp only [Act.put, List.setIfInBounds_toArray, List.set_cons_zero, List.set_cons_succ]
      refine wpH_take (i := 9) (v := ?_) rfl (by kernel_rfl) (by kernel_rfl) (by kernel_rfl) (fun _ _ _ h => h) (by rfl) ?_ (by assumption) ?_; rotate_left; (focus (intro w hSw; (try dsimp only at hSw); go_simp; try with_reducible rfl)); try simp only [Act.put, List.setIfInBounds_toArray, List.set_cons_zero, List.set_cons_succ]
      refine wpH_take (i := 10) (v := ?_) rfl (by kernel_rfl) (by kernel_rfl) (by kernel_rfl) (fun _ _ _ h => h) (by rfl) ?_ (by assumption) ?_; rotate_left; (focus (intro w hSw; (try dsimp only at hSw); go_simp; try with_reducible rfl)); try simp only [Act.put, List.setIfInBounds_toArray, List.set_cons_zero, List.set_cons_succ]
      refine wpH_off (i := 11) rfl (by kernel_rfl) (by kernel_rfl) (by kernel_rfl) (fun _ _ _ h => h) (by rfl) (by assumption) ?_; try simp only [Act.put, List.setIfInBounds_toArray, List.set_cons_zero, List.set_cons_succ]
      refine wpH_off (i := 12) rfl (by kernel_rfl) (by kernel_rfl) (by kernel_rfl) (fun _ _ _ h => h) (by rfl) (by assumption) ?_; try simp only [Act.put, List.setIfInBounds_toArray, List.set_cons_zero, List.set_cons_succ]
      refine wpH_off (i := 13) rfl (by kernel_rfl) (by kernel_rfl) (by kernel_rfl) (fun _ _ _ h => h) (by rfl) (by assumption) ?_; try simp only [Act.put, List.setIfInBounds_toArray, List.set_cons_zero, List.set_cons_succ]
      refine wpH_off (i := 14) rfl (by kernel_rfl) (by kernel_rfl) (by kernel_rfl) (fun _ _ _ h => h) (by rfl) (by assumption) ?_; try simp only [Act.put, List.setIfInBounds_toArray, List.set_cons_zero, List.set_cons_succ]
      refine wpH_off (i := 15) rfl (by kernel_rfl) (by kernel_rfl) (by kernel_rfl) (fun _ _ _ h => h) (by rfl) (by assumption) ?_; try simp only [Act.put, List.setIfInBounds_toArray, List.set_cons_zero, List.set_cons_succ]
      refine wpH_off (i := 16) rfl (by kernel_rfl) (by kernel_rfl) (by kernel_rfl) (fun _ _ _ h => h) (by rfl) (by assumption) ?_; try simp only [Act.put, List.setIfInBounds_toArray, List.set_cons_zero, List.set_cons_succ]
      refine wpH_off (i := 17) rfl (by kernel_rfl) (by kernel_rfl) (by kernel_rfl) (fun _ _ _ h => h) (by rfl) (by assumption) ?_; try simp only [Act.put, List.setIfInBounds_toArray, List.set_cons_zero, List.set_cons_succ]
      refine wpH_take (i := 18) (v := ?_) rfl (by kernel_rfl) (by kernel_rfl) (by kernel_rfl) (fun _ _ _ h => h) (by rfl) ?_ (by assumption) ?_; rotate_left; (focus (intro w hSw; (try dsimp only at hSw); go_simp; try with_reducible rfl)); try simp only [Act.put, List.setIfInBounds_toArray, List.set_cons_zero, List.set_cons_succ]
      refine wpH_take (i := 19) (v := ?_) rfl (by kernel_rfl) (by kernel_rfl) (by kernel_rfl) (fun _ _ _ h => h) (by rfl) ?_ (by assumption) ?_; rotate_left; (focus (intro w hSw; (try dsimp only at hSw); go_simp; try with_reducible rfl)); try simp only [Act.put, List.setIfInBounds_toArray, List.set_cons_zero, List.set_cons_succ]
      refine wpAnyH_done (by kernel_rfl) ?_ _
      try dsimp only at hHeld
      have HBF := Lib.hid (below_step1 HB.out hHeld.2.2)
      clear hHeld
      go_wp2
      go_ret
      exact ⟨ret_bool HR.out.symm, HBF.out⟩
  · by_cases hk2 : x1 = 2
    rotate_left
    · have HR := Lib.hid (inoC_none (l := l) (x := ⟨x0, x1, x2, x3, es⟩) hk1 hk2)
      have hk3 : (x1 == 1) = false := by simp [hk1]
      have hk4 : (x1 == 2) = false := by simp [hk2]
      have hk5 : (x1 != 2) = true := by simp [hk2]
      clear hlk hk1 hk2
      go_wp2
      go_ret
      exact ⟨ret_bool HR.out.symm, HB.out⟩
    clear hk1
    subst hk2
    have hk3 : ((2 : Int) == 1) = false := rfl
    have hk4 : ((2 : Int) == 2) = true := rfl
    have hk5 : ((2 : Int) != 2) = false := rfl
    have HD := Lib.hid (inoC_dir (l := l) (x := ⟨x0, 2, x2, x3, es⟩) rfl)
    by_cases hd0 : x3.size = 0
    rotate_left
    · have HR : Hid (inoB l ⟨x0, 2, x2, x3, es⟩ = false) := Lib.hid (by rw [HD.out, decide_eq_false hd0]; rfl)
      have hq : x3.toList.isEmpty = false := by rw [empty_sizeC]; simp [hd0]
      clear hd0 hlk
      go_wp2
      go_ret
      exact ⟨ret_bool HR.out.symm, HB.out⟩
    have hq : x3.toList.isEmpty = true := by rw [empty_sizeC]; simp [hd0]
    by_cases hl1 : x2 = 1
    rotate_left
    · have HR : Hid (inoB l ⟨x0, 2, x2, x3, es⟩ = false) := Lib.hid (by rw [HD.out, decide_eq_false hl1]; simp)
      have hq2 : (x2 != 1) = true := by simp [hl1]
      clear hd0 hlk hl1
      go_wp2
      go_ret
      exact ⟨ret_bool HR.out.symm, HB.out⟩
    have hq2 : (x2 != 1) = false := by simp [hl1]
    have HD2 : Hid (inoB l ⟨x0, 2, x2, x3, es⟩ = (dirB es && ((decide (x0 = 1) || decide (linksF l x0 = 1)) && es.all (kidB l)))) := Lib.hid (by rw [HD.out, decide_eq_true hd0, decide_eq_true hl1]; rfl)
    clear hd0 hl1 HD
    have HDK := Lib.hid (fun W (hW : Below w1.heap.size w1 W) => specDirOk_any ad es.length c es W (HE.out.below hW (Nat.le_refl _)) HS.out)
    have HLK := Lib.hid hlk
    clear hlk
    go_wp2_with fail
    refine (HDK.out _ (Below.refl _ _)).mono ?_
    rintro e w2 ⟨rfl, hb⟩
    have HB2 := Lib.hid hb
    clear hb c0 c1 d0 d1 d2 d3 d4
    obtain ⟨⟨c0, c1⟩, ⟨d0, d1, d2, d3, d4⟩, -⟩ := HALL.out w2 HB2.out
    have hz2 : w.heap.size < w2.heap.size := World.block_lt_of_cell? w2 _ c0
    have hz3 : w.heap.size + 1 < w2.heap.size := World.block_lt_of_cell? w2 _ d0
    cases hdir : dirB es with
    | false =>
      have HR : Hid (inoB l ⟨x0, 2, x2, x3, es⟩ = false) := Lib.hid (by rw [HD2.out, hdir]; rfl)
      have HBF := Lib.hid (below_step1 HB.out HB2.out)
      clear hdir
      go_wp2
      go_ret
      exact ⟨ret_bool HR.out.symm, HBF.out⟩
    | true =>
      have HD3 : Hid (inoB l ⟨x0, 2, x2, x3, es⟩ = ((decide (x0 = 1) || decide (linksF l x0 = 1)) && es.all (kidB l))) := Lib.hid (by rw [HD2.out, hdir]; rfl)
      have HDR := Lib.hid hdir
      clear hdir
      by_cases hx1 : x0 = 1
      · have hq3 : (x0 != 1) = false := by simp [hx1]
        have HD4 : Hid (inoB l ⟨x0, 2, x2, x3, es⟩ = es.all (kidB l)) := Lib.hid (by rw [HD3.out, decide_eq_true hx1]; rfl)
        clear hx1
        go_wp2
        clear c0 c1 d0 d1 d2 d3
        go_loopg [5] es.length (fun gg i wr => ∃ k : Nat, k + gg = es.length ∧ i = .int .i64 (k : Int) ∧ Hid ((es.take k).all (kidB l) = true) ∧ Hid (Below w1.heap.size w1 wr))
        case atStart => exact ⟨0, by omega, rfl, Lib.hid rfl, HB2⟩
        case round =>
          obtain ⟨k, hk, rfl, HM, HBR⟩ := hrel
          clear d4
          obtain ⟨⟨c0, c1⟩, ⟨d0, d1, d2, d3, d4⟩, -⟩ := HALL.out wr HBR.out
          have hz8 : w.heap.size < wr.heap.size := World.block_lt_of_cell? wr _ c0
          have hz9 : w.heap.size + 1 < wr.heap.size := World.block_lt_of_cell? wr _ d0
          by_cases hlt : k < es.length
          · obtain ⟨b, off, rfl, hbs, e0, e1, e2, e3⟩ := ens_cells (HE.out.below HBR.out (Nat.le_refl _)) k hlt
            have HKY : Hid (∀ W, Below wr.heap.size wr W → W.cell? ⟨b, off + k * 4 + 3, none⟩ = some (.int .i64 es[k].id)) := Lib.hid (fun W hW => cellK e3 hW)
            have HH : Hid (kidB l es[k] = false → es.all (kidB l) = false) := Lib.hid (fun e => by rw [List.all_eq_false]; exact ⟨es[k], List.getElem_mem hlt, by rw [e]; decide⟩)
            have HN : Hid (kidB l es[k] = true → (es.take (k + 1)).all (kidB l) = true) := Lib.hid (fun e => by rw [List.take_succ_eq_append_getElem hlt, List.all_append, HM.out]; simpa using e)
            have HKB : Hid (kidB l es[k] = (!(es[k].id == 1) && decide (0 ≤ atF l es[k].id))) := Lib.hid rfl
            have hki : (k : Int) < (es.length : Int) := by omega
            have hk0 : (0 : Int) ≤ (k : Int) := by omega
            have HBR2 := Lib.hid (fun W (hW : Below wr.heap.size wr W) => HALL.out W (below_step1 HBR.out hW))
            have hB1 := Below.refl wr.heap.size wr
            have har := atF_range l es[k].id
            clear e0 e1 e2 e3
            generalize kidB l es[k] = kb at *
            generalize es[k].id = y at *
            clear hlt
            have HAT : Hid (∀ W, Below w1.heap.size w1 W → Calls Tryz.prog 69 #[.agg #[.int .i64 next, .slice a l.length cap], .int .i64 y] W fun e w' => e = .returned (.int .i64 (atF l y)) ∧ Below W.heap.size W w') := Lib.hid (fun W hW => l6At_any next a _ cap l y W (H.out.step hW))
            generalize atF l y = r at *
            have HALK : Hid (∀ W, Below wr.heap.size wr W → ((W.cell? ⟨w.heap.size, 0, none⟩ = some (Value.int .i64 next) ∧ W.cell? ⟨w.heap.size, 1, none⟩ = some (Value.slice a l.length cap)) ∧ (W.cell? ⟨w.heap.size + 1, 0, none⟩ = some (.int .i64 x0) ∧ W.cell? ⟨w.heap.size + 1, 1, none⟩ = some (.int .i64 2) ∧ W.cell? ⟨w.heap.size + 1, 2, none⟩ = some (.int .i64 x2) ∧ W.cell? ⟨w.heap.size + 1, 3, none⟩ = some (.string x3) ∧ W.cell? ⟨w.heap.size + 1, 4, none⟩ = some (.slice (some ⟨b, off, none⟩) es.length c)) ∧ W.cell? ⟨b, off + k * 4 + 3, none⟩ = some (.int .i64 y) ∧ Below wr.heap.size wr W)) := Lib.hid (fun W hW => ⟨(HBR2.out W hW).1, (HBR2.out W hW).2.1, HKY.out W hW, hW⟩)
            by_cases hy : y = 1
            · have hye : (y == 1) = true := by simp [hy]
              have HR : Hid (inoB l ⟨x0, 2, x2, x3, es⟩ = false) := Lib.hid (by rw [HD4.out, HH.out (by rw [HKB.out, hye]; rfl)])
              clear hy HH HN HKB har
              go_wp2
              refine wp_region_held_drew (S := (fun W => (W.cell? ⟨w.heap.size, 0, none⟩ = some (Value.int .i64 next) ∧ W.cell? ⟨w.heap.size, 1, none⟩ = some (Value.slice a l.length cap)) ∧ (W.cell? ⟨w.heap.size + 1, 0, none⟩ = some (.int .i64 x0) ∧ W.cell? ⟨w.heap.size + 1, 1, none⟩ = some (.int .i64 2) ∧ W.cell? ⟨w.heap.size + 1, 2, none⟩ = some (.int .i64 x2) ∧ W.cell? ⟨w.heap.size + 1, 3, none⟩ = some (.string x3) ∧ W.cell? ⟨w.heap.size + 1, 4, none⟩ = some (.slice (some ⟨b, off, none⟩) es.length c)) ∧ W.cell? ⟨b, off + k * 4 + 3, none⟩ = some (.int .i64 y) ∧ Below wr.heap.size wr W)) (by kernel_rfl) ?_ (fun hHeld => ?_)
              · try dsimp only
                (go_split_ands; first | exact HALK.out _ (by assumption) | exact HALK.out _ (Below.drew (by assumption)) | exact HALK.out _ (below_step1 (by assumption) (by assumption)))
              change wpAnyH _ _ _ _ _ 18 #[false, false, false, false, false, false, false, false, false, false, false, false, false, false, false, false, false, false] _ _
              clear hB1
              refine wpH_take (i := 0) (v := ?_) rfl (by kernel_rfl) (by kernel_rfl) (by kernel_rfl) (fun _ _ _ h => h) (by rfl) ?_ (by assumption) ?_; rotate_left; (focus (intro w hSw; (try dsimp only at hSw); go_simp; try with_reducible rfl)); try simp only [Act.put, List.setIfInBounds_toArray, List.set_cons_zero, List.set_cons_succ]
              refine wpH_take (i := 1) (v := ?_) rfl (by kernel_rfl) (by kernel_rfl) (by kernel_rfl) (fun _ _ _ h => h) (by rfl) ?_ (by assumption) ?_; rotate_left; (focus (intro w hSw; (try dsimp only at hSw); go_simp; try with_reducible rfl)); try simp only [Act.put, List.setIfInBounds_toArray, List.set_cons_zero, List.set_cons_succ]
              refine wpH_take (i := 2) (v := ?_) rfl (by kernel_rfl) (by kernel_rfl) (by kernel_rfl) (fun _ _ _ h => h) (by rfl) ?_ (by assumption) ?_; rotate_left; (focus (intro w hSw; (try dsimp only at hSw); go_simp; try with_reducible rfl)); try simp only [Act.put, List.setIfInBounds_toArray, List.set_cons_zero, List.set_cons_succ]
              refine wpH_take (i := 3) (v := ?_) rfl (by kernel_rfl) (by kernel_rfl) (by kernel_rfl) (fun _ _ _ h => h) (by rfl) ?_ (by assumption) ?_; rotate_left; (focus (intro w hSw; (try dsimp only at hSw); go_simp; try with_reducible rfl)); try simp only [Act.put, List.setIfInBounds_toArray, List.set_cons_zero, List.set_cons_succ]
              refine wpH_take (i := 4) (v := ?_) rfl (by kernel_rfl) (by kernel_rfl) (by kernel_rfl) (fun _ _ _ h => h) (by rfl) ?_ (by assumption) ?_; rotate_left; (focus (intro w hSw; (try dsimp only at hSw); go_simp; try with_reducible rfl)); try simp only [Act.put, List.setIfInBounds_toArray, List.set_cons_zero, List.set_cons_succ]
              refine wpH_take (i := 5) (v := ?_) rfl (by kernel_rfl) (by kernel_rfl) (by kernel_rfl) (fun _ _ _ h => h) (by rfl) ?_ (by assumption) ?_; rotate_left; (focus (intro w hSw; (try dsimp only at hSw); go_simp; try with_reducible rfl)); try simp only [Act.put, List.setIfInBounds_toArray, List.set_cons_zero, List.set_cons_succ]
              refine wpH_take (i := 6) (v := ?_) rfl (by kernel_rfl) (by kernel_rfl) (by kernel_rfl) (fun _ _ _ h => h) (by rfl) ?_ (by assumption) ?_; rotate_left; (focus (intro w hSw; (try dsimp only at hSw); go_simp; try with_reducible rfl)); try simp only [Act.put, List.setIfInBounds_toArray, List.set_cons_zero, List.set_cons_succ]
              refine wpH_take (i := 7) (v := ?_) rfl (by kernel_rfl) (by kernel_rfl) (by kernel_rfl) (fun _ _ _ h => h) (by rfl) ?_ (by assumption) ?_; rotate_left; (focus (intro w hSw; (try dsimp only at hSw); go_simp; try with_reducible rfl)); try simp only [Act.put, List.setIfInBounds_toArray, List.set_cons_zero, List.set_cons_succ]
              refine wpH_off (i := 8) rfl (by kernel_rfl) (by kernel_rfl) (by kernel_rfl) (fun _ _ _ h => h) (by rfl) (by assumption) ?_; try simp only [Act.put, List.setIfInBounds_toArray, List.set_cons_zero, List.set_cons_succ]
              refine wpH_off (i := 9) rfl (by kernel_rfl) (by kernel_rfl) (by kernel_rfl) (fun _ _ _ h => h) (by rfl) (by assumption) ?_; try simp only [Act.put, List.setIfInBounds_toArray, List.set_cons_zero, List.set_cons_succ]
              refine wpH_off (i := 10) rfl (by kernel_rfl) (by kernel_rfl) (by kernel_rfl) (fun _ _ _ h => h) (by rfl) (by assumption) ?_; try simp only [Act.put, List.setIfInBounds_toArray, List.set_cons_zero, List.set_cons_succ]
              refine wpH_off (i := 11) rfl (by kernel_rfl) (by kernel_rfl) (by kernel_rfl) (fun _ _ _ h => h) (by rfl) (by assumption) ?_; try simp only [Act.put, List.setIfInBounds_toArray, List.set_cons_zero, List.set_cons_succ]
              refine wpH_off (i := 12) rfl (by kernel_rfl) (by kernel_rfl) (by kernel_rfl) (fun _ _ _ h => h) (by rfl) (by assumption) ?_; try simp only [Act.put, List.setIfInBounds_toArray, List.set_cons_zero, List.set_cons_succ]
              refine wpH_off (i := 13) rfl (by kernel_rfl) (by kernel_rfl) (by kernel_rfl) (fun _ _ _ h => h) (by rfl) (by assumption) ?_; try simp only [Act.put, List.setIfInBounds_toArray, List.set_cons_zero, List.set_cons_succ]
              refine wpH_off (i := 14) rfl (by kernel_rfl) (by kernel_rfl) (by kernel_rfl) (fun _ _ _ h => h) (by rfl) (by assumption) ?_; try simp only [Act.put, List.setIfInBounds_toArray, List.set_cons_zero, List.set_cons_succ]
              refine wpH_off (i := 15) rfl (by kernel_rfl) (by kernel_rfl) (by kernel_rfl) (fun _ _ _ h => h) (by rfl) (by assumption) ?_; try simp only [Act.put, List.setIfInBounds_toArray, List.set_cons_zero, List.set_cons_succ]
              refine wpH_off (i := 16) rfl (by kernel_rfl) (by kernel_rfl) (by kernel_rfl) (fun _ _ _ h => h) (by rfl) (by assumption) ?_; try simp only [Act.put, List.setIfInBounds_toArray, List.set_cons_zero, List.set_cons_succ]
              refine wpH_take (i := 17) (v := ?_) rfl (by kernel_rfl) (by kernel_rfl) (by kernel_rfl) (fun _ _ _ h => h) (by rfl) ?_ (by assumption) ?_; rotate_left; (focus (intro w hSw; (try dsimp only at hSw); go_simp; try with_reducible rfl)); try simp only [Act.put, List.setIfInBounds_toArray, List.set_cons_zero, List.set_cons_succ]
              refine wpAnyH_done (by kernel_rfl) ?_ _
              try dsimp only at hHeld
              have HBF := Lib.hid (below_step1 HB.out (below_step1 HBR.out hHeld.2.2.2))
              clear hHeld
              go_wp2
              go_ret
              exact ⟨ret_bool HR.out.symm, HBF.out⟩
            · have hye : (y == 1) = false := by simp [hy]
              by_cases hr0 : 0 ≤ r
              · have hrn : (r < 0) = False := eq_false (by omega)
                have HN2 := Lib.hid (HN.out (by rw [HKB.out, hye, decide_eq_true hr0]; rfl))
                clear hy HH HN HKB
                go_wp2
                refine wp_region_held_drew (S := (fun W => (W.cell? ⟨w.heap.size, 0, none⟩ = some (Value.int .i64 next) ∧ W.cell? ⟨w.heap.size, 1, none⟩ = some (Value.slice a l.length cap)) ∧ (W.cell? ⟨w.heap.size + 1, 0, none⟩ = some (.int .i64 x0) ∧ W.cell? ⟨w.heap.size + 1, 1, none⟩ = some (.int .i64 2) ∧ W.cell? ⟨w.heap.size + 1, 2, none⟩ = some (.int .i64 x2) ∧ W.cell? ⟨w.heap.size + 1, 3, none⟩ = some (.string x3) ∧ W.cell? ⟨w.heap.size + 1, 4, none⟩ = some (.slice (some ⟨b, off, none⟩) es.length c)) ∧ W.cell? ⟨b, off + k * 4 + 3, none⟩ = some (.int .i64 y) ∧ Below wr.heap.size wr W)) (by kernel_rfl) ?_ (fun hHeld => ?_)
                · try dsimp only
                  (go_split_ands; first | exact HALK.out _ (by assumption) | exact HALK.out _ (Below.drew (by assumption)) | exact HALK.out _ (below_step1 (by assumption) (by assumption)))
                change wpAnyH _ _ _ _ _ 18 #[false, false, false, false, false, false, false, false, false, false, false, false, false, false, false, false, false, false] _ _
                clear hB1
                refine wpH_take (i := 0) (v := ?_) rfl (by kernel_rfl) (by kernel_rfl) (by kernel_rfl) (fun _ _ _ h => h) (by rfl) ?_ (by assumption) ?_; rotate_left; (focus (intro w hSw; (try dsimp only at hSw); go_simp; try with_reducible rfl)); try simp only [Act.put, List.setIfInBounds_toArray, List.set_cons_zero, List.set_cons_succ]
                refine wpH_take (i := 1) (v := ?_) rfl (by kernel_rfl) (by kernel_rfl) (by kernel_rfl) (fun _ _ _ h => h) (by rfl) ?_ (by assumption) ?_; rotate_left; (focus (intro w hSw; (try dsimp only at hSw); go_simp; try with_reducible rfl)); try simp only [Act.put, List.setIfInBounds_toArray, List.set_cons_zero, List.set_cons_succ]
                refine wpH_take (i := 2) (v := ?_) rfl (by kernel_rfl) (by kernel_rfl) (by kernel_rfl) (fun _ _ _ h => h) (by rfl) ?_ (by assumption) ?_; rotate_left; (focus (intro w hSw; (try dsimp only at hSw); go_simp; try with_reducible rfl)); try simp only [Act.put, List.setIfInBounds_toArray, List.set_cons_zero, List.set_cons_succ]
                refine wpH_take (i := 3) (v := ?_) rfl (by kernel_rfl) (by kernel_rfl) (by kernel_rfl) (fun _ _ _ h => h) (by rfl) ?_ (by assumption) ?_; rotate_left; (focus (intro w hSw; (try dsimp only at hSw); go_simp; try with_reducible rfl)); try simp only [Act.put, List.setIfInBounds_toArray, List.set_cons_zero, List.set_cons_succ]
                refine wpH_take (i := 4) (v := ?_) rfl (by kernel_rfl) (by kernel_rfl) (by kernel_rfl) (fun _ _ _ h => h) (by rfl) ?_ (by assumption) ?_; rotate_left; (focus (intro w hSw; (try dsimp only at hSw); go_simp; try with_reducible rfl)); try simp only [Act.put, List.setIfInBounds_toArray, List.set_cons_zero, List.set_cons_succ]
                refine wpH_take (i := 5) (v := ?_) rfl (by kernel_rfl) (by kernel_rfl) (by kernel_rfl) (fun _ _ _ h => h) (by rfl) ?_ (by assumption) ?_; rotate_left; (focus (intro w hSw; (try dsimp only at hSw); go_simp; try with_reducible rfl)); try simp only [Act.put, List.setIfInBounds_toArray, List.set_cons_zero, List.set_cons_succ]
                refine wpH_take (i := 6) (v := ?_) rfl (by kernel_rfl) (by kernel_rfl) (by kernel_rfl) (fun _ _ _ h => h) (by rfl) ?_ (by assumption) ?_; rotate_left; (focus (intro w hSw; (try dsimp only at hSw); go_simp; try with_reducible rfl)); try simp only [Act.put, List.setIfInBounds_toArray, List.set_cons_zero, List.set_cons_succ]
                refine wpH_take (i := 7) (v := ?_) rfl (by kernel_rfl) (by kernel_rfl) (by kernel_rfl) (fun _ _ _ h => h) (by rfl) ?_ (by assumption) ?_; rotate_left; (focus (intro w hSw; (try dsimp only at hSw); go_simp; try with_reducible rfl)); try simp only [Act.put, List.setIfInBounds_toArray, List.set_cons_zero, List.set_cons_succ]
                refine wpH_take (i := 8) (v := ?_) rfl (by kernel_rfl) (by kernel_rfl) (by kernel_rfl) (fun _ _ _ h => h) (by rfl) ?_ (by assumption) ?_; rotate_left; (focus (intro w hSw; (try dsimp only at hSw); go_simp; try with_reducible rfl)); try simp only [Act.put, List.setIfInBounds_toArray, List.set_cons_zero, List.set_cons_succ]
                refine wpH_take (i := 9) (v := ?_) rfl (by kernel_rfl) (by kernel_rfl) (by kernel_rfl) (fun _ _ _ h => h) (by rfl) ?_ (by assumption) ?_; rotate_left; (focus (intro w hSw; (try dsimp only at hSw); go_simp; try with_reducible rfl)); try simp only [Act.put, List.setIfInBounds_toArray, List.set_cons_zero, List.set_cons_succ]
                refine wpH_take (i := 10) (v := ?_) rfl (by kernel_rfl) (by kernel_rfl) (by kernel_rfl) (fun _ _ _ h => h) (by rfl) ?_ (by assumption) ?_; rotate_left; (focus (intro w hSw; (try dsimp only at hSw); go_simp; try with_reducible rfl)); try simp only [Act.put, List.setIfInBounds_toArray, List.set_cons_zero, List.set_cons_succ]
                refine wpH_take (i := 11) (v := ?_) rfl (by kernel_rfl) (by kernel_rfl) (by kernel_rfl) (fun _ _ _ h => h) (by rfl) ?_ (by assumption) ?_; rotate_left; (focus (intro w hSw; (try dsimp only at hSw); go_simp; try with_reducible rfl)); try simp only [Act.put, List.setIfInBounds_toArray, List.set_cons_zero, List.set_cons_succ]
                refine wpH_take (i := 12) (v := ?_) rfl (by kernel_rfl) (by kernel_rfl) (by kernel_rfl) (fun _ _ _ h => h) (by rfl) ?_ (by assumption) ?_; rotate_left; (focus (intro w hSw; (try dsimp only at hSw); go_simp; try with_reducible rfl)); try simp only [Act.put, List.setIfInBounds_toArray, List.set_cons_zero, List.set_cons_succ]
                refine wpH_take (i := 13) (v := ?_) rfl (by kernel_rfl) (by kernel_rfl) (by kernel_rfl) (fun _ _ _ h => h) (by rfl) ?_ (by assumption) ?_; rotate_left; (focus (intro w hSw; (try dsimp only at hSw); go_simp; try with_reducible rfl)); try simp only [Act.put, List.setIfInBounds_toArray, List.set_cons_zero, List.set_cons_succ]
                refine wpH_take (i := 14) (v := ?_) rfl (by kernel_rfl) (by kernel_rfl) (by kernel_rfl) (fun _ _ _ h => h) (by rfl) ?_ (by assumption) ?_; rotate_left; (focus (intro w hSw; (try dsimp only at hSw); go_simp; try with_reducible rfl)); try simp only [Act.put, List.setIfInBounds_toArray, List.set_cons_zero, List.set_cons_succ]
                refine wpAnyH_ready (rs := [15]) (by kernel_rfl) (by simp) ?_
                refine AllReadyH.cons rfl (fun K hK => ?_) AllReadyH.nil
                try dsimp only at hHeld
                go_simp
                (go_at_call 69; refine (HAT.out _ (below_step1 HBR.out hHeld.2.2.2)).mono ?_; rintro e w6 ⟨rfl, hbk⟩)
                refine hK.out _ _ ?_ (fun hHeld2 => ?_)
                · try dsimp only
                  (go_split_ands; first | exact HALK.out _ (by assumption) | exact HALK.out _ (Below.drew (by assumption)) | exact HALK.out _ (below_step1 (by assumption) (by assumption)))
                clear hK K hHeld
                have hHeld := hHeld2
                clear hHeld2
                clear hbk
                refine wpH_take (i := 16) (v := ?_) rfl (by kernel_rfl) (by kernel_rfl) (by kernel_rfl) (fun _ _ _ h => h) (by rfl) ?_ (by assumption) ?_; rotate_left; (focus (intro w hSw; (try dsimp only at hSw); go_simp; try with_reducible rfl)); try simp only [Act.put, List.setIfInBounds_toArray, List.set_cons_zero, List.set_cons_succ]
                refine wpH_take (i := 17) (v := ?_) rfl (by kernel_rfl) (by kernel_rfl) (by kernel_rfl) (fun _ _ _ h => h) (by rfl) ?_ (by assumption) ?_; rotate_left; (focus (intro w hSw; (try dsimp only at hSw); go_simp; try with_reducible rfl)); try simp only [Act.put, List.setIfInBounds_toArray, List.set_cons_zero, List.set_cons_succ]
                refine wpAnyH_done (by kernel_rfl) ?_ _
                try dsimp only at hHeld
                have HBG := Lib.hid (below_step1 HBR.out hHeld.2.2.2)
                clear hHeld
                go_wp2
                go_roundg (gk - 1)
                case measure => omega
                case rel => exact ⟨k + 1, by omega, by go_num, HN2, HBG⟩
              · have hrn : (r < 0) = True := eq_true (by omega)
                have HR : Hid (inoB l ⟨x0, 2, x2, x3, es⟩ = false) := Lib.hid (by rw [HD4.out, HH.out (by rw [HKB.out, hye, decide_eq_false hr0]; rfl)])
                clear hy HH HN HKB
                go_wp2
                refine wp_region_held_drew (S := (fun W => (W.cell? ⟨w.heap.size, 0, none⟩ = some (Value.int .i64 next) ∧ W.cell? ⟨w.heap.size, 1, none⟩ = some (Value.slice a l.length cap)) ∧ (W.cell? ⟨w.heap.size + 1, 0, none⟩ = some (.int .i64 x0) ∧ W.cell? ⟨w.heap.size + 1, 1, none⟩ = some (.int .i64 2) ∧ W.cell? ⟨w.heap.size + 1, 2, none⟩ = some (.int .i64 x2) ∧ W.cell? ⟨w.heap.size + 1, 3, none⟩ = some (.string x3) ∧ W.cell? ⟨w.heap.size + 1, 4, none⟩ = some (.slice (some ⟨b, off, none⟩) es.length c)) ∧ W.cell? ⟨b, off + k * 4 + 3, none⟩ = some (.int .i64 y) ∧ Below wr.heap.size wr W)) (by kernel_rfl) ?_ (fun hHeld => ?_)
                · try dsimp only
                  (go_split_ands; first | exact HALK.out _ (by assumption) | exact HALK.out _ (Below.drew (by assumption)) | exact HALK.out _ (below_step1 (by assumption) (by assumption)))
                change wpAnyH _ _ _ _ _ 18 #[false, false, false, false, false, false, false, false, false, false, false, false, false, false, false, false, false, false] _ _
                clear hB1
                refine wpH_take (i := 0) (v := ?_) rfl (by kernel_rfl) (by kernel_rfl) (by kernel_rfl) (fun _ _ _ h => h) (by rfl) ?_ (by assumption) ?_; rotate_left; (focus (intro w hSw; (try dsimp only at hSw); go_simp; try with_reducible rfl)); try simp only [Act.put, List.setIfInBounds_toArray, List.set_cons_zero, List.set_cons_succ]
                refine wpH_take (i := 1) (v := ?_) rfl (by kernel_rfl) (by kernel_rfl) (by kernel_rfl) (fun _ _ _ h => h) (by rfl) ?_ (by assumption) ?_; rotate_left; (focus (intro w hSw; (try dsimp only at hSw); go_simp; try with_reducible rfl)); try simp only [Act.put, List.setIfInBounds_toArray, List.set_cons_zero, List.set_cons_succ]
                refine wpH_take (i := 2) (v := ?_) rfl (by kernel_rfl) (by kernel_rfl) (by kernel_rfl) (fun _ _ _ h => h) (by rfl) ?_ (by assumption) ?_; rotate_left; (focus (intro w hSw; (try dsimp only at hSw); go_simp; try with_reducible rfl)); try simp only [Act.put, List.setIfInBounds_toArray, List.set_cons_zero, List.set_cons_succ]
                refine wpH_take (i := 3) (v := ?_) rfl (by kernel_rfl) (by kernel_rfl) (by kernel_rfl) (fun _ _ _ h => h) (by rfl) ?_ (by assumption) ?_; rotate_left; (focus (intro w hSw; (try dsimp only at hSw); go_simp; try with_reducible rfl)); try simp only [Act.put, List.setIfInBounds_toArray, List.set_cons_zero, List.set_cons_succ]
                refine wpH_take (i := 4) (v := ?_) rfl (by kernel_rfl) (by kernel_rfl) (by kernel_rfl) (fun _ _ _ h => h) (by rfl) ?_ (by assumption) ?_; rotate_left; (focus (intro w hSw; (try dsimp only at hSw); go_simp; try with_reducible rfl)); try simp only [Act.put, List.setIfInBounds_toArray, List.set_cons_zero, List.set_cons_succ]
                refine wpH_take (i := 5) (v := ?_) rfl (by kernel_rfl) (by kernel_rfl) (by kernel_rfl) (fun _ _ _ h => h) (by rfl) ?_ (by assumption) ?_; rotate_left; (focus (intro w hSw; (try dsimp only at hSw); go_simp; try with_reducible rfl)); try simp only [Act.put, List.setIfInBounds_toArray, List.set_cons_zero, List.set_cons_succ]
                refine wpH_take (i := 6) (v := ?_) rfl (by kernel_rfl) (by kernel_rfl) (by kernel_rfl) (fun _ _ _ h => h) (by rfl) ?_ (by assumption) ?_; rotate_left; (focus (intro w hSw; (try dsimp only at hSw); go_simp; try with_reducible rfl)); try simp only [Act.put, List.setIfInBounds_toArray, List.set_cons_zero, List.set_cons_succ]
                refine wpH_take (i := 7) (v := ?_) rfl (by kernel_rfl) (by kernel_rfl) (by kernel_rfl) (fun _ _ _ h => h) (by rfl) ?_ (by assumption) ?_; rotate_left; (focus (intro w hSw; (try dsimp only at hSw); go_simp; try with_reducible rfl)); try simp only [Act.put, List.setIfInBounds_toArray, List.set_cons_zero, List.set_cons_succ]
                refine wpH_take (i := 8) (v := ?_) rfl (by kernel_rfl) (by kernel_rfl) (by kernel_rfl) (fun _ _ _ h => h) (by rfl) ?_ (by assumption) ?_; rotate_left; (focus (intro w hSw; (try dsimp only at hSw); go_simp; try with_reducible rfl)); try simp only [Act.put, List.setIfInBounds_toArray, List.set_cons_zero, List.set_cons_succ]
                refine wpH_take (i := 9) (v := ?_) rfl (by kernel_rfl) (by kernel_rfl) (by kernel_rfl) (fun _ _ _ h => h) (by rfl) ?_ (by assumption) ?_; rotate_left; (focus (intro w hSw; (try dsimp only at hSw); go_simp; try with_reducible rfl)); try simp only [Act.put, List.setIfInBounds_toArray, List.set_cons_zero, List.set_cons_succ]
                refine wpH_take (i := 10) (v := ?_) rfl (by kernel_rfl) (by kernel_rfl) (by kernel_rfl) (fun _ _ _ h => h) (by rfl) ?_ (by assumption) ?_; rotate_left; (focus (intro w hSw; (try dsimp only at hSw); go_simp; try with_reducible rfl)); try simp only [Act.put, List.setIfInBounds_toArray, List.set_cons_zero, List.set_cons_succ]
                refine wpH_take (i := 11) (v := ?_) rfl (by kernel_rfl) (by kernel_rfl) (by kernel_rfl) (fun _ _ _ h => h) (by rfl) ?_ (by assumption) ?_; rotate_left; (focus (intro w hSw; (try dsimp only at hSw); go_simp; try with_reducible rfl)); try simp only [Act.put, List.setIfInBounds_toArray, List.set_cons_zero, List.set_cons_succ]
                refine wpH_take (i := 12) (v := ?_) rfl (by kernel_rfl) (by kernel_rfl) (by kernel_rfl) (fun _ _ _ h => h) (by rfl) ?_ (by assumption) ?_; rotate_left; (focus (intro w hSw; (try dsimp only at hSw); go_simp; try with_reducible rfl)); try simp only [Act.put, List.setIfInBounds_toArray, List.set_cons_zero, List.set_cons_succ]
                refine wpH_take (i := 13) (v := ?_) rfl (by kernel_rfl) (by kernel_rfl) (by kernel_rfl) (fun _ _ _ h => h) (by rfl) ?_ (by assumption) ?_; rotate_left; (focus (intro w hSw; (try dsimp only at hSw); go_simp; try with_reducible rfl)); try simp only [Act.put, List.setIfInBounds_toArray, List.set_cons_zero, List.set_cons_succ]
                refine wpH_take (i := 14) (v := ?_) rfl (by kernel_rfl) (by kernel_rfl) (by kernel_rfl) (fun _ _ _ h => h) (by rfl) ?_ (by assumption) ?_; rotate_left; (focus (intro w hSw; (try dsimp only at hSw); go_simp; try with_reducible rfl)); try simp only [Act.put, List.setIfInBounds_toArray, List.set_cons_zero, List.set_cons_succ]
                refine wpAnyH_ready (rs := [15]) (by kernel_rfl) (by simp) ?_
                refine AllReadyH.cons rfl (fun K hK => ?_) AllReadyH.nil
                try dsimp only at hHeld
                go_simp
                (go_at_call 69; refine (HAT.out _ (below_step1 HBR.out hHeld.2.2.2)).mono ?_; rintro e w6 ⟨rfl, hbk⟩)
                refine hK.out _ _ ?_ (fun hHeld2 => ?_)
                · try dsimp only
                  (go_split_ands; first | exact HALK.out _ (by assumption) | exact HALK.out _ (Below.drew (by assumption)) | exact HALK.out _ (below_step1 (by assumption) (by assumption)))
                clear hK K hHeld
                have hHeld := hHeld2
                clear hHeld2
                clear hbk
                refine wpH_take (i := 16) (v := ?_) rfl (by kernel_rfl) (by kernel_rfl) (by kernel_rfl) (fun _ _ _ h => h) (by rfl) ?_ (by assumption) ?_; rotate_left; (focus (intro w hSw; (try dsimp only at hSw); go_simp; try with_reducible rfl)); try simp only [Act.put, List.setIfInBounds_toArray, List.set_cons_zero, List.set_cons_succ]
                refine wpH_take (i := 17) (v := ?_) rfl (by kernel_rfl) (by kernel_rfl) (by kernel_rfl) (fun _ _ _ h => h) (by rfl) ?_ (by assumption) ?_; rotate_left; (focus (intro w hSw; (try dsimp only at hSw); go_simp; try with_reducible rfl)); try simp only [Act.put, List.setIfInBounds_toArray, List.set_cons_zero, List.set_cons_succ]
                refine wpAnyH_done (by kernel_rfl) ?_ _
                try dsimp only at hHeld
                have HBF := Lib.hid (below_step1 HB.out (below_step1 HBR.out hHeld.2.2.2))
                clear hHeld
                go_wp2
                go_ret
                exact ⟨ret_bool HR.out.symm, HBF.out⟩
          · have hkl : k = es.length := by omega
            subst hkl
            rw [List.take_length] at HM
            have HR : Hid (inoB l ⟨x0, 2, x2, x3, es⟩ = true) := Lib.hid (by rw [HD4.out, HM.out])
            have HBF := Lib.hid (below_step1 HB.out HBR.out)
            go_wp2
            go_ret
            exact ⟨ret_bool HR.out.symm, HBF.out⟩
      · have hq3 : (x0 != 1) = true := by simp [hx1]
        have HLC : Hid (∀ W, Below w1.heap.size w1 W → Calls Tryz.prog 67 #[.agg #[.int .i64 next, .slice a l.length cap], .int .i64 x0] W fun e w' => e = .returned (.int .i64 (linksF l x0 : Int)) ∧ Below W.heap.size W w') := Lib.hid (fun W hW => l6Named_any next a l.length cap l x0 W (H.out.step hW) HLK.out)
        go_wp2_with fail
        refine (HLC.out _ HB2.out).mono ?_
        rintro e w3 ⟨rfl, hb⟩
        have HB3 := Lib.hid (below_step1 HB2.out hb)
        clear hb c0 c1 d0 d1 d2 d3 d4
        obtain ⟨⟨c0, c1⟩, ⟨d0, d1, d2, d3, d4⟩, -⟩ := HALL.out w3 HB3.out
        have hz4 : w.heap.size < w3.heap.size := World.block_lt_of_cell? w3 _ c0
        have hz5 : w.heap.size + 1 < w3.heap.size := World.block_lt_of_cell? w3 _ d0
        by_cases hlk1 : linksF l x0 = 1
        · have HD4 : Hid (inoB l ⟨x0, 2, x2, x3, es⟩ = es.all (kidB l)) := Lib.hid (by rw [HD3.out, decide_eq_false hx1, decide_eq_true hlk1]; rfl)
          have hq4 : ((linksF l x0 : Int) != 1) = false := by simp; omega
          clear hx1 hlk1
          go_wp2
          clear c0 c1 d0 d1 d2 d3
          go_loopg [5] es.length (fun gg i wr => ∃ k : Nat, k + gg = es.length ∧ i = .int .i64 (k : Int) ∧ Hid ((es.take k).all (kidB l) = true) ∧ Hid (Below w1.heap.size w1 wr))
          case atStart => exact ⟨0, by omega, rfl, Lib.hid rfl, HB3⟩
          case round =>
            obtain ⟨k, hk, rfl, HM, HBR⟩ := hrel
            clear d4
            obtain ⟨⟨c0, c1⟩, ⟨d0, d1, d2, d3, d4⟩, -⟩ := HALL.out wr HBR.out
            have hz8 : w.heap.size < wr.heap.size := World.block_lt_of_cell? wr _ c0
            have hz9 : w.heap.size + 1 < wr.heap.size := World.block_lt_of_cell? wr _ d0
            by_cases hlt : k < es.length
            · obtain ⟨b, off, rfl, hbs, e0, e1, e2, e3⟩ := ens_cells (HE.out.below HBR.out (Nat.le_refl _)) k hlt
              have HKY : Hid (∀ W, Below wr.heap.size wr W → W.cell? ⟨b, off + k * 4 + 3, none⟩ = some (.int .i64 es[k].id)) := Lib.hid (fun W hW => cellK e3 hW)
              have HH : Hid (kidB l es[k] = false → es.all (kidB l) = false) := Lib.hid (fun e => by rw [List.all_eq_false]; exact ⟨es[k], List.getElem_mem hlt, by rw [e]; decide⟩)
              have HN : Hid (kidB l es[k] = true → (es.take (k + 1)).all (kidB l) = true) := Lib.hid (fun e => by rw [List.take_succ_eq_append_getElem hlt, List.all_append, HM.out]; simpa using e)
              have HKB : Hid (kidB l es[k] = (!(es[k].id == 1) && decide (0 ≤ atF l es[k].id))) := Lib.hid rfl
              have hki : (k : Int) < (es.length : Int) := by omega
              have hk0 : (0 : Int) ≤ (k : Int) := by omega
              have HBR2 := Lib.hid (fun W (hW : Below wr.heap.size wr W) => HALL.out W (below_step1 HBR.out hW))
              have hB1 := Below.refl wr.heap.size wr
              have har := atF_range l es[k].id
              clear e0 e1 e2 e3
              generalize kidB l es[k] = kb at *
              generalize es[k].id = y at *
              clear hlt
              have HAT : Hid (∀ W, Below w1.heap.size w1 W → Calls Tryz.prog 69 #[.agg #[.int .i64 next, .slice a l.length cap], .int .i64 y] W fun e w' => e = .returned (.int .i64 (atF l y)) ∧ Below W.heap.size W w') := Lib.hid (fun W hW => l6At_any next a _ cap l y W (H.out.step hW))
              generalize atF l y = r at *
              have HALK : Hid (∀ W, Below wr.heap.size wr W → ((W.cell? ⟨w.heap.size, 0, none⟩ = some (Value.int .i64 next) ∧ W.cell? ⟨w.heap.size, 1, none⟩ = some (Value.slice a l.length cap)) ∧ (W.cell? ⟨w.heap.size + 1, 0, none⟩ = some (.int .i64 x0) ∧ W.cell? ⟨w.heap.size + 1, 1, none⟩ = some (.int .i64 2) ∧ W.cell? ⟨w.heap.size + 1, 2, none⟩ = some (.int .i64 x2) ∧ W.cell? ⟨w.heap.size + 1, 3, none⟩ = some (.string x3) ∧ W.cell? ⟨w.heap.size + 1, 4, none⟩ = some (.slice (some ⟨b, off, none⟩) es.length c)) ∧ W.cell? ⟨b, off + k * 4 + 3, none⟩ = some (.int .i64 y) ∧ Below wr.heap.size wr W)) := Lib.hid (fun W hW => ⟨(HBR2.out W hW).1, (HBR2.out W hW).2.1, HKY.out W hW, hW⟩)
              by_cases hy : y = 1
              · have hye : (y == 1) = true := by simp [hy]
                have HR : Hid (inoB l ⟨x0, 2, x2, x3, es⟩ = false) := Lib.hid (by rw [HD4.out, HH.out (by rw [HKB.out, hye]; rfl)])
                clear hy HH HN HKB har
                go_wp2
                refine wp_region_held_drew (S := (fun W => (W.cell? ⟨w.heap.size, 0, none⟩ = some (Value.int .i64 next) ∧ W.cell? ⟨w.heap.size, 1, none⟩ = some (Value.slice a l.length cap)) ∧ (W.cell? ⟨w.heap.size + 1, 0, none⟩ = some (.int .i64 x0) ∧ W.cell? ⟨w.heap.size + 1, 1, none⟩ = some (.int .i64 2) ∧ W.cell? ⟨w.heap.size + 1, 2, none⟩ = some (.int .i64 x2) ∧ W.cell? ⟨w.heap.size + 1, 3, none⟩ = some (.string x3) ∧ W.cell? ⟨w.heap.size + 1, 4, none⟩ = some (.slice (some ⟨b, off, none⟩) es.length c)) ∧ W.cell? ⟨b, off + k * 4 + 3, none⟩ = some (.int .i64 y) ∧ Below wr.heap.size wr W)) (by kernel_rfl) ?_ (fun hHeld => ?_)
                · try dsimp only
                  (go_split_ands; first | exact HALK.out _ (by assumption) | exact HALK.out _ (Below.drew (by assumption)) | exact HALK.out _ (below_step1 (by assumption) (by assumption)))
                change wpAnyH _ _ _ _ _ 18 #[false, false, false, false, false, false, false, false, false, false, false, false, false, false, false, false, false, false] _ _
                clear hB1
                refine wpH_take (i := 0) (v := ?_) rfl (by kernel_rfl) (by kernel_rfl) (by kernel_rfl) (fun _ _ _ h => h) (by rfl) ?_ (by assumption) ?_; rotate_left; (focus (intro w hSw; (try dsimp only at hSw); go_simp; try with_reducible rfl)); try simp only [Act.put, List.setIfInBounds_toArray, List.set_cons_zero, List.set_cons_succ]
                refine wpH_take (i := 1) (v := ?_) rfl (by kernel_rfl) (by kernel_rfl) (by kernel_rfl) (fun _ _ _ h => h) (by rfl) ?_ (by assumption) ?_; rotate_left; (focus (intro w hSw; (try dsimp only at hSw); go_simp; try with_reducible rfl)); try simp only [Act.put, List.setIfInBounds_toArray, List.set_cons_zero, List.set_cons_succ]
                refine wpH_take (i := 2) (v := ?_) rfl (by kernel_rfl) (by kernel_rfl) (by kernel_rfl) (fun _ _ _ h => h) (by rfl) ?_ (by assumption) ?_; rotate_left; (focus (intro w hSw; (try dsimp only at hSw); go_simp; try with_reducible rfl)); try simp only [Act.put, List.setIfInBounds_toArray, List.set_cons_zero, List.set_cons_succ]
                refine wpH_take (i := 3) (v := ?_) rfl (by kernel_rfl) (by kernel_rfl) (by kernel_rfl) (fun _ _ _ h => h) (by rfl) ?_ (by assumption) ?_; rotate_left; (focus (intro w hSw; (try dsimp only at hSw); go_simp; try with_reducible rfl)); try simp only [Act.put, List.setIfInBounds_toArray, List.set_cons_zero, List.set_cons_succ]
                refine wpH_take (i := 4) (v := ?_) rfl (by kernel_rfl) (by kernel_rfl) (by kernel_rfl) (fun _ _ _ h => h) (by rfl) ?_ (by assumption) ?_; rotate_left; (focus (intro w hSw; (try dsimp only at hSw); go_simp; try with_reducible rfl)); try simp only [Act.put, List.setIfInBounds_toArray, List.set_cons_zero, List.set_cons_succ]
                refine wpH_take (i := 5) (v := ?_) rfl (by kernel_rfl) (by kernel_rfl) (by kernel_rfl) (fun _ _ _ h => h) (by rfl) ?_ (by assumption) ?_; rotate_left; (focus (intro w hSw; (try dsimp only at hSw); go_simp; try with_reducible rfl)); try simp only [Act.put, List.setIfInBounds_toArray, List.set_cons_zero, List.set_cons_succ]
                refine wpH_take (i := 6) (v := ?_) rfl (by kernel_rfl) (by kernel_rfl) (by kernel_rfl) (fun _ _ _ h => h) (by rfl) ?_ (by assumption) ?_; rotate_left; (focus (intro w hSw; (try dsimp only at hSw); go_simp; try with_reducible rfl)); try simp only [Act.put, List.setIfInBounds_toArray, List.set_cons_zero, List.set_cons_succ]
                refine wpH_take (i := 7) (v := ?_) rfl (by kernel_rfl) (by kernel_rfl) (by kernel_rfl) (fun _ _ _ h => h) (by rfl) ?_ (by assumption) ?_; rotate_left; (focus (intro w hSw; (try dsimp only at hSw); go_simp; try with_reducible rfl)); try simp only [Act.put, List.setIfInBounds_toArray, List.set_cons_zero, List.set_cons_succ]
                refine wpH_off (i := 8) rfl (by kernel_rfl) (by kernel_rfl) (by kernel_rfl) (fun _ _ _ h => h) (by rfl) (by assumption) ?_; try simp only [Act.put, List.setIfInBounds_toArray, List.set_cons_zero, List.set_cons_succ]
                refine wpH_off (i := 9) rfl (by kernel_rfl) (by kernel_rfl) (by kernel_rfl) (fun _ _ _ h => h) (by rfl) (by assumption) ?_; try simp only [Act.put, List.setIfInBounds_toArray, List.set_cons_zero, List.set_cons_succ]
                refine wpH_off (i := 10) rfl (by kernel_rfl) (by kernel_rfl) (by kernel_rfl) (fun _ _ _ h => h) (by rfl) (by assumption) ?_; try simp only [Act.put, List.setIfInBounds_toArray, List.set_cons_zero, List.set_cons_succ]
                refine wpH_off (i := 11) rfl (by kernel_rfl) (by kernel_rfl) (by kernel_rfl) (fun _ _ _ h => h) (by rfl) (by assumption) ?_; try simp only [Act.put, List.setIfInBounds_toArray, List.set_cons_zero, List.set_cons_succ]
                refine wpH_off (i := 12) rfl (by kernel_rfl) (by kernel_rfl) (by kernel_rfl) (fun _ _ _ h => h) (by rfl) (by assumption) ?_; try simp only [Act.put, List.setIfInBounds_toArray, List.set_cons_zero, List.set_cons_succ]
                refine wpH_off (i := 13) rfl (by kernel_rfl) (by kernel_rfl) (by kernel_rfl) (fun _ _ _ h => h) (by rfl) (by assumption) ?_; try simp only [Act.put, List.setIfInBounds_toArray, List.set_cons_zero, List.set_cons_succ]
                refine wpH_off (i := 14) rfl (by kernel_rfl) (by kernel_rfl) (by kernel_rfl) (fun _ _ _ h => h) (by rfl) (by assumption) ?_; try simp only [Act.put, List.setIfInBounds_toArray, List.set_cons_zero, List.set_cons_succ]
                refine wpH_off (i := 15) rfl (by kernel_rfl) (by kernel_rfl) (by kernel_rfl) (fun _ _ _ h => h) (by rfl) (by assumption) ?_; try simp only [Act.put, List.setIfInBounds_toArray, List.set_cons_zero, List.set_cons_succ]
                refine wpH_off (i := 16) rfl (by kernel_rfl) (by kernel_rfl) (by kernel_rfl) (fun _ _ _ h => h) (by rfl) (by assumption) ?_; try simp only [Act.put, List.setIfInBounds_toArray, List.set_cons_zero, List.set_cons_succ]
                refine wpH_take (i := 17) (v := ?_) rfl (by kernel_rfl) (by kernel_rfl) (by kernel_rfl) (fun _ _ _ h => h) (by rfl) ?_ (by assumption) ?_; rotate_left; (focus (intro w hSw; (try dsimp only at hSw); go_simp; try with_reducible rfl)); try simp only [Act.put, List.setIfInBounds_toArray, List.set_cons_zero, List.set_cons_succ]
                refine wpAnyH_done (by kernel_rfl) ?_ _
                try dsimp only at hHeld
                have HBF := Lib.hid (below_step1 HB.out (below_step1 HBR.out hHeld.2.2.2))
                clear hHeld
                go_wp2
                go_ret
                exact ⟨ret_bool HR.out.symm, HBF.out⟩
              · have hye : (y == 1) = false := by simp [hy]
                by_cases hr0 : 0 ≤ r
                · have hrn : (r < 0) = False := eq_false (by omega)
                  have HN2 := Lib.hid (HN.out (by rw [HKB.out, hye, decide_eq_true hr0]; rfl))
                  clear hy HH HN HKB
                  go_wp2
                  refine wp_region_held_drew (S := (fun W => (W.cell? ⟨w.heap.size, 0, none⟩ = some (Value.int .i64 next) ∧ W.cell? ⟨w.heap.size, 1, none⟩ = some (Value.slice a l.length cap)) ∧ (W.cell? ⟨w.heap.size + 1, 0, none⟩ = some (.int .i64 x0) ∧ W.cell? ⟨w.heap.size + 1, 1, none⟩ = some (.int .i64 2) ∧ W.cell? ⟨w.heap.size + 1, 2, none⟩ = some (.int .i64 x2) ∧ W.cell? ⟨w.heap.size + 1, 3, none⟩ = some (.string x3) ∧ W.cell? ⟨w.heap.size + 1, 4, none⟩ = some (.slice (some ⟨b, off, none⟩) es.length c)) ∧ W.cell? ⟨b, off + k * 4 + 3, none⟩ = some (.int .i64 y) ∧ Below wr.heap.size wr W)) (by kernel_rfl) ?_ (fun hHeld => ?_)
                  · try dsimp only
                    (go_split_ands; first | exact HALK.out _ (by assumption) | exact HALK.out _ (Below.drew (by assumption)) | exact HALK.out _ (below_step1 (by assumption) (by assumption)))
                  change wpAnyH _ _ _ _ _ 18 #[false, false, false, false, false, false, false, false, false, false, false, false, false, false, false, false, false, false] _ _
                  clear hB1
                  refine wpH_take (i := 0) (v := ?_) rfl (by kernel_rfl) (by kernel_rfl) (by kernel_rfl) (fun _ _ _ h => h) (by rfl) ?_ (by assumption) ?_; rotate_left; (focus (intro w hSw; (try dsimp only at hSw); go_simp; try with_reducible rfl)); try simp only [Act.put, List.setIfInBounds_toArray, List.set_cons_zero, List.set_cons_succ]
                  refine wpH_take (i := 1) (v := ?_) rfl (by kernel_rfl) (by kernel_rfl) (by kernel_rfl) (fun _ _ _ h => h) (by rfl) ?_ (by assumption) ?_; rotate_left; (focus (intro w hSw; (try dsimp only at hSw); go_simp; try with_reducible rfl)); try simp only [Act.put, List.setIfInBounds_toArray, List.set_cons_zero, List.set_cons_succ]
                  refine wpH_take (i := 2) (v := ?_) rfl (by kernel_rfl) (by kernel_rfl) (by kernel_rfl) (fun _ _ _ h => h) (by rfl) ?_ (by assumption) ?_; rotate_left; (focus (intro w hSw; (try dsimp only at hSw); go_simp; try with_reducible rfl)); try simp only [Act.put, List.setIfInBounds_toArray, List.set_cons_zero, List.set_cons_succ]
                  refine wpH_take (i := 3) (v := ?_) rfl (by kernel_rfl) (by kernel_rfl) (by kernel_rfl) (fun _ _ _ h => h) (by rfl) ?_ (by assumption) ?_; rotate_left; (focus (intro w hSw; (try dsimp only at hSw); go_simp; try with_reducible rfl)); try simp only [Act.put, List.setIfInBounds_toArray, List.set_cons_zero, List.set_cons_succ]
                  refine wpH_take (i := 4) (v := ?_) rfl (by kernel_rfl) (by kernel_rfl) (by kernel_rfl) (fun _ _ _ h => h) (by rfl) ?_ (by assumption) ?_; rotate_left; (focus (intro w hSw; (try dsimp only at hSw); go_simp; try with_reducible rfl)); try simp only [Act.put, List.setIfInBounds_toArray, List.set_cons_zero, List.set_cons_succ]
                  refine wpH_take (i := 5) (v := ?_) rfl (by kernel_rfl) (by kernel_rfl) (by kernel_rfl) (fun _ _ _ h => h) (by rfl) ?_ (by assumption) ?_; rotate_left; (focus (intro w hSw; (try dsimp only at hSw); go_simp; try with_reducible rfl)); try simp only [Act.put, List.setIfInBounds_toArray, List.set_cons_zero, List.set_cons_succ]
                  refine wpH_take (i := 6) (v := ?_) rfl (by kernel_rfl) (by kernel_rfl) (by kernel_rfl) (fun _ _ _ h => h) (by rfl) ?_ (by assumption) ?_; rotate_left; (focus (intro w hSw; (try dsimp only at hSw); go_simp; try with_reducible rfl)); try simp only [Act.put, List.setIfInBounds_toArray, List.set_cons_zero, List.set_cons_succ]
                  refine wpH_take (i := 7) (v := ?_) rfl (by kernel_rfl) (by kernel_rfl) (by kernel_rfl) (fun _ _ _ h => h) (by rfl) ?_ (by assumption) ?_; rotate_left; (focus (intro w hSw; (try dsimp only at hSw); go_simp; try with_reducible rfl)); try simp only [Act.put, List.setIfInBounds_toArray, List.set_cons_zero, List.set_cons_succ]
                  refine wpH_take (i := 8) (v := ?_) rfl (by kernel_rfl) (by kernel_rfl) (by kernel_rfl) (fun _ _ _ h => h) (by rfl) ?_ (by assumption) ?_; rotate_left; (focus (intro w hSw; (try dsimp only at hSw); go_simp; try with_reducible rfl)); try simp only [Act.put, List.setIfInBounds_toArray, List.set_cons_zero, List.set_cons_succ]
                  refine wpH_take (i := 9) (v := ?_) rfl (by kernel_rfl) (by kernel_rfl) (by kernel_rfl) (fun _ _ _ h => h) (by rfl) ?_ (by assumption) ?_; rotate_left; (focus (intro w hSw; (try dsimp only at hSw); go_simp; try with_reducible rfl)); try simp only [Act.put, List.setIfInBounds_toArray, List.set_cons_zero, List.set_cons_succ]
                  refine wpH_take (i := 10) (v := ?_) rfl (by kernel_rfl) (by kernel_rfl) (by kernel_rfl) (fun _ _ _ h => h) (by rfl) ?_ (by assumption) ?_; rotate_left; (focus (intro w hSw; (try dsimp only at hSw); go_simp; try with_reducible rfl)); try simp only [Act.put, List.setIfInBounds_toArray, List.set_cons_zero, List.set_cons_succ]
                  refine wpH_take (i := 11) (v := ?_) rfl (by kernel_rfl) (by kernel_rfl) (by kernel_rfl) (fun _ _ _ h => h) (by rfl) ?_ (by assumption) ?_; rotate_left; (focus (intro w hSw; (try dsimp only at hSw); go_simp; try with_reducible rfl)); try simp only [Act.put, List.setIfInBounds_toArray, List.set_cons_zero, List.set_cons_succ]
                  refine wpH_take (i := 12) (v := ?_) rfl (by kernel_rfl) (by kernel_rfl) (by kernel_rfl) (fun _ _ _ h => h) (by rfl) ?_ (by assumption) ?_; rotate_left; (focus (intro w hSw; (try dsimp only at hSw); go_simp; try with_reducible rfl)); try simp only [Act.put, List.setIfInBounds_toArray, List.set_cons_zero, List.set_cons_succ]
                  refine wpH_take (i := 13) (v := ?_) rfl (by kernel_rfl) (by kernel_rfl) (by kernel_rfl) (fun _ _ _ h => h) (by rfl) ?_ (by assumption) ?_; rotate_left; (focus (intro w hSw; (try dsimp only at hSw); go_simp; try with_reducible rfl)); try simp only [Act.put, List.setIfInBounds_toArray, List.set_cons_zero, List.set_cons_succ]
                  refine wpH_take (i := 14) (v := ?_) rfl (by kernel_rfl) (by kernel_rfl) (by kernel_rfl) (fun _ _ _ h => h) (by rfl) ?_ (by assumption) ?_; rotate_left; (focus (intro w hSw; (try dsimp only at hSw); go_simp; try with_reducible rfl)); try simp only [Act.put, List.setIfInBounds_toArray, List.set_cons_zero, List.set_cons_succ]
                  refine wpAnyH_ready (rs := [15]) (by kernel_rfl) (by simp) ?_
                  refine AllReadyH.cons rfl (fun K hK => ?_) AllReadyH.nil
                  try dsimp only at hHeld
                  go_simp
                  (go_at_call 69; refine (HAT.out _ (below_step1 HBR.out hHeld.2.2.2)).mono ?_; rintro e w6 ⟨rfl, hbk⟩)
                  refine hK.out _ _ ?_ (fun hHeld2 => ?_)
                  · try dsimp only
                    (go_split_ands; first | exact HALK.out _ (by assumption) | exact HALK.out _ (Below.drew (by assumption)) | exact HALK.out _ (below_step1 (by assumption) (by assumption)))
                  clear hK K hHeld
                  have hHeld := hHeld2
                  clear hHeld2
                  clear hbk
                  refine wpH_take (i := 16) (v := ?_) rfl (by kernel_rfl) (by kernel_rfl) (by kernel_rfl) (fun _ _ _ h => h) (by rfl) ?_ (by assumption) ?_; rotate_left; (focus (intro w hSw; (try dsimp only at hSw); go_simp; try with_reducible rfl)); try simp only [Act.put, List.setIfInBounds_toArray, List.set_cons_zero, List.set_cons_succ]
                  refine wpH_take (i := 17) (v := ?_) rfl (by kernel_rfl) (by kernel_rfl) (by kernel_rfl) (fun _ _ _ h => h) (by rfl) ?_ (by assumption) ?_; rotate_left; (focus (intro w hSw; (try dsimp only at hSw); go_simp; try with_reducible rfl)); try simp only [Act.put, List.setIfInBounds_toArray, List.set_cons_zero, List.set_cons_succ]
                  refine wpAnyH_done (by kernel_rfl) ?_ _
                  try dsimp only at hHeld
                  have HBG := Lib.hid (below_step1 HBR.out hHeld.2.2.2)
                  clear hHeld
                  go_wp2
                  go_roundg (gk - 1)
                  case measure => omega
                  case rel => exact ⟨k + 1, by omega, by go_num, HN2, HBG⟩
                · have hrn : (r < 0) = True := eq_true (by omega)
                  have HR : Hid (inoB l ⟨x0, 2, x2, x3, es⟩ = false) := Lib.hid (by rw [HD4.out, HH.out (by rw [HKB.out, hye, decide_eq_false hr0]; rfl)])
                  clear hy HH HN HKB
                  go_wp2
                  refine wp_region_held_drew (S := (fun W => (W.cell? ⟨w.heap.size, 0, none⟩ = some (Value.int .i64 next) ∧ W.cell? ⟨w.heap.size, 1, none⟩ = some (Value.slice a l.length cap)) ∧ (W.cell? ⟨w.heap.size + 1, 0, none⟩ = some (.int .i64 x0) ∧ W.cell? ⟨w.heap.size + 1, 1, none⟩ = some (.int .i64 2) ∧ W.cell? ⟨w.heap.size + 1, 2, none⟩ = some (.int .i64 x2) ∧ W.cell? ⟨w.heap.size + 1, 3, none⟩ = some (.string x3) ∧ W.cell? ⟨w.heap.size + 1, 4, none⟩ = some (.slice (some ⟨b, off, none⟩) es.length c)) ∧ W.cell? ⟨b, off + k * 4 + 3, none⟩ = some (.int .i64 y) ∧ Below wr.heap.size wr W)) (by kernel_rfl) ?_ (fun hHeld => ?_)
                  · try dsimp only
                    (go_split_ands; first | exact HALK.out _ (by assumption) | exact HALK.out _ (Below.drew (by assumption)) | exact HALK.out _ (below_step1 (by assumption) (by assumption)))
                  change wpAnyH _ _ _ _ _ 18 #[false, false, false, false, false, false, false, false, false, false, false, false, false, false, false, false, false, false] _ _
                  clear hB1
                  refine wpH_take (i := 0) (v := ?_) rfl (by kernel_rfl) (by kernel_rfl) (by kernel_rfl) (fun _ _ _ h => h) (by rfl) ?_ (by assumption) ?_; rotate_left; (focus (intro w hSw; (try dsimp only at hSw); go_simp; try with_reducible rfl)); try simp only [Act.put, List.setIfInBounds_toArray, List.set_cons_zero, List.set_cons_succ]
                  refine wpH_take (i := 1) (v := ?_) rfl (by kernel_rfl) (by kernel_rfl) (by kernel_rfl) (fun _ _ _ h => h) (by rfl) ?_ (by assumption) ?_; rotate_left; (focus (intro w hSw; (try dsimp only at hSw); go_simp; try with_reducible rfl)); try simp only [Act.put, List.setIfInBounds_toArray, List.set_cons_zero, List.set_cons_succ]
                  refine wpH_take (i := 2) (v := ?_) rfl (by kernel_rfl) (by kernel_rfl) (by kernel_rfl) (fun _ _ _ h => h) (by rfl) ?_ (by assumption) ?_; rotate_left; (focus (intro w hSw; (try dsimp only at hSw); go_simp; try with_reducible rfl)); try simp only [Act.put, List.setIfInBounds_toArray, List.set_cons_zero, List.set_cons_succ]
                  refine wpH_take (i := 3) (v := ?_) rfl (by kernel_rfl) (by kernel_rfl) (by kernel_rfl) (fun _ _ _ h => h) (by rfl) ?_ (by assumption) ?_; rotate_left; (focus (intro w hSw; (try dsimp only at hSw); go_simp; try with_reducible rfl)); try simp only [Act.put, List.setIfInBounds_toArray, List.set_cons_zero, List.set_cons_succ]
                  refine wpH_take (i := 4) (v := ?_) rfl (by kernel_rfl) (by kernel_rfl) (by kernel_rfl) (fun _ _ _ h => h) (by rfl) ?_ (by assumption) ?_; rotate_left; (focus (intro w hSw; (try dsimp only at hSw); go_simp; try with_reducible rfl)); try simp only [Act.put, List.setIfInBounds_toArray, List.set_cons_zero, List.set_cons_succ]
                  refine wpH_take (i := 5) (v := ?_) rfl (by kernel_rfl) (by kernel_rfl) (by kernel_rfl) (fun _ _ _ h => h) (by rfl) ?_ (by assumption) ?_; rotate_left; (focus (intro w hSw; (try dsimp only at hSw); go_simp; try with_reducible rfl)); try simp only [Act.put, List.setIfInBounds_toArray, List.set_cons_zero, List.set_cons_succ]
                  refine wpH_take (i := 6) (v := ?_) rfl (by kernel_rfl) (by kernel_rfl) (by kernel_rfl) (fun _ _ _ h => h) (by rfl) ?_ (by assumption) ?_; rotate_left; (focus (intro w hSw; (try dsimp only at hSw); go_simp; try with_reducible rfl)); try simp only [Act.put, List.setIfInBounds_toArray, List.set_cons_zero, List.set_cons_succ]
                  refine wpH_take (i := 7) (v := ?_) rfl (by kernel_rfl) (by kernel_rfl) (by kernel_rfl) (fun _ _ _ h => h) (by rfl) ?_ (by assumption) ?_; rotate_left; (focus (intro w hSw; (try dsimp only at hSw); go_simp; try with_reducible rfl)); try simp only [Act.put, List.setIfInBounds_toArray, List.set_cons_zero, List.set_cons_succ]
                  refine wpH_take (i := 8) (v := ?_) rfl (by kernel_rfl) (by kernel_rfl) (by kernel_rfl) (fun _ _ _ h => h) (by rfl) ?_ (by assumption) ?_; rotate_left; (focus (intro w hSw; (try dsimp only at hSw); go_simp; try with_reducible rfl)); try simp only [Act.put, List.setIfInBounds_toArray, List.set_cons_zero, List.set_cons_succ]
                  refine wpH_take (i := 9) (v := ?_) rfl (by kernel_rfl) (by kernel_rfl) (by kernel_rfl) (fun _ _ _ h => h) (by rfl) ?_ (by assumption) ?_; rotate_left; (focus (intro w hSw; (try dsimp only at hSw); go_simp; try with_reducible rfl)); try simp only [Act.put, List.setIfInBounds_toArray, List.set_cons_zero, List.set_cons_succ]
                  refine wpH_take (i := 10) (v := ?_) rfl (by kernel_rfl) (by kernel_rfl) (by kernel_rfl) (fun _ _ _ h => h) (by rfl) ?_ (by assumption) ?_; rotate_left; (focus (intro w hSw; (try dsimp only at hSw); go_simp; try with_reducible rfl)); try simp only [Act.put, List.setIfInBounds_toArray, List.set_cons_zero, List.set_cons_succ]
                  refine wpH_take (i := 11) (v := ?_) rfl (by kernel_rfl) (by kernel_rfl) (by kernel_rfl) (fun _ _ _ h => h) (by rfl) ?_ (by assumption) ?_; rotate_left; (focus (intro w hSw; (try dsimp only at hSw); go_simp; try with_reducible rfl)); try simp only [Act.put, List.setIfInBounds_toArray, List.set_cons_zero, List.set_cons_succ]
                  refine wpH_take (i := 12) (v := ?_) rfl (by kernel_rfl) (by kernel_rfl) (by kernel_rfl) (fun _ _ _ h => h) (by rfl) ?_ (by assumption) ?_; rotate_left; (focus (intro w hSw; (try dsimp only at hSw); go_simp; try with_reducible rfl)); try simp only [Act.put, List.setIfInBounds_toArray, List.set_cons_zero, List.set_cons_succ]
                  refine wpH_take (i := 13) (v := ?_) rfl (by kernel_rfl) (by kernel_rfl) (by kernel_rfl) (fun _ _ _ h => h) (by rfl) ?_ (by assumption) ?_; rotate_left; (focus (intro w hSw; (try dsimp only at hSw); go_simp; try with_reducible rfl)); try simp only [Act.put, List.setIfInBounds_toArray, List.set_cons_zero, List.set_cons_succ]
                  refine wpH_take (i := 14) (v := ?_) rfl (by kernel_rfl) (by kernel_rfl) (by kernel_rfl) (fun _ _ _ h => h) (by rfl) ?_ (by assumption) ?_; rotate_left; (focus (intro w hSw; (try dsimp only at hSw); go_simp; try with_reducible rfl)); try simp only [Act.put, List.setIfInBounds_toArray, List.set_cons_zero, List.set_cons_succ]
                  refine wpAnyH_ready (rs := [15]) (by kernel_rfl) (by simp) ?_
                  refine AllReadyH.cons rfl (fun K hK => ?_) AllReadyH.nil
                  try dsimp only at hHeld
                  go_simp
                  (go_at_call 69; refine (HAT.out _ (below_step1 HBR.out hHeld.2.2.2)).mono ?_; rintro e w6 ⟨rfl, hbk⟩)
                  refine hK.out _ _ ?_ (fun hHeld2 => ?_)
                  · try dsimp only
                    (go_split_ands; first | exact HALK.out _ (by assumption) | exact HALK.out _ (Below.drew (by assumption)) | exact HALK.out _ (below_step1 (by assumption) (by assumption)))
                  clear hK K hHeld
                  have hHeld := hHeld2
                  clear hHeld2
                  clear hbk
                  refine wpH_take (i := 16) (v := ?_) rfl (by kernel_rfl) (by kernel_rfl) (by kernel_rfl) (fun _ _ _ h => h) (by rfl) ?_ (by assumption) ?_; rotate_left; (focus (intro w hSw; (try dsimp only at hSw); go_simp; try with_reducible rfl)); try simp only [Act.put, List.setIfInBounds_toArray, List.set_cons_zero, List.set_cons_succ]
                  refine wpH_take (i := 17) (v := ?_) rfl (by kernel_rfl) (by kernel_rfl) (by kernel_rfl) (fun _ _ _ h => h) (by rfl) ?_ (by assumption) ?_; rotate_left; (focus (intro w hSw; (try dsimp only at hSw); go_simp; try with_reducible rfl)); try simp only [Act.put, List.setIfInBounds_toArray, List.set_cons_zero, List.set_cons_succ]
                  refine wpAnyH_done (by kernel_rfl) ?_ _
                  try dsimp only at hHeld
                  have HBF := Lib.hid (below_step1 HB.out (below_step1 HBR.out hHeld.2.2.2))
                  clear hHeld
                  go_wp2
                  go_ret
                  exact ⟨ret_bool HR.out.symm, HBF.out⟩
            · have hkl : k = es.length := by omega
              subst hkl
              rw [List.take_length] at HM
              have HR : Hid (inoB l ⟨x0, 2, x2, x3, es⟩ = true) := Lib.hid (by rw [HD4.out, HM.out])
              have HBF := Lib.hid (below_step1 HB.out HBR.out)
              go_wp2
              go_ret
              exact ⟨ret_bool HR.out.symm, HBF.out⟩
        · have HR : Hid (inoB l ⟨x0, 2, x2, x3, es⟩ = false) := Lib.hid (by rw [HD3.out, decide_eq_false hx1, decide_eq_false hlk1]; rfl)
          have HBF := Lib.hid (below_step1 HB.out HB3.out)
          have hq4 : ((linksF l x0 : Int) != 1) = true := by simp; omega
          clear hx1 hlk1
          go_wp2
          go_ret
          exact ⟨ret_bool HR.out.symm, HBF.out⟩
end Go.Proofs.YtlkfabkkjfmnmaaGreatDoor
