/- One text of RbI RbJ RbS. (Printed by merge.py.) -/
import Derived.Test.YtlkfabkkjfmnmaaGreatDoorRbX
import Derived.Test.YtlkfabkkjfmnmaaGreatDoorCs
namespace Go.Proofs.YtlkfabkkjfmnmaaGreatDoor
open Go.RowKit

theorem sa_grown {w w' : World} {b m : Nat} {o : Option (List UInt8)} {r : Option Nat} (h : ScanAt w b o m) (hg : w.grownBy w' r) (hne : r ≠ some b) : ScanAt w' b o m := h.kept (hg.block b h.lt (fun e => hne e.symm))
theorem sa_alloc {w : World} {b m : Nat} {o : Option (List UInt8)} (h : ScanAt w b o m) (x : Obj) : ScanAt (w.alloc x) b o m := h.below (boxA w x)
theorem sa_far {w : World} {b g j m : Nat} {o : Option (List UInt8)} {u : Value} (h : ScanAt w b o m) (hne : b ≠ g) : ScanAt (w.setCell ⟨g, j, none⟩ u) b o m := sa_grown h (setCell_grown2 w g j u) (fun e => hne (Option.some.inj e).symm)
theorem sa_len {w : World} {b m : Nat} {o : Option (List UInt8)} (h : ScanAt w b o m) : ∀ l, o = some l → l.length ≤ m := by
  obtain ⟨rest, bad, -, -, -, hs, ho⟩ := h.ex
  intro l hl
  rw [ho] at hl
  unfold scO at hl
  split at hl
  · cases hl
  · cases hl; rw [data_len]; exact hs
theorem sa_none {w : World} {b m : Nat} {o : Option (List UInt8)} (h : ScanAt w b o m) : w.cell? ⟨b, 1, none⟩ = some (.bool (!o.isSome)) := by
  obtain ⟨rest, bad, -, c1, -, -, ho⟩ := h.ex
  rw [c1, ho]
  cases bad <;> rfl
theorem pieceO_len {o : Option (List UInt8)} {m : Nat} (h : ∀ l, o = some l → l.length ≤ m) : (pieceO o).1.length ≤ m := by
  unfold pieceO
  have h2 : ∀ l, (numO o).2 = some l → l.length ≤ m := by
    intro l hl
    unfold numO at hl
    cases o with
    | none => cases hl
    | some r =>
      simp only at hl
      split at hl
      · cases hl
      · cases hl
        have := h r rfl
        rw [List.length_drop]
        omega
  generalize (numO o).2 = o2 at *
  unfold cutO
  cases o2 with
  | none => simp
  | some r =>
    simp only
    split
    · have := h2 r rfl
      rw [List.length_take]
      omega
    · simp
theorem numO_nn (o : Option (List UInt8)) : 0 ≤ (numO o).1 := by
  unfold numO
  cases o with
  | none => simp
  | some r => simp only; split <;> simp
theorem manyO_in (most : Int) (hm : 0 ≤ most) (o : Option (List UInt8)) : 0 ≤ (manyO most o).1 ∧ (manyO most o).1 ≤ most := by
  have := numO_nn o
  unfold manyO
  split
  · simpa using hm
  · omega
theorem cell_far5 {w : World} {b g j : Nat} {v u0 u1 u2 u3 u4 : Value} (h : w.cell? ⟨b, j, none⟩ = some v) (hne : b ≠ g) :
    (((((w.setCell ⟨g, 0, none⟩ u0).setCell ⟨g, 1, none⟩ u1).setCell ⟨g, 2, none⟩ u2).setCell ⟨g, 3, none⟩ u3).setCell ⟨g, 4, none⟩ u4).drew.cell? ⟨b, j, none⟩ = some v := by
  have hl : b < w.heap.size := World.block_lt_of_cell? w _ h
  have f : ∀ (W : World) (i : Nat) (u : Value), b < W.heap.size → (W.setCell ⟨g, i, none⟩ u).cell? ⟨b, j, none⟩ = W.cell? ⟨b, j, none⟩ := fun W i u hW => World.cell?_of_block (a := ⟨b, j, none⟩) ((setCell_grown2 W g i u).block b hW (fun e => hne (Option.some.inj e)))
  have d : ∀ W : World, W.drew.cell? ⟨b, j, none⟩ = W.cell? ⟨b, j, none⟩ := fun W => rfl
  have z : ∀ (W : World) (i : Nat) (u : Value), (W.setCell ⟨g, i, none⟩ u).heap.size = W.heap.size := fun W i u => by simp [World.setCell]
  rw [d, f _ _ _ (by rw [z, z, z, z]; exact hl), f _ _ _ (by rw [z, z, z]; exact hl), f _ _ _ (by rw [z, z]; exact hl), f _ _ _ (by rw [z]; exact hl), f _ _ _ hl]
  exact h
theorem cs_far5 {w : World} {b g : Nat} {vs : List Value} (h : Cs w b vs) (hne : b ≠ g) (u0 u1 u2 u3 u4 : Value) :
    Cs (((((w.setCell ⟨g, 0, none⟩ u0).setCell ⟨g, 1, none⟩ u1).setCell ⟨g, 2, none⟩ u2).setCell ⟨g, 3, none⟩ u3).setCell ⟨g, 4, none⟩ u4).drew b vs := by
  refine Cs.drew ?_
  refine Cs.far ?_ hne
  refine Cs.far ?_ hne
  refine Cs.far ?_ hne
  refine Cs.far ?_ hne
  exact Cs.far h hne
theorem cs_set5 {w : World} {g : Nat} {z0 z1 z2 z3 z4 : Value} (h : Cs w g [z0, z1, z2, z3, z4]) (u0 u1 u2 u3 u4 : Value) :
    Cs (((((w.setCell ⟨g, 0, none⟩ u0).setCell ⟨g, 1, none⟩ u1).setCell ⟨g, 2, none⟩ u2).setCell ⟨g, 3, none⟩ u3).setCell ⟨g, 4, none⟩ u4).drew g [u0, u1, u2, u3, u4] :=
  Cs.drew (((((h.set 0 u0).set 1 u1).set 2 u2).set 3 u3).set 4 u4)
theorem own_far5 {e : TypeId} {size B : Nat} {W0 w : World} {v : Value} {n : Nat} {xs : List Value} (h : Own e size B W0 v n xs w) (b : Nat) (u0 u1 u2 u3 u4 : Value) (hne : ∀ k, v.ownBlock = some k → k ≠ b) {w0 : World} (hb : Below w0.heap.size w0 w) (hB : w0.heap.size ≤ B) (hle : w0.heap.size ≤ b) :
    Own e size w0.heap.size w0 v n xs (((((w.setCell ⟨b, 0, none⟩ u0).setCell ⟨b, 1, none⟩ u1).setCell ⟨b, 2, none⟩ u2).setCell ⟨b, 3, none⟩ u3).setCell ⟨b, 4, none⟩ u4).drew :=
  ⟨(row_down (far5 h b u0 u1 u2 u3 u4 hne) hB).drew, (set5 hb hle u0 u1 u2 u3 u4).drew, (set5 hb hle u0 u1 u2 u3 u4).drew.size⟩
def InoPost (x : InoL) (ok : Bool) (w : World) (e : Ending) (w' : World) : Prop := ∃ (ad : Option Addr) (c : Nat), e = .returned (.tuple #[.agg #[.int .i64 x.id, .int .i64 x.kind, .int .i64 x.links, .string x.data, .slice ad x.ents.length c], .bool ok]) ∧ Own 74 4 w.heap.size w (.slice ad x.ents.length c) x.ents.length (ens x.ents) w'
theorem ret_inodeOf {Post : Ending → World → Prop} {a : Act} {wf : World} {R : Nat} {u0 u1 u2 : Int} {u3 : ByteArray} {u4 : Value} {b : Bool} (hc : Cs wf R [.int .i64 u0, .int .i64 u1, .int .i64 u2, .string u3, u4]) (h2 : a.tmps[2]?.getD undef = .pointer (some ⟨R, 0, none⟩)) (h3 : a.tmps[3]?.getD undef = .bool b) (hd : a.defers = [])
    (hp : Post (.returned (.tuple #[.agg #[.int .i64 u0, .int .i64 u1, .int .i64 u2, .string u3, u4], .bool b])) wf) : bodyPost Tryz.prog Tryz.f28 Post Exit.ret a wf := by
  obtain ⟨⟨r0, r1, r2, r3, r4⟩, -⟩ := hc.five
  exact bodyPost_ret (v := .tuple #[.agg #[.int .i64 u0, .int .i64 u1, .int .i64 u2, .string u3, u4], .bool b]) (by simp [results, Tryz.results28, go_sem, h2, h3, r0, r1, r2, r3, r4]) (by first | exact hd | rfl) hp
set_option maxRecDepth 1000000 in
set_option maxHeartbeats 6000000 in
theorem inodeOf_any (s : ByteArray) (w : World) (hs : s.size ≤ 1048576) (hT : KTab w) : Calls Tryz.prog 28 #[.string s] w (InoPost (rdIno s.data.toList).1 (rdIno s.data.toList).2 w) := by
  have HRD : Hid (rdIno s.data.toList = (⟨(rdI s.data.toList).1, (rdK s.data.toList).1, (rdL s.data.toList).1, nmOf (rdD s.data.toList).1, (rdEnts (rdN s.data.toList).2 (rdN s.data.toList).1.toNat).1⟩, (rdEnts (rdN s.data.toList).2 (rdN s.data.toList).1.toNat).2.isSome)) := Lib.hid rfl
  have hnr := manyO_in 12 (by omega) (rdD s.data.toList).2
  rw [show manyO 12 (rdD s.data.toList).2 = rdN s.data.toList from rfl] at hnr
  have hI : numO (cutO 1 (some s.data.toList)).2 = rdI s.data.toList := rfl
  have hK : numO (rdI s.data.toList).2 = rdK s.data.toList := rfl
  have hL : numO (rdK s.data.toList).2 = rdL s.data.toList := rfl
  have hD : pieceO (rdL s.data.toList).2 = rdD s.data.toList := rfl
  have hN : manyO 12 (rdD s.data.toList).2 = rdN s.data.toList := rfl
  have HEQ := Lib.hid (And.intro hI (And.intro hK (And.intro hL (And.intro hD hN))))
  clear hI hK hL hD hN
  have HR0 := Lib.hid ((cs_new w 45 #[.int .i64 0, .int .i64 0, .int .i64 0, .string ByteArray.empty, .slice none 0 0]).alloc (.cells #[.string s, .bool false] 50))
  have hsc : ScanAt ((w.alloc (.cells #[.int .i64 0, .int .i64 0, .int .i64 0, .string ByteArray.empty, .slice none 0 0] 45)).alloc (.cells #[.string s, .bool false] 50)) (w.heap.size + 1) (some s.data.toList) s.size := by
    have h := cs_new (w.alloc (.cells #[.int .i64 0, .int .i64 0, .int .i64 0, .string ByteArray.empty, .slice none 0 0] 45)) 50 #[.string s, .bool false]
    have e : (w.alloc (.cells #[.int .i64 0, .int .i64 0, .int .i64 0, .string ByteArray.empty, .slice none 0 0] 45)).heap.size = w.heap.size + 1 := by simp
    rw [e] at h
    obtain ⟨h1, h2⟩ := Cs.two h
    exact ⟨s, false, h1.1, h1.2, h2, Nat.le_refl _, rfl⟩
  have HS0 := Lib.hid hsc
  have HB0 := Lib.hid ((boxA w (.cells #[.int .i64 0, .int .i64 0, .int .i64 0, .string ByteArray.empty, .slice none 0 0] 45)).alloc (by simp) (.cells #[.string s, .bool false] 50))
  have HT := Lib.hid hT
  generalize s.data.toList = L at *
  clear hsc hT
  go_enter Tryz.func28, Tryz.ntmps28
  go_wp2_with fail
  refine (scCut_any _ _ _ _ _ HS0.out (by omega)).mono ?_
  rintro e w1 ⟨rfl, hS, hG⟩
  have HS1 := Lib.hid hS
  have HR1 := Lib.hid (HR0.out.grown hG (fun e => by have := Option.some.inj e; omega))
  have HB1 := Lib.hid (HB0.out.grown hG HB0.out.size (fun q hq => by cases hq; omega))
  clear hS hG HS0 HR0 HB0
  generalize (cutO 1 (some L)).1 = junk at *
  generalize (cutO 1 (some L)).2 = o1 at *
  go_wp2_with fail
  refine (scNum_any _ _ _ _ HS1.out (by omega)).mono ?_
  rintro e w2 ⟨rfl, hS, hG⟩
  rw [HEQ.out.1] at hS
  rw [HEQ.out.1]
  have HR2 := Lib.hid (HR1.out.grown hG (fun e => by have := Option.some.inj e; omega))
  have HB2 := Lib.hid (HB1.out.grown hG HB1.out.size (fun q hq => by cases hq; omega))
  have HS2 := Lib.hid hS
  have hz2 : w.heap.size + 1 < w2.heap.size := hS.lt
  replace HEQ := Lib.hid HEQ.out.2
  clear hS hG HS1 HR1 HB1
  generalize (rdI L).1 = vi at *
  generalize (rdI L).2 = oi at *
  go_wp2_with fail
  have HX2 := Lib.hid (cs_new w2 45 #[.int .i64 vi, .int .i64 0, .int .i64 0, .string ByteArray.empty, .slice none 0 0])
  refine (scNum_any _ _ _ _ (sa_alloc HS2.out _) (by omega)).mono ?_
  rintro e w3 ⟨rfl, hS, hG⟩
  rw [HEQ.out.1] at hS
  rw [HEQ.out.1]
  have HR3 := Lib.hid ((HR2.out.alloc (.cells #[.int .i64 vi, .int .i64 0, .int .i64 0, .string ByteArray.empty, .slice none 0 0] 45)).grown hG (fun e => by have := Option.some.inj e; omega))
  have HX3 := Lib.hid (HX2.out.grown hG (fun e => by have := Option.some.inj e; omega))
  have HB3 := Lib.hid ((HB2.out.alloc HB2.out.size (.cells #[.int .i64 vi, .int .i64 0, .int .i64 0, .string ByteArray.empty, .slice none 0 0] 45)).grown hG (by simp; omega) (fun q hq => by cases hq; omega))
  have HS3 := Lib.hid hS
  have hz3 : w2.heap.size < w3.heap.size := HX3.out.lt
  replace HEQ := Lib.hid HEQ.out.2
  clear hS hG HS2 HR2 HB2 HX2
  generalize hX : w2.heap.size = X at *
  clear hX
  generalize (rdK L).1 = vk at *
  generalize (rdK L).2 = ok at *
  -- the kind is stored
  obtain ⟨⟨x0, x1, x2, x3, x4⟩, f0, f1, f2, f3, f4⟩ := HX3.out.five
  have HX4 : Hid (Cs (w3.setCell ⟨X, 1, none⟩ (.int .i64 vk)) X [.int .i64 vi, .int .i64 vk, .int .i64 0, .string ByteArray.empty, .slice none 0 0]) := Lib.hid (HX3.out.set 1 (.int .i64 vk))
  have HS4 := Lib.hid (sa_far (g := X) (j := 1) (u := .int .i64 vk) HS3.out (by omega))
  have HR4 := Lib.hid (HR3.out.far (g := X) (j := 1) (u := .int .i64 vk) (by omega))
  have HB4 := Lib.hid (HB3.out.setCell (p := ⟨X, 1, none⟩) (by dsimp only; omega) (.int .i64 vk))
  clear HX3 HS3 HR3 HB3
  go_wp2_with fail
  refine (scNum_any _ _ _ _ HS4.out (by omega)).mono ?_
  rintro e w5 ⟨rfl, hS, hG⟩
  rw [HEQ.out.1] at hS
  rw [HEQ.out.1]
  have HR5 := Lib.hid (HR4.out.grown hG (fun e => by have := Option.some.inj e; omega))
  have HX5 := Lib.hid (HX4.out.grown hG (fun e => by have := Option.some.inj e; omega))
  have HB5 := Lib.hid (HB4.out.grown hG HB4.out.size (fun q hq => by cases hq; omega))
  have HS5 := Lib.hid hS
  have hz5 : X < w5.heap.size := HX5.out.lt
  replace HEQ := Lib.hid HEQ.out.2
  clear hS hG HS4 HR4 HB4 HX4 x0 x1 x2 x3 x4 f0 f1 f2 f3 f4
  generalize (rdL L).1 = vl at *
  generalize (rdL L).2 = ol at *
  obtain ⟨⟨x0, x1, x2, x3, x4⟩, f0, f1, f2, f3, f4⟩ := HX5.out.five
  have HX6 : Hid (Cs (w5.setCell ⟨X, 2, none⟩ (.int .i64 vl)) X [.int .i64 vi, .int .i64 vk, .int .i64 vl, .string ByteArray.empty, .slice none 0 0]) := Lib.hid (HX5.out.set 2 (.int .i64 vl))
  have HS6 := Lib.hid (sa_far (g := X) (j := 2) (u := .int .i64 vl) HS5.out (by omega))
  have HR6 := Lib.hid (HR5.out.far (g := X) (j := 2) (u := .int .i64 vl) (by omega))
  have HB6 := Lib.hid (HB5.out.setCell (p := ⟨X, 2, none⟩) (by dsimp only; omega) (.int .i64 vl))
  clear HX5 HS5 HR5 HB5
  go_wp2_with fail
  refine (scPiece_any _ _ _ _ HS6.out (by omega)).mono ?_
  rintro e w7 ⟨rfl, hS, hG⟩
  rw [HEQ.out.1] at hS
  rw [HEQ.out.1]
  have HR7 := Lib.hid (HR6.out.grown hG (fun e => by have := Option.some.inj e; omega))
  have HX7 := Lib.hid (HX6.out.grown hG (fun e => by have := Option.some.inj e; omega))
  have HB7 := Lib.hid (HB6.out.grown hG HB6.out.size (fun q hq => by cases hq; omega))
  have HS7 := Lib.hid hS
  have hz7 : X < w7.heap.size := HX7.out.lt
  replace HEQ := Lib.hid HEQ.out.2
  clear hS hG HS6 HR6 HB6 HX6 x0 x1 x2 x3 x4 f0 f1 f2 f3 f4
  rw [show (⟨(rdD L).1.toArray⟩ : ByteArray) = nmOf (rdD L).1 from rfl]
  generalize nmOf (rdD L).1 = vd at *
  generalize (rdD L).2 = od at *
  obtain ⟨⟨x0, x1, x2, x3, x4⟩, f0, f1, f2, f3, f4⟩ := HX7.out.five
  have HX8 : Hid (Cs (w7.setCell ⟨X, 3, none⟩ (.string vd)) X [.int .i64 vi, .int .i64 vk, .int .i64 vl, .string vd, .slice none 0 0]) := Lib.hid (HX7.out.set 3 (.string vd))
  have HS8 := Lib.hid (sa_far (g := X) (j := 3) (u := .string vd) HS7.out (by omega))
  have HR8 := Lib.hid (HR7.out.far (g := X) (j := 3) (u := .string vd) (by omega))
  have HB8 := Lib.hid (HB7.out.setCell (p := ⟨X, 3, none⟩) (by dsimp only; omega) (.string vd))
  clear HX7 HS7 HR7 HB7
  go_wp2_with fail
  refine (scMany_any _ _ 12 _ _ HS8.out (by omega) (by omega) (by omega)).mono ?_
  rintro e w9 ⟨rfl, hS, hG⟩
  rw [HEQ.out] at hS
  rw [HEQ.out]
  have HR9 := Lib.hid (HR8.out.grown hG (fun e => by have := Option.some.inj e; omega))
  have HX9 := Lib.hid (HX8.out.grown hG (fun e => by have := Option.some.inj e; omega))
  have HB9 := Lib.hid (HB8.out.grown hG HB8.out.size (fun q hq => by cases hq; omega))
  have HS9 := Lib.hid hS
  have hz9 : X < w9.heap.size := HX9.out.lt
  clear hS hG HS8 HR8 HB8 HX8 x0 x1 x2 x3 x4 f0 f1 f2 f3 f4 HEQ
  obtain ⟨nn, hnn⟩ : ∃ x, (rdN L).1 = x := ⟨_, rfl⟩
  rw [hnn] at hnr HRD ⊢
  clear hnn
  obtain ⟨n, rfl⟩ := Int.eq_ofNat_of_zero_le hnr.1
  have hn12 : n ≤ 12 := by omega
  rw [Int.toNat_natCast] at HRD
  clear hnr
  generalize (rdN L).2 = o3 at *
  have hRX : w.heap.size ≠ X := by omega
  have hSX : w.heap.size + 1 < X := by omega
  go_wp2
  go_loopg [28] n (fun gg i wr => ∃ (k : Nat) (g : Option Addr) (c : Nat), k + gg = n ∧ i = .int .i64 (k : Int) ∧ Hid (ScanAt wr (w.heap.size + 1) (rdEnts o3 k).2 s.size) ∧ Hid (Cs wr X [.int .i64 vi, .int .i64 vk, .int .i64 vl, .string vd, .slice g k c]) ∧ Hid (Own 74 4 (X + 1) wr (.slice g k c) k (ens (rdEnts o3 k).1) wr) ∧ Hid (Cs wr w.heap.size [.int .i64 0, .int .i64 0, .int .i64 0, .string ByteArray.empty, .slice none 0 0]) ∧ Hid (Below w.heap.size w wr))
  case atStart => exact ⟨0, none, 0, by omega, rfl, HS9, HX9, Lib.hid ⟨World.ownsRow_nil _ _ _ _, Below.refl _ _, by omega⟩, HR9, HB9⟩
  case round => as_aux_lemma =>
    obtain ⟨k, g, c, hk, rfl, HS, HX, HO, HR, HB⟩ := hrel
    clear HS9 HX9 HR9 HB9
    have hTl : X < wr.heap.size := HX.out.lt
    by_cases hlt : k < n
    · have hi : (k : Int) < (n : Int) := by omega
      go_wp2_with fail
      refine (scNum_any _ _ _ _ HS.out (by omega)).mono ?_
      rintro e w4 ⟨rfl, hS, hG⟩
      have HST : Hid (rdEnts o3 (k + 1) = ((rdEnts o3 k).1 ++ [⟨hashF (nmOf (pieceO (numO (rdEnts o3 k).2).2).1), (numO (rdEnts o3 k).2).1, nmOf (pieceO (numO (rdEnts o3 k).2).2).1, (numO (pieceO (numO (rdEnts o3 k).2).2).2).1⟩], (numO (pieceO (numO (rdEnts o3 k).2).2).2).2)) := Lib.hid rfl
      have HS4 := Lib.hid hS
      have HX4 := Lib.hid (HX.out.grown hG (fun e => by have := Option.some.inj e; omega))
      have HR4 := Lib.hid (HR.out.grown hG (fun e => by have := Option.some.inj e; omega))
      have HO4 := Lib.hid (HO.out.otherLow hG (fun q hq e => by have := (HO.out.blk q hq).1; have := Option.some.inj e; omega))
      have HB4 := Lib.hid (HB.out.grown hG HB.out.size (fun q hq => by cases hq; omega))
      have hTl4 : X < w4.heap.size := HX4.out.lt
      clear hS hG HS HX HO HR HB
      generalize (rdEnts o3 k).1 = es at *
      generalize (rdEnts o3 k).2 = ok2 at *
      generalize (numO ok2).1 = ei at *
      generalize (numO ok2).2 = op at *
      go_wp2_with fail
      have HE4 := Lib.hid (cs_new w4 74 #[.int .i64 0, .int .i64 ei, .string ByteArray.empty, .int .i64 0])
      refine (scPiece_any _ _ _ _ (sa_alloc HS4.out _) (by omega)).mono ?_
      rintro e w5 ⟨rfl, hS, hG⟩
      have hpl := pieceO_len (sa_len HS4.out)
      have HS5 := Lib.hid hS
      have HX5 := Lib.hid ((HX4.out.alloc (.cells #[.int .i64 0, .int .i64 ei, .string ByteArray.empty, .int .i64 0] 74)).grown hG (fun e => by have := Option.some.inj e; omega))
      have HR5 := Lib.hid ((HR4.out.alloc (.cells #[.int .i64 0, .int .i64 ei, .string ByteArray.empty, .int .i64 0] 74)).grown hG (fun e => by have := Option.some.inj e; omega))
      have HE5 := Lib.hid (HE4.out.grown hG (fun e => by have := Option.some.inj e; omega))
      have HO5 := Lib.hid (((HO4.out.alloc (.cells #[.int .i64 0, .int .i64 ei, .string ByteArray.empty, .int .i64 0] 74)).self).otherLow hG (fun q hq e => by have := (HO4.out.blk q hq).1; have := Option.some.inj e; omega))
      have HB5 := Lib.hid ((HB4.out.alloc HB4.out.size (.cells #[.int .i64 0, .int .i64 ei, .string ByteArray.empty, .int .i64 0] 74)).grown hG (by simp; omega) (fun q hq => by cases hq; omega))
      have hz5' : w4.heap.size < w5.heap.size := HE5.out.lt
      have HOB := Lib.hid (fun q hq => HO4.out.blk q hq)
      have hnsz : (nmOf (pieceO op).1).size ≤ 1073741824 := by
        have : (nmOf (pieceO op).1).size = (pieceO op).1.length := List.size_toArray
        omega
      clear hS hG HS4 HX4 HR4 HO4 HB4 HE4 hpl
      rw [show (⟨(pieceO op).1.toArray⟩ : ByteArray) = nmOf (pieceO op).1 from rfl]
      generalize nmOf (pieceO op).1 = nm at *
      generalize (pieceO op).2 = oq at *
      generalize hE : w4.heap.size = E at *
      clear hE
      -- the name is stored
      obtain ⟨⟨b0, b1, b2, b3⟩, fb0, fb1, fb2, fb3⟩ := HE5.out.four
      have HE6 : Hid (Cs (w5.setCell ⟨E, 2, none⟩ (.string nm)) E [.int .i64 0, .int .i64 ei, .string nm, .int .i64 0]) := Lib.hid (HE5.out.set 2 (.string nm))
      have HO6 := Lib.hid (own_far HO5.out E 2 (.string nm) (fun q hq => by have := (HOB.out q hq).2; omega))
      have HX6 := Lib.hid (HX5.out.far (g := E) (j := 2) (u := .string nm) (by omega))
      have HR6 := Lib.hid (HR5.out.far (g := E) (j := 2) (u := .string nm) (by omega))
      have HS6 := Lib.hid (sa_far (g := E) (j := 2) (u := .string nm) HS5.out (by omega))
      have HB6 := Lib.hid (HB5.out.setCell (p := ⟨E, 2, none⟩) (by dsimp only; omega) (.string nm))
      clear HE5 HO5 HX5 HR5 HS5 HB5
      go_wp2_with fail
      refine (scNum_any _ _ _ _ HS6.out (by omega)).mono ?_
      rintro e w7 ⟨rfl, hS, hG⟩
      have HS7 := Lib.hid hS
      have HX7 := Lib.hid (HX6.out.grown hG (fun e => by have := Option.some.inj e; omega))
      have HR7 := Lib.hid (HR6.out.grown hG (fun e => by have := Option.some.inj e; omega))
      have HE7 := Lib.hid (HE6.out.grown hG (fun e => by have := Option.some.inj e; omega))
      have HO7 := Lib.hid (HO6.out.otherLow hG (fun q hq e => by have := (HOB.out q hq).1; have := Option.some.inj e; omega))
      have HB7 := Lib.hid (HB6.out.grown hG HB6.out.size (fun q hq => by cases hq; omega))
      have hz7' : E < w7.heap.size := HE7.out.lt
      clear hS hG HS6 HX6 HR6 HE6 HO6 HB6 b0 b1 b2 b3 fb0 fb1 fb2 fb3
      generalize (numO oq).1 = ed at *
      generalize (numO oq).2 = os at *
      obtain ⟨⟨b0, b1, b2, b3⟩, fb0, fb1, fb2, fb3⟩ := HE7.out.four
      have HE8 : Hid (Cs (w7.setCell ⟨E, 3, none⟩ (.int .i64 ed)) E [.int .i64 0, .int .i64 ei, .string nm, .int .i64 ed]) := Lib.hid (HE7.out.set 3 (.int .i64 ed))
      have HO8 := Lib.hid (own_far HO7.out E 3 (.int .i64 ed) (fun q hq => by have := (HOB.out q hq).2; omega))
      have HX8 := Lib.hid (HX7.out.far (g := E) (j := 3) (u := .int .i64 ed) (by omega))
      have HR8 := Lib.hid (HR7.out.far (g := E) (j := 3) (u := .int .i64 ed) (by omega))
      have HS8 := Lib.hid (sa_far (g := E) (j := 3) (u := .int .i64 ed) HS7.out (by omega))
      have HB8 := Lib.hid (HB7.out.setCell (p := ⟨E, 3, none⟩) (by dsimp only; omega) (.int .i64 ed))
      clear HE7 HO7 HX7 HR7 HS7 HB7
      go_wp2_with fail
      refine (implHashOf_any nm _ hnsz (HT.out.below HB8.out (Nat.le_refl _))).mono ?_
      rintro e w10 ⟨rfl, hb⟩
      have HE10 := Lib.hid (HE8.out.below hb)
      have HO10 := Lib.hid (HO8.out.stay hb)
      have HX10 := Lib.hid (HX8.out.below hb)
      have HR10 := Lib.hid (HR8.out.below hb)
      have HS10 := Lib.hid (HS8.out.below hb)
      have HB10 := Lib.hid (HB8.out.trans (hb.mono HB8.out.size))
      have hz10 : E < w10.heap.size := HE10.out.lt
      have hzX10 : X < w10.heap.size := HX10.out.lt
      clear hb HE8 HO8 HX8 HR8 HS8 HB8 b0 b1 b2 b3 fb0 fb1 fb2 fb3
      generalize hashF nm = eh at *
      obtain ⟨⟨b0, b1, b2, b3⟩, fb0, fb1, fb2, fb3⟩ := HE10.out.four
      obtain ⟨⟨x0, x1, x2, x3, x4⟩, f0, f1, f2, f3, f4⟩ := HX10.out.five
      have HO11 := Lib.hid (own_far HO10.out E 0 (.int .i64 eh) (fun q hq => by have := (HOB.out q hq).2; omega))
      have HX11 := Lib.hid (HX10.out.far (g := E) (j := 0) (u := .int .i64 eh) (by omega))
      have HR11 := Lib.hid (HR10.out.far (g := E) (j := 0) (u := .int .i64 eh) (by omega))
      have HS11 := Lib.hid (sa_far (g := E) (j := 0) (u := .int .i64 eh) HS10.out (by omega))
      have HB11 := Lib.hid (HB10.out.setCell (p := ⟨E, 0, none⟩) (by dsimp only; omega) (.int .i64 eh))
      have HNX : Hid (∀ W, (w10.setCell ⟨E, 0, none⟩ (.int .i64 eh)).grownBy W (Value.slice g k c).ownBlock → Cs W X [.int .i64 vi, .int .i64 vk, .int .i64 vl, .string vd, .slice g k c] ∧ Cs W w.heap.size [.int .i64 0, .int .i64 0, .int .i64 0, .string ByteArray.empty, .slice none 0 0] ∧ ScanAt W (w.heap.size + 1) os s.size ∧ Below w.heap.size w W) := Lib.hid (fun W hg => ⟨HX11.out.grown hg (fun e => by have := (HOB.out _ e).1; omega), HR11.out.grown hg (fun e => by have := (HOB.out _ e).1; omega), sa_grown HS11.out hg (fun e => by have := (HOB.out _ e).1; omega), HB11.out.grown hg HB11.out.size (fun q hq => by have := (HOB.out q hq).1; omega)⟩)
      have hneX : X ≠ E := by omega
      clear HE10 HO10 HX10 HR10 HS10 HB10 HX11 HR11 HS11 HB11
      go_wp2_with (at_builtin; go_loud (refine wp_app1d rfl _ _ 43 rfl 74 (.agg #[.int .i64 0, .int .i64 0, .string ByteArray.empty, .int .i64 0]) 4 40 Tryz.underlying43 info_ent rfl (by decide) _ _ _ _ _ (by rfl) (by exact HO11.out) _ _ _ (by rfl) (by first | rfl | simp) (by rfl) (by intro u hu; simp at hu; rcases hu with rfl | rfl | rfl | rfl <;> rfl) (by omega) (by unfold maxLen; omega) ?_); intro a9 c9 w11 hO9 hG9 hN9; have HQ := Lib.hid (HNX.out _ hG9); obtain ⟨⟨y0, y1, y2, y3, y4⟩, g0, g1, g2, g3, g4⟩ := HQ.out.1.five; have HO9 := Lib.hid hO9; have hzT := HQ.out.1.lt; clear hG9 hN9 hO9)
      go_roundg (gk - 1)
      case measure => omega
      case rel =>
        refine ⟨k + 1, _, _, by omega, by go_num, Lib.hid ?_, Lib.hid (HQ.out.1.set 4 _), Lib.hid ?_, Lib.hid (HQ.out.2.1.far (by omega)), Lib.hid (HQ.out.2.2.2.setCell (by dsimp only; omega) _)⟩
        · rw [HST.out]
          exact sa_far HQ.out.2.2.1 (by omega)
        · rw [HST.out, ens_append]
          exact own_far HO9.out.self X 4 _ (fun q hq => by have := (HO9.out.blk q hq).1; omega)
    · have e : k = n := by omega
      have hi : ¬ (k : Int) < (n : Int) := by omega
      have hlL : (rdEnts o3 n).1.length = n := rdEnts_len o3 n
      rw [e] at HS HX HO
      rw [e]
      clear e hlt hk hi
      obtain ⟨⟨x0, x1, x2, x3, x4⟩, f0, f1, f2, f3, f4⟩ := HX.out.five
      obtain ⟨⟨r0, r1, r2, r3, r4⟩, fr0, fr1, fr2, fr3, fr4⟩ := HR.out.five
      have s1 := sa_none HS.out
      have hzR : w.heap.size < wr.heap.size := HR.out.lt
      have hzS : w.heap.size + 1 < wr.heap.size := HS.out.lt
      have HHL := Lib.hid hlL
      have HSF := Lib.hid HS.out
      have HXF := Lib.hid HX.out
      have HOF := Lib.hid HO.out
      have HBF := Lib.hid HB.out
      have hok : ∃ b, (rdEnts o3 n).2.isSome = b := ⟨_, rfl⟩
      obtain ⟨okb, hokb⟩ := hok
      rw [hokb] at s1 HRD
      clear hlL hokb
      generalize (rdEnts o3 n).2 = oz at *
      generalize (rdEnts o3 n).1 = es at *
      have HKA : Hid ((((((((wr.setCell ⟨w.heap.size, 0, none⟩ (.int .i64 vi)).setCell ⟨w.heap.size, 1, none⟩ (.int .i64 vk)).setCell ⟨w.heap.size, 2, none⟩ (.int .i64 vl)).setCell ⟨w.heap.size, 3, none⟩ (.string vd)).setCell ⟨w.heap.size, 4, none⟩ (.slice g n c)).drew.cell? ⟨X, 0, none⟩ = some (.int .i64 vi) ∧ (((((wr.setCell ⟨w.heap.size, 0, none⟩ (.int .i64 vi)).setCell ⟨w.heap.size, 1, none⟩ (.int .i64 vk)).setCell ⟨w.heap.size, 2, none⟩ (.int .i64 vl)).setCell ⟨w.heap.size, 3, none⟩ (.string vd)).setCell ⟨w.heap.size, 4, none⟩ (.slice g n c)).drew.cell? ⟨X, 1, none⟩ = some (.int .i64 vk) ∧ (((((wr.setCell ⟨w.heap.size, 0, none⟩ (.int .i64 vi)).setCell ⟨w.heap.size, 1, none⟩ (.int .i64 vk)).setCell ⟨w.heap.size, 2, none⟩ (.int .i64 vl)).setCell ⟨w.heap.size, 3, none⟩ (.string vd)).setCell ⟨w.heap.size, 4, none⟩ (.slice g n c)).drew.cell? ⟨X, 2, none⟩ = some (.int .i64 vl) ∧ (((((wr.setCell ⟨w.heap.size, 0, none⟩ (.int .i64 vi)).setCell ⟨w.heap.size, 1, none⟩ (.int .i64 vk)).setCell ⟨w.heap.size, 2, none⟩ (.int .i64 vl)).setCell ⟨w.heap.size, 3, none⟩ (.string vd)).setCell ⟨w.heap.size, 4, none⟩ (.slice g n c)).drew.cell? ⟨X, 3, none⟩ = some (.string vd) ∧ (((((wr.setCell ⟨w.heap.size, 0, none⟩ (.int .i64 vi)).setCell ⟨w.heap.size, 1, none⟩ (.int .i64 vk)).setCell ⟨w.heap.size, 2, none⟩ (.int .i64 vl)).setCell ⟨w.heap.size, 3, none⟩ (.string vd)).setCell ⟨w.heap.size, 4, none⟩ (.slice g n c)).drew.cell? ⟨X, 4, none⟩ = some (.slice g n c))) ∧ (((((wr.setCell ⟨w.heap.size, 0, none⟩ (.int .i64 vi)).setCell ⟨w.heap.size, 1, none⟩ (.int .i64 vk)).setCell ⟨w.heap.size, 2, none⟩ (.int .i64 vl)).setCell ⟨w.heap.size, 3, none⟩ (.string vd)).setCell ⟨w.heap.size, 4, none⟩ (.slice g n c)).drew.cell? ⟨w.heap.size + 1, 1, none⟩ = some (.bool (!okb))) := Lib.hid ⟨(cs_far5 HXF.out (show X ≠ w.heap.size by omega) (.int .i64 vi) (.int .i64 vk) (.int .i64 vl) (.string vd) (.slice g n c)).five.1, cell_far5 (g := w.heap.size) (u0 := .int .i64 vi) (u1 := .int .i64 vk) (u2 := .int .i64 vl) (u3 := .string vd) (u4 := .slice g n c) s1 (by omega)⟩
      have HRF : Hid (Cs (((((wr.setCell ⟨w.heap.size, 0, none⟩ (.int .i64 vi)).setCell ⟨w.heap.size, 1, none⟩ (.int .i64 vk)).setCell ⟨w.heap.size, 2, none⟩ (.int .i64 vl)).setCell ⟨w.heap.size, 3, none⟩ (.string vd)).setCell ⟨w.heap.size, 4, none⟩ (.slice g n c)).drew w.heap.size [.int .i64 vi, .int .i64 vk, .int .i64 vl, .string vd, .slice g n c]) := Lib.hid (cs_set5 HR.out (.int .i64 vi) (.int .i64 vk) (.int .i64 vl) (.string vd) (.slice g n c))
      have HPO : Hid (InoPost (rdIno L).1 (rdIno L).2 w (.returned (.tuple #[.agg #[.int .i64 vi, .int .i64 vk, .int .i64 vl, .string vd, .slice g n c], .bool okb])) (((((wr.setCell ⟨w.heap.size, 0, none⟩ (.int .i64 vi)).setCell ⟨w.heap.size, 1, none⟩ (.int .i64 vk)).setCell ⟨w.heap.size, 2, none⟩ (.int .i64 vl)).setCell ⟨w.heap.size, 3, none⟩ (.string vd)).setCell ⟨w.heap.size, 4, none⟩ (.slice g n c)).drew) := Lib.hid (by
        rw [HRD.out]
        unfold InoPost
        simp only
        rw [HHL.out]
        exact ⟨g, c, rfl, own_far5 HOF.out w.heap.size (.int .i64 vi) (.int .i64 vk) (.int .i64 vl) (.string vd) (.slice g n c) (fun q hq => by have := (HOF.out.blk q hq).1; omega) HBF.out (by omega) (Nat.le_refl _)⟩)
      go_wp2
      refine wp_region_held_drew (S := (fun W => (W.cell? ⟨X, 0, none⟩ = some (.int .i64 vi) ∧ W.cell? ⟨X, 1, none⟩ = some (.int .i64 vk) ∧ W.cell? ⟨X, 2, none⟩ = some (.int .i64 vl) ∧ W.cell? ⟨X, 3, none⟩ = some (.string vd) ∧ W.cell? ⟨X, 4, none⟩ = some (.slice g n c)) ∧ W.cell? ⟨w.heap.size + 1, 1, none⟩ = some (.bool (!okb)))) (by kernel_rfl) ?_ (fun hHeld => ?_)
      · try dsimp only
        exact ⟨⟨x0, x1, x2, x3, x4⟩, s1⟩
      change wpAnyH _ _ _ _ _ 8 #[false, false, false, false, false, false, false, false] _ _
      refine wpH_take (i := 0) (v := ?_) rfl (by kernel_rfl) (by kernel_rfl) (by kernel_rfl) (fun _ _ _ h => h) (by rfl) ?_ (by assumption) ?_; rotate_left; (focus (intro w hSw; (try dsimp only at hSw); go_simp; try with_reducible rfl)); try simp only [Act.put, List.setIfInBounds_toArray, List.set_cons_zero, List.set_cons_succ]
      refine wpH_take (i := 1) (v := ?_) rfl (by kernel_rfl) (by kernel_rfl) (by kernel_rfl) (fun _ _ _ h => h) (by rfl) ?_ (by assumption) ?_; rotate_left; (focus (intro w hSw; (try dsimp only at hSw); go_simp; try with_reducible rfl)); try simp only [Act.put, List.setIfInBounds_toArray, List.set_cons_zero, List.set_cons_succ]
      refine wpH_take (i := 2) (v := ?_) rfl (by kernel_rfl) (by kernel_rfl) (by kernel_rfl) (fun _ _ _ h => h) (by rfl) ?_ (by assumption) ?_; rotate_left; (focus (intro w hSw; (try dsimp only at hSw); go_simp; try with_reducible rfl)); try simp only [Act.put, List.setIfInBounds_toArray, List.set_cons_zero, List.set_cons_succ]
      refine wpH_take (i := 3) (v := ?_) rfl (by kernel_rfl) (by kernel_rfl) (by kernel_rfl) (fun _ _ _ h => h) (by rfl) ?_ (by assumption) ?_; rotate_left; (focus (intro w hSw; (try dsimp only at hSw); go_simp; try with_reducible rfl)); try simp only [Act.put, List.setIfInBounds_toArray, List.set_cons_zero, List.set_cons_succ]
      refine wpAnyH_ready (rs := [4, 6]) (by kernel_rfl) (by simp) ?_
      refine AllReadyH.cons rfl (fun K hK => ?_) (AllReadyH.cons rfl (fun K hK => ?_) AllReadyH.nil)
      · skip
        try dsimp only at hHeld
        go_simp
        refine hK.out _ _ (by exact hHeld) (fun hHeld2 => ?_)
        clear hK K hHeld
        have hHeld := hHeld2
        clear hHeld2
        refine wpH_take (i := 5) (v := ?_) rfl (by kernel_rfl) (by kernel_rfl) (by kernel_rfl) (fun _ _ _ h => h) (by rfl) ?_ (by assumption) ?_; rotate_left; (focus (intro w hSw; (try dsimp only at hSw); go_simp; try with_reducible rfl)); try simp only [Act.put, List.setIfInBounds_toArray, List.set_cons_zero, List.set_cons_succ]
        refine wpAnyH_ready (rs := [6]) (by kernel_rfl) (by simp) ?_
        refine AllReadyH.cons rfl (fun K hK => ?_) AllReadyH.nil
        go_simp
        refine hK.out _ _ (by exact HKA.out) (fun hHeld2 => ?_)
        clear hK K hHeld
        have hHeld := hHeld2
        clear hHeld2
        refine wpH_take (i := 7) (v := ?_) rfl (by kernel_rfl) (by kernel_rfl) (by kernel_rfl) (fun _ _ _ h => h) (by rfl) ?_ (by assumption) ?_; rotate_left; (focus (intro w hSw; (try dsimp only at hSw); go_simp; try with_reducible rfl)); try simp only [Act.put, List.setIfInBounds_toArray, List.set_cons_zero, List.set_cons_succ]
        refine wpAnyH_done (by kernel_rfl) ?_ _
        clear hHeld
        go_wp2
        clear r0 r1 r2 r3 r4 fr0 fr1 fr2 fr3 fr4 x0 x1 x2 x3 x4 f0 f1 f2 f3 f4 s1 HKA
        generalize (((((wr.setCell ⟨w.heap.size, 0, none⟩ (.int .i64 vi)).setCell ⟨w.heap.size, 1, none⟩ (.int .i64 vk)).setCell ⟨w.heap.size, 2, none⟩ (.int .i64 vl)).setCell ⟨w.heap.size, 3, none⟩ (.string vd)).setCell ⟨w.heap.size, 4, none⟩ (.slice g n c)).drew = wf at *
        exact ret_inodeOf HRF.out (by rfl) (by rfl) (by rfl) HPO.out
      · skip
        go_simp
        refine hK.out _ _ (by exact HKA.out) (fun hHeld2 => ?_)
        clear hK K hHeld
        have hHeld := hHeld2
        clear hHeld2
        refine wpH_take (i := 4) (v := ?_) rfl (by kernel_rfl) (by kernel_rfl) (by kernel_rfl) (fun _ _ _ h => h) (by rfl) ?_ (by assumption) ?_; rotate_left; (focus (intro w hSw; (try dsimp only at hSw); go_simp; try with_reducible rfl)); try simp only [Act.put, List.setIfInBounds_toArray, List.set_cons_zero, List.set_cons_succ]
        refine wpH_take (i := 5) (v := ?_) rfl (by kernel_rfl) (by kernel_rfl) (by kernel_rfl) (fun _ _ _ h => h) (by rfl) ?_ (by assumption) ?_; rotate_left; (focus (intro w hSw; (try dsimp only at hSw); go_simp; try with_reducible rfl)); try simp only [Act.put, List.setIfInBounds_toArray, List.set_cons_zero, List.set_cons_succ]
        refine wpH_take (i := 7) (v := ?_) rfl (by kernel_rfl) (by kernel_rfl) (by kernel_rfl) (fun _ _ _ h => h) (by rfl) ?_ (by assumption) ?_; rotate_left; (focus (intro w hSw; (try dsimp only at hSw); go_simp; try with_reducible rfl)); try simp only [Act.put, List.setIfInBounds_toArray, List.set_cons_zero, List.set_cons_succ]
        refine wpAnyH_done (by kernel_rfl) ?_ _
        clear hHeld
        go_wp2
        clear r0 r1 r2 r3 r4 fr0 fr1 fr2 fr3 fr4 x0 x1 x2 x3 x4 f0 f1 f2 f3 f4 s1 HKA
        generalize (((((wr.setCell ⟨w.heap.size, 0, none⟩ (.int .i64 vi)).setCell ⟨w.heap.size, 1, none⟩ (.int .i64 vk)).setCell ⟨w.heap.size, 2, none⟩ (.int .i64 vl)).setCell ⟨w.heap.size, 3, none⟩ (.string vd)).setCell ⟨w.heap.size, 4, none⟩ (.slice g n c)).drew = wf at *
        exact ret_inodeOf HRF.out (by rfl) (by rfl) (by rfl) HPO.out
/-- What is read is small. -/
theorem numO_le {o : Option (List UInt8)} {m : Nat} (h : ∀ l, o = some l → l.length ≤ m) : ∀ l, (numO o).2 = some l → l.length ≤ m := by
  intro l hl
  unfold numO at hl
  cases o with
  | none => cases hl
  | some r =>
    simp only at hl
    split at hl
    · cases hl
    · cases hl
      have := h r rfl
      rw [List.length_drop]
      omega
theorem cutO_le {o : Option (List UInt8)} {n : Int} {m : Nat} (h : ∀ l, o = some l → l.length ≤ m) : ∀ l, (cutO n o).2 = some l → l.length ≤ m := by
  intro l hl
  unfold cutO at hl
  cases o with
  | none => cases hl
  | some r =>
    simp only at hl
    split at hl
    · cases hl
      have := h r rfl
      rw [List.length_drop]
      omega
    · cases hl
theorem manyO_le {o : Option (List UInt8)} {n : Int} {m : Nat} (h : ∀ l, o = some l → l.length ≤ m) : ∀ l, (manyO n o).2 = some l → l.length ≤ m := by
  intro l hl
  unfold manyO at hl
  split at hl
  · cases hl
  · exact numO_le h l hl
theorem pieceO_le {o : Option (List UInt8)} {m : Nat} (h : ∀ l, o = some l → l.length ≤ m) : ∀ l, (pieceO o).2 = some l → l.length ≤ m := cutO_le (numO_le h)
theorem nmOf_size (l : List UInt8) : (nmOf l).size = l.length := List.size_toArray
theorem rdEnts_small {o : Option (List UInt8)} {m : Nat} (h : ∀ l, o = some l → l.length ≤ m) : ∀ k, (∀ e ∈ (rdEnts o k).1, e.name.size ≤ m) ∧ (∀ l, (rdEnts o k).2 = some l → l.length ≤ m) := by
  intro k
  induction k with
  | zero => exact ⟨(fun e he => by cases he), h⟩
  | succ k ih =>
    obtain ⟨h1, h2⟩ := ih
    have h3 := numO_le h2
    refine ⟨fun e he => ?_, numO_le (pieceO_le h3)⟩
    rw [rdEnts] at he
    rcases List.mem_append.1 he with he | he
    · exact h1 e he
    · rw [List.mem_singleton] at he
      subst he
      show (nmOf _).size ≤ m
      rw [nmOf_size]
      exact pieceO_len h3
theorem rdIno_small (s : List UInt8) (m : Nat) (h : s.length ≤ m) : (∀ e ∈ (rdIno s).1.ents, e.name.size ≤ m) ∧ (rdIno s).1.ents.length ≤ 12 := by
  have h0 : ∀ l, some s = some l → l.length ≤ m := fun l hl => by cases hl; exact h
  have h1 := numO_le (numO_le (numO_le (cutO_le (n := 1) h0)))
  refine ⟨(rdEnts_small (manyO_le (n := 12) (pieceO_le h1)) _).1, ?_⟩
  show (rdEnts _ _).1.length ≤ 12
  rw [rdEnts_len]
  have := manyO_in 12 (by omega) (rdD s).2
  have e : (rdN s).1 = (manyO 12 (rdD s).2).1 := rfl
  rw [e]
  omega
theorem rdInos_ok {t : List ByteArray} {k : Nat} {l : List InoL} (hs : ∀ s ∈ t, s.size ≤ 1048576) (h : rdInos t k = some l) : l.length = k ∧ (∀ x ∈ l, x.ents.length ≤ 12) ∧ (∀ x ∈ l, ∀ e ∈ x.ents, e.name.size ≤ 1048576) := by
  induction k generalizing l with
  | zero => rw [rdInos] at h; cases h; simp
  | succ k ih =>
    rw [rdInos] at h
    split at h
    · cases h
    · rename_i l0 hl0
      obtain ⟨h1, h2, h3⟩ := ih hl0
      split at h
      · cases h
        have hsz : (t.getD (k + 1) ByteArray.empty).size ≤ 1048576 := by
          rw [List.getD_eq_getElem?_getD]
          cases hq : t[k + 1]? with
          | none => decide
          | some s => exact hs s (List.mem_of_getElem? hq)
        have hr := rdIno_small (t.getD (k + 1) ByteArray.empty).data.toList 1048576 (by rw [data_len]; exact hsz)
        refine ⟨by rw [List.length_append, h1]; rfl, fun x hx => ?_, fun x hx => ?_⟩
        · rcases List.mem_append.1 hx with hx | hx
          · exact h2 x hx
          · rw [List.mem_singleton] at hx; subst hx; exact hr.2
        · rcases List.mem_append.1 hx with hx | hx
          · exact h3 x hx
          · rw [List.mem_singleton] at hx; subst hx; exact hr.1
      · cases h
theorem rdInos_bad {t : List ByteArray} {k : Nat} (h : rdInos t k = none) : ∀ n, k ≤ n → rdInos t n = none := by
  intro n hn
  induction n with
  | zero => have : k = 0 := by omega
            subst this; exact h
  | succ n ih =>
    by_cases e : k = n + 1
    · subst e; exact h
    · rw [rdInos, ih (by omega)]
theorem rdInos_step {t : List ByteArray} {k : Nat} {l : List InoL} (h : rdInos t k = some l) : rdInos t (k + 1) = if (rdIno (t.getD (k + 1) ByteArray.empty).data.toList).2 = true then some (l ++ [(rdIno (t.getD (k + 1) ByteArray.empty).data.toList).1]) else none := by rw [rdInos, h]
def RbPost (t : List ByteArray) (w : World) (e : Ending) (w' : World) : Prop := ∃ (a : Option Addr) (c : Nat) (m : List InoP), e = .returned (.tuple #[.agg #[.int .i64 (readV t).1, .slice a m.length c], .bool (readV t).2.2]) ∧ m.map (·.x) = (readV t).2.1 ∧ VolOwn w.heap.size w a c m w'
theorem rb_zero {t : List ByteArray} {w W : World} (hb : Below w.heap.size w W) (h : readV t = (0, [], false)) : RbPost t w (.returned (.tuple #[.agg #[.int .i64 0, .slice none 0 0], .bool false])) W := by
  unfold RbPost
  rw [h]
  exact ⟨none, 0, [], rfl, rfl, vol_none _ _ _ hb hb.size⟩
set_option maxRecDepth 1000000 in
set_option maxHeartbeats 6000000 in
theorem implSame_any (a b : Option Addr) (n m c d : Nat) (l t : List ByteArray) (w : World) (ha : Rd w a n c 1 (strs l)) (hb : Rd w b m d 1 (strs t)) :
    Calls Tryz.prog 30 #[.slice a n c, .slice b m d] w fun e w' => e = .returned (.bool (decide (l = t))) ∧ w = w' := by
  have hl : l.length = n := by have := ha.len; simpa using this
  have ht : t.length = m := by have := hb.len; simpa using this
  subst hl
  subst ht
  have hm := Nat.le_trans ha.le ha.max
  have hm2 := Nat.le_trans hb.le hb.max
  unfold maxLen at hm hm2
  have HA := Lib.hid ha
  have HC := Lib.hid hb
  clear ha hb
  by_cases hlt : l.length = t.length
  rotate_left
  · have HE : Hid (decide (l = t) = false) := Lib.hid (decide_eq_false (fun e => hlt (by rw [e])))
    have hne : ((l.length : Int) != (t.length : Int)) = true := by simp; omega
    clear hlt
    go_enter Tryz.func30, Tryz.ntmps30
    go_wp2
    go_ret
    exact ⟨ret_bool HE.out.symm, rfl⟩
  have HLT := Lib.hid hlt
  have hne : ((l.length : Int) != (t.length : Int)) = false := by simp; omega
  clear hlt
  go_enter Tryz.func30, Tryz.ntmps30
  go_wp2
  go_loopg [14] l.length (fun gg i wr => ∃ k : Nat, k + gg = l.length ∧ i = .int .i64 (k : Int) ∧ Hid (∀ j (h1 : j < l.length) (h2 : j < t.length), j < k → l[j] = t[j]) ∧ wr = w)
  case atStart => exact ⟨0, by omega, rfl, Lib.hid (fun j _ _ h => by omega), rfl⟩
  case round =>
    obtain ⟨k, hk, rfl, HQ, rfl⟩ := hrel
    by_cases hkl : k < l.length
    · have hkt : k < t.length := by have := HLT.out; omega
      obtain ⟨ba, oa, rfl, hba, hca⟩ := HA.out.at' (by omega)
      obtain ⟨bb, ob, rfl, hbb, hcb⟩ := HC.out.at' (by omega)
      have a0 := hca k (by simpa using hkl)
      have b0 := hcb k (by simpa using hkt)
      rw [strs_get l k hkl] at a0
      rw [strs_get t k hkt] at b0
      have hi : (k : Int) < (l.length : Int) := by omega
      have hi2 : (k : Int) < (t.length : Int) := by omega
      have hi0 : (0 : Int) ≤ (k : Int) := by omega
      have HY : Hid (l[k].toList = t[k].toList → ∀ j (h1 : j < l.length) (h2 : j < t.length), j < k + 1 → l[j] = t[j]) := Lib.hid (fun h j h1 h2 h3 => by
        by_cases e : j = k
        · subst e
          rw [ByteArray.toList_eq, ByteArray.toList_eq] at h
          have := congrArg (fun z => (⟨List.toArray z⟩ : ByteArray)) h
          simp only [ba_self] at this
          exact this
        · exact HQ.out j h1 h2 (by omega))
      have HNO : Hid (¬ l[k].toList = t[k].toList → decide (l = t) = false) := Lib.hid (fun h => decide_eq_false (fun e => h (by subst e; rfl)))
      clear hca hcb
      generalize l[k] = x at *
      generalize t[k] = y at *
      cases hq : (x.toList == y.toList) with
      | true =>
        have HY2 := Lib.hid (HY.out (by simpa using hq))
        clear HY HNO
        go_wp2
        go_roundg (gk - 1)
        case measure => omega
        case rel => exact ⟨k + 1, by omega, by go_num, HY2, rfl⟩
      | false =>
        have HE := Lib.hid (HNO.out (by simpa using hq))
        clear HY HNO
        go_wp2
        go_ret
        exact ⟨ret_bool HE.out.symm, rfl⟩
    · obtain rfl : k = l.length := by omega
      have HE : Hid (decide (l = t) = true) := Lib.hid (decide_eq_true (List.ext_getElem HLT.out (fun j h1 h2 => HQ.out j h1 h2 h1)))
      go_wp2
      go_ret
      exact ⟨ret_bool HE.out.symm, rfl⟩
theorem ret_readI {Post : Ending → World → Prop} {a : Act} {wf : World} {R : Nat} {u0 : Int} {u1 : Value} {b : Bool} (hc : Cs wf R [.int .i64 u0, u1]) (h2 : a.tmps[2]?.getD undef = .pointer (some ⟨R, 0, none⟩)) (h3 : a.tmps[3]?.getD undef = .bool b) (hd : a.defers = [])
    (hp : Post (.returned (.tuple #[.agg #[.int .i64 u0, u1], .bool b])) wf) : bodyPost Tryz.prog Tryz.f8 Post Exit.ret a wf := by
  obtain ⟨⟨r0, r1⟩, -⟩ := hc.two
  exact bodyPost_ret (v := .tuple #[.agg #[.int .i64 u0, u1], .bool b]) (by simp [results, Tryz.results8, go_sem, h2, h3, r0, r1]) hd hp
set_option maxRecDepth 1000000 in
set_option maxHeartbeats 6000000 in
theorem implReadBlocks_any (a : Option Addr) (n cap : Nat) (t : List ByteArray) (w : World) (hr : Rd w a n cap 1 (strs t)) (hs : ∀ s ∈ t, s.size ≤ 1048576) (hT : KTab w) :
    Calls Tryz.prog 8 #[.slice a n cap] w (RbPost t w) := by
  have hl : t.length = n := by have := hr.len; simpa using this
  subst hl
  have hm := Nat.le_trans hr.le hr.max
  unfold maxLen at hm
  have HR0 := Lib.hid (cs_new w 26 #[.int .i64 0, .slice none 0 0])
  have HB0 := Lib.hid (boxA w (.cells #[.int .i64 0, .slice none 0 0] 26))
  have HRT := Lib.hid (hr.below HB0.out (Nat.le_refl _))
  have HRO : Hid (∀ W, Below w.heap.size w W → Rd W a t.length cap 1 (strs t)) := Lib.hid (fun W h => hr.below h (Nat.le_refl _))
  have HT := Lib.hid hT
  have HSZ := Lib.hid hs
  clear hr hT hs
  by_cases h17 : t.length = 17
  rotate_left
  · have HZ := Lib.hid (readV_none (t := t) (by unfold parseF; rw [if_neg h17]))
    have hne : ((t.length : Int) != 17) = true := by simp; omega
    obtain ⟨⟨r0, r1⟩, fr0, fr1⟩ := HR0.out.two
    have HRF : Hid (Cs (((w.alloc (.cells #[.int .i64 0, .slice none 0 0] 26)).setCell ⟨w.heap.size, 0, none⟩ (.int .i64 0)).setCell ⟨w.heap.size, 1, none⟩ (.slice none 0 0)) w.heap.size [.int .i64 0, .slice none 0 0]) := Lib.hid ((HR0.out.set 0 _).set 1 _)
    have HBF := Lib.hid ((HB0.out.setCell (p := ⟨w.heap.size, 0, none⟩) (Nat.le_refl _) (.int .i64 0)).setCell (p := ⟨w.heap.size, 1, none⟩) (Nat.le_refl _) (.slice none 0 0))
    clear h17
    go_enter Tryz.func8, Tryz.ntmps8
    go_wp2
    first | exact ret_readI HRF.out (by rfl) (by rfl) (by rfl) (rb_zero HBF.out HZ.out) | exact ret_readI HR0.out (by rfl) (by rfl) (by rfl) (rb_zero HB0.out HZ.out)
  have HPF : Hid (parseF t = match rdInos t (rdM t).1.toNat with
    | none => none
    | some l => if (rdM t).2 = none then none else some ((rdX t).1, l)) := Lib.hid (by unfold parseF; rw [if_pos h17]; rfl)
  have hne : ((t.length : Int) != 17) = false := by simp; omega
  have h17i : (t.length : Int) = 17 := by omega
  have hnr := manyO_in 16 (by omega) (rdX t).2
  rw [show manyO 16 (rdX t).2 = rdM t from rfl] at hnr
  have HEQ := Lib.hid (And.intro (show numO (cutO 1 (some (t.getD 0 ByteArray.empty).data.toList)).2 = rdX t from rfl) (show manyO 16 (rdX t).2 = rdM t from rfl))
  obtain ⟨b, off, rfl, hbs, hc⟩ := HRT.out.at' (by omega)
  have t0 := hc 0 (by simp; omega)
  rw [strs_get t 0 (by omega), Nat.add_zero] at t0
  have hg0 : t.getD 0 ByteArray.empty = t[0]'(by omega) := by rw [List.getD_eq_getElem?_getD, List.getElem?_eq_getElem (by omega)]; rfl
  have hs0 := HSZ.out (t[0]'(by omega)) (List.getElem_mem _)
  rw [hg0] at HEQ
  generalize t[0]'(by omega) = s0 at *
  clear hc hg0
  have hsc : ScanAt ((w.alloc (.cells #[.int .i64 0, .slice none 0 0] 26)).alloc (.cells #[.string s0, .bool false] 50)) (w.heap.size + 1) (some s0.data.toList) s0.size := by
    have h := cs_new (w.alloc (.cells #[.int .i64 0, .slice none 0 0] 26)) 50 #[.string s0, .bool false]
    have e : (w.alloc (.cells #[.int .i64 0, .slice none 0 0] 26)).heap.size = w.heap.size + 1 := by simp
    rw [e] at h
    obtain ⟨h1, h2⟩ := Cs.two h
    exact ⟨s0, false, h1.1, h1.2, h2, Nat.le_refl _, rfl⟩
  have HS0 := Lib.hid hsc
  have HR1 := Lib.hid (HR0.out.alloc (.cells #[.string s0, .bool false] 50))
  have HB1 := Lib.hid (HB0.out.alloc (by simp) (.cells #[.string s0, .bool false] 50))
  clear hsc HR0 HB0
  have H17 := Lib.hid h17
  clear h17
  have hRSz : w.heap.size + 1 < ((w.alloc (.cells #[.int .i64 0, .slice none 0 0] 26)).alloc (.cells #[.string s0, .bool false] 50)).heap.size := HS0.out.lt
  go_enter Tryz.func8, Tryz.ntmps8
  go_wp2_with fail
  refine (scCut_any _ _ _ _ _ HS0.out (by omega)).mono ?_
  rintro e w1 ⟨rfl, hS, hG⟩
  have HS1 := Lib.hid hS
  have HR2 := Lib.hid (HR1.out.grown hG (fun e => by have := Option.some.inj e; omega))
  have HB2 := Lib.hid (HB1.out.grown hG HB1.out.size (fun q hq => by cases hq; omega))
  clear hS hG HS0 HR1 HB1 hRSz
  generalize (cutO 1 (some s0.data.toList)).1 = junk at *
  generalize (cutO 1 (some s0.data.toList)).2 = o1 at *
  go_wp2_with fail
  refine (scNum_any _ _ _ _ HS1.out (by omega)).mono ?_
  rintro e w2 ⟨rfl, hS, hG⟩
  rw [HEQ.out.1] at hS
  rw [HEQ.out.1]
  have HR3 := Lib.hid (HR2.out.grown hG (fun e => by have := Option.some.inj e; omega))
  have HB3 := Lib.hid (HB2.out.grown hG HB2.out.size (fun q hq => by cases hq; omega))
  have HS3 := Lib.hid hS
  have hz3 : w.heap.size + 1 < w2.heap.size := hS.lt
  replace HEQ := Lib.hid HEQ.out.2
  clear hS hG HS1 HR2 HB2
  generalize (rdX t).1 = nx at *
  generalize (rdX t).2 = ox at *
  have HX3 := Lib.hid (cs_new w2 26 #[.int .i64 nx, .slice none 0 0])
  go_wp2_with fail
  refine (scMany_any _ _ 16 _ _ (sa_alloc HS3.out _) (by omega) (by omega) (by omega)).mono ?_
  rintro e w4 ⟨rfl, hS, hG⟩
  rw [HEQ.out] at hS
  rw [HEQ.out]
  have HR4 := Lib.hid ((HR3.out.alloc (.cells #[.int .i64 nx, .slice none 0 0] 26)).grown hG (fun e => by have := Option.some.inj e; omega))
  have HX4 := Lib.hid (HX3.out.grown hG (fun e => by have := Option.some.inj e; omega))
  have HB4 := Lib.hid ((HB3.out.alloc HB3.out.size (.cells #[.int .i64 nx, .slice none 0 0] 26)).grown hG (by simp; omega) (fun q hq => by cases hq; omega))
  have HS4 := Lib.hid hS
  have hz4 : w2.heap.size < w4.heap.size := HX4.out.lt
  clear hS hG HS3 HR3 HB3 HX3 HEQ
  generalize hV : w2.heap.size = V at *
  clear hV
  obtain ⟨nn, hnn⟩ : ∃ x, (rdM t).1 = x := ⟨_, rfl⟩
  rw [hnn] at hnr HPF ⊢
  clear hnn
  obtain ⟨n, rfl⟩ := Int.eq_ofNat_of_zero_le hnr.1
  have hn16 : n ≤ 16 := by omega
  rw [Int.toNat_natCast] at HPF
  clear hnr
  generalize (rdM t).2 = o3 at *
  have hRV : w.heap.size + 1 < V := by omega
  go_wp2
  go_loopg [27] n (fun gg i wr => ∃ (k : Nat) (g : Option Addr) (c : Nat) (l : List InoL) (m : List InoP), k + gg = n ∧ i = .int .i64 (k : Int) ∧ Hid (rdInos t k = some l ∧ m.map (·.x) = l) ∧ Hid (VolOwn (V + 1) wr g c m wr) ∧ Hid (Cs wr V [.int .i64 nx, .slice g k c]) ∧ Hid (Cs wr w.heap.size [.int .i64 0, .slice none 0 0]) ∧ Hid (ScanAt wr (w.heap.size + 1) o3 s0.size) ∧ Hid (Below w.heap.size w wr))
  case atStart => exact ⟨0, none, 0, [], [], by omega, rfl, Lib.hid ⟨rfl, rfl⟩, Lib.hid (vol_none _ _ _ (Below.refl _ _) (by omega)), HX4, HR4, HS4, HB4⟩
  case round =>
    obtain ⟨k, g, c, l, m, hk, rfl, HL, HV, HX, HR, HS, HB⟩ := hrel
    clear HX4 HR4 HS4 HB4
    have hVl : V < wr.heap.size := HX.out.lt
    by_cases hlt : k < n
    · have hi : (k : Int) < (n : Int) := by omega
      obtain ⟨hL, hM⟩ := HL.out
      have hlk : l.length = k := (rdInos_ok HSZ.out hL).1
      have hmk : m.length = k := by rw [← hlk, ← hM, List.length_map]
      obtain ⟨b', off', e', hbs', hc⟩ := (HRO.out _ HB.out).at' (by have := H17.out; omega)
      cases e'
      have hi2 : (k : Int) + 1 < (t.length : Int) := by have := H17.out; omega
      have hi0 : (0 : Int) ≤ (k : Int) + 1 := by omega
      have t1 := hc (k + 1) (by simp; have := H17.out; omega)
      rw [strs_get t (k + 1) (by have := H17.out; omega)] at t1
      have hg1 : t.getD (k + 1) ByteArray.empty = t[k + 1]'(by have := H17.out; omega) := by rw [List.getD_eq_getElem?_getD, List.getElem?_eq_getElem (by have := H17.out; omega)]; rfl
      have hs1 := HSZ.out (t[k + 1]'(by have := H17.out; omega)) (List.getElem_mem _)
      have HST := Lib.hid (rdInos_step hL)
      rw [hg1] at HST
      generalize t[k + 1]'(by have := H17.out; omega) = s1 at *
      clear hc hg1 hL hlk
      have HTr := Lib.hid (HT.out.below HB.out (Nat.le_refl _))
      have HBL := Lib.hid (fun q hq => HV.out.bl q hq)
      have HM := Lib.hid hM
      clear hM HL
      go_wp2_with fail
      refine (inodeOf_any s1 _ hs1 HTr.out).mono ?_
      rintro e w5 ⟨ad, c5, rfl, hO⟩
      have hb5 := hO.below
      have HV5 := Lib.hid (HV.out.kept hb5)
      have HX5 := Lib.hid (HX.out.below hb5)
      have HR5 := Lib.hid (HR.out.below hb5)
      have HS5 := Lib.hid (HS.out.below hb5)
      have HB5 := Lib.hid (HB.out.trans (hb5.mono HB.out.size))
      have HO5 := Lib.hid hO
      have hz5 : wr.heap.size ≤ w5.heap.size := hb5.size
      clear hO hb5 HV HX HR HS HB HTr
      obtain ⟨pr, hpr⟩ : ∃ x, rdIno s1.data.toList = x := ⟨_, rfl⟩
      rw [hpr] at HST HO5 ⊢
      clear hpr
      obtain ⟨x, ok⟩ := pr
      dsimp only at HST HO5 ⊢
      have HX6 := Lib.hid (HX5.out.alloc (.cells #[.int .i64 x.id, .int .i64 x.kind, .int .i64 x.links, .string x.data, .slice ad x.ents.length c5] 45))
      have HR6 := Lib.hid (HR5.out.alloc (.cells #[.int .i64 x.id, .int .i64 x.kind, .int .i64 x.links, .string x.data, .slice ad x.ents.length c5] 45))
      have HB6 := Lib.hid (HB5.out.alloc HB5.out.size (.cells #[.int .i64 x.id, .int .i64 x.kind, .int .i64 x.links, .string x.data, .slice ad x.ents.length c5] 45))
      have HI6 := Lib.hid (cs_new w5 45 #[.int .i64 x.id, .int .i64 x.kind, .int .i64 x.links, .string x.data, .slice ad x.ents.length c5])
      cases ok with
      | false =>
        have HZ : Hid (readV t = (0, [], false)) := Lib.hid (readV_none (by
          have h := HST.out
          rw [if_neg (by decide)] at h
          rw [HPF.out, rdInos_bad h n (by omega)]))
        clear HST HV5 HS5 HO5 HX5 HR5 HB5 HI6 HX6
        obtain ⟨⟨r0, r1⟩, fr0, fr1⟩ := HR6.out.two
        have HRF := Lib.hid ((HR6.out.set 0 (.int .i64 0)).set 1 (.slice none 0 0))
        have HBF := Lib.hid ((HB6.out.setCell (p := ⟨w.heap.size, 0, none⟩) (Nat.le_refl _) (.int .i64 0)).setCell (p := ⟨w.heap.size, 1, none⟩) (Nat.le_refl _) (.slice none 0 0))
        go_wp2
        exact ret_readI HRF.out (by rfl) (by rfl) (by rfl) (rb_zero HBF.out HZ.out)
      | true =>
        have HL1 : Hid (rdInos t (k + 1) = some (l ++ [x])) := Lib.hid (by
          have h := HST.out
          rw [if_pos rfl] at h
          exact h)
        clear HST
        have HV6 := Lib.hid (HV5.out.alloc (.cells #[.int .i64 x.id, .int .i64 x.kind, .int .i64 x.links, .string x.data, .slice ad x.ents.length c5] 45))
        have HO6 := Lib.hid (HO5.out.alloc (.cells #[.int .i64 x.id, .int .i64 x.kind, .int .i64 x.links, .string x.data, .slice ad x.ents.length c5] 45))
        have HS6 := Lib.hid (sa_alloc HS5.out (.cells #[.int .i64 x.id, .int .i64 x.kind, .int .i64 x.links, .string x.data, .slice ad x.ents.length c5] 45))
        clear HV5 HO5 HS5 HX5 HR5 HB5
        obtain ⟨⟨x0, x1⟩, fx0, fx1⟩ := HX6.out.two
        obtain ⟨⟨i0, i1, i2, i3, i4⟩, fi0, fi1, fi2, fi3, fi4⟩ := HI6.out.five
        have hVl5 : V < w5.heap.size := by omega
        have HT6 : Hid (Own 45 5 (V + 1) wr (.slice g k c) k (ins m) (w5.alloc (.cells #[.int .i64 x.id, .int .i64 x.kind, .int .i64 x.links, .string x.data, .slice ad x.ents.length c5] 45))) := Lib.hid (by have h := HV6.out.top; rw [hmk] at h; exact h)
        have HOB : Hid (∀ q, (Value.slice g k c).ownBlock = some q → V + 1 ≤ q ∧ q < wr.heap.size) := Lib.hid (fun q hq => HBL.out q (.inl (by rw [hmk]; exact hq)))
        have HNX : Hid (∀ W a9 c9, Own 45 5 (V + 1) wr (.slice a9 (k + 1) c9) (k + 1) (ins m ++ #[.int .i64 x.id, .int .i64 x.kind, .int .i64 x.links, .string x.data, .slice ad x.ents.length c5].toList) W → (w5.alloc (.cells #[.int .i64 x.id, .int .i64 x.kind, .int .i64 x.links, .string x.data, .slice ad x.ents.length c5] 45)).grownBy W (Value.slice g k c).ownBlock →
            Cs W V [.int .i64 nx, .slice g k c] ∧ Cs W w.heap.size [.int .i64 0, .slice none 0 0] ∧ ScanAt W (w.heap.size + 1) o3 s0.size ∧ Below w.heap.size w W ∧ VolOwn (V + 1) wr a9 c9 (m ++ [⟨x, ad, c5⟩]) W) := Lib.hid (fun W a9 c9 ho hg => ⟨HX6.out.grown hg (fun e => by have := (HOB.out _ e).1; omega), HR6.out.grown hg (fun e => by have := (HOB.out _ e).1; omega), sa_grown HS6.out hg (fun e => by have := (HOB.out _ e).1; omega), HB6.out.grown hg HB6.out.size (fun q hq => by have := (HOB.out q hq).1; omega), by
              refine VolOwn.app HV6.out ⟨x, ad, c5⟩ ?_ ?_ ?_ ?_
              · exact (own_down HO6.out (show V + 1 ≤ wr.heap.size by omega) (Below.refl _ _) (by omega)).other hg (fun q hq => (HOB.out q hq).1) (fun q hq e => by have h1 := (HOB.out q e).2; have h2 := (HO6.out.blk q hq).1; omega)
              · rw [hmk]; exact ho
              · rw [hmk]; exact hg
              · intro z hz q hq e
                have h1 := (HBL.out q (.inr ⟨z, hz, hq⟩)).2
                have h2 := (HO6.out.blk q e).1
                omega⟩)
        clear HV6 HO6 HS6 HX6 HR6 HB6 HI6
        go_wp2_with (at_builtin; go_loud (refine wp_app1d rfl _ _ 24 rfl 45 (.agg #[.int .i64 0, .int .i64 0, .int .i64 0, .string ByteArray.empty, .slice none 0 0]) 5 64 Tryz.underlying24 info_ino rfl (by decide) _ _ _ _ _ (by rfl) (by exact HT6.out) _ _ _ (by rfl) (by first | rfl | simp) (by rfl) (by intro u hu; simp at hu; rcases hu with rfl | rfl | rfl | rfl | rfl <;> rfl) (by omega) (by unfold maxLen; omega) ?_); intro a9 c9 w9 hO9 hG9 hN9; have HQ := Lib.hid (HNX.out _ _ _ hO9 hG9); obtain ⟨⟨y0, y1⟩, g0, g1⟩ := HQ.out.1.two; have hzT := HQ.out.1.lt; clear hG9 hN9 hO9)
        go_roundg (gk - 1)
        case measure => omega
        case rel =>
          refine ⟨k + 1, _, _, _, m ++ [⟨x, ad, c5⟩], by omega, by go_num, Lib.hid ⟨HL1.out, by rw [List.map_append, HM.out]; rfl⟩, Lib.hid (HQ.out.2.2.2.2.low (setCell_grown2 _ V 1 _) (fun q hq e => by have := (HQ.out.2.2.2.2.bl q hq).1; have := Option.some.inj e; omega)), Lib.hid (HQ.out.1.set 1 _), Lib.hid (HQ.out.2.1.far (by omega)), Lib.hid (sa_far HQ.out.2.2.1 (by omega)), Lib.hid (HQ.out.2.2.2.1.setCell (by dsimp only; omega) _)⟩
    · have e : k = n := by omega
      have hi : ¬ (k : Int) < (n : Int) := by omega
      rw [e] at HL HX
      have hlL := (rdInos_ok HSZ.out HL.out.1).1
      have hll := links_small (l := l) (by omega) (rdInos_ok HSZ.out HL.out.1).2.1
      have HPF2 : Hid (parseF t = if o3 = none then none else some (nx, l)) := Lib.hid (by rw [HPF.out, HL.out.1])
      have hmL : m.length = n := by rw [← hlL, ← HL.out.2, List.length_map]
      have HVR : Hid (VolRd wr g n c l) := Lib.hid (by have h := HV.out.rd; rw [HL.out.2, hmL] at h; exact h)
      have HLS := Lib.hid (And.intro (rdInos_ok HSZ.out HL.out.1).2.1 (rdInos_ok HSZ.out HL.out.1).2.2)
      have HTr := Lib.hid (HT.out.below HB.out (Nat.le_refl _))
      have HML := Lib.hid (And.intro HL.out.2 hmL)
      clear e hlt hk HPF HL hmL
      obtain ⟨⟨x0, x1⟩, fx0, fx1⟩ := HX.out.two
      obtain ⟨⟨r0, r1⟩, fr0, fr1⟩ := HR.out.two
      have s1 := sa_none HS.out
      have hzS : w.heap.size + 1 < wr.heap.size := HS.out.lt
      cases o3 with
      | none =>
        have HZ := Lib.hid (readV_none (t := t) (by rw [HPF2.out, if_pos rfl]))
        have HRF := Lib.hid ((HR.out.set 0 (.int .i64 0)).set 1 (.slice none 0 0))
        have HBF := Lib.hid ((HB.out.setCell (p := ⟨w.heap.size, 0, none⟩) (Nat.le_refl _) (.int .i64 0)).setCell (p := ⟨w.heap.size, 1, none⟩) (Nat.le_refl _) (.slice none 0 0))
        go_wp2
        exact ret_readI HRF.out (by rfl) (by rfl) (by rfl) (rb_zero HBF.out HZ.out)
      | some rest =>
        have HPF3 : Hid (parseF t = some (nx, l)) := Lib.hid (by rw [HPF2.out, if_neg (by simp)])
        clear HPF2
        go_wp2_with fail
        refine (implVolOk_any nx g n c l _ HVR.out (fun x hx s hs => by have := HLS.out.2 x hx s hs; omega) (by omega) HTr.out).mono ?_
        rintro e w2 ⟨rfl, hb2⟩
        have HX2 := Lib.hid (HX.out.below hb2)
        have HR2 := Lib.hid (HR.out.below hb2)
        have HB2 := Lib.hid (HB.out.trans (hb2.mono HB.out.size))
        have HVR2 := Lib.hid (HVR.out.step hb2)
        have HV2 := Lib.hid (HV.out.kept hb2)
        have hz2 : w.heap.size < w2.heap.size := HR2.out.lt
        clear hb2 HX HR HB HVR HV HS s1 x0 x1 fx0 fx1 r0 r1 fr0 fr1 HTr
        obtain ⟨⟨x0, x1⟩, fx0, fx1⟩ := HX2.out.two
        obtain ⟨⟨r0, r1⟩, fr0, fr1⟩ := HR2.out.two
        cases hvb : volB nx l with
        | false =>
          have HZ := Lib.hid (readV_miss HPF3.out (fun h => by rw [hvb] at h; exact absurd h.1 (by decide)))
          have HRF := Lib.hid ((HR2.out.set 0 (.int .i64 0)).set 1 (.slice none 0 0))
          have HBF := Lib.hid ((HB2.out.setCell (p := ⟨w.heap.size, 0, none⟩) (Nat.le_refl _) (.int .i64 0)).setCell (p := ⟨w.heap.size, 1, none⟩) (Nat.le_refl _) (.slice none 0 0))
          go_wp2
          exact ret_readI HRF.out (by rfl) (by rfl) (by rfl) (rb_zero HBF.out HZ.out)
        | true =>
          have HVB := Lib.hid hvb
          clear hvb
          go_wp2_with fail
          refine (implBlocks_any nx g n c l _ HVR2.out (fun x hx => ?_) (fun x hx s hs => by have := HLS.out.2 x hx s hs; omega) (fun x hx => by have := HLS.out.1 x hx; omega)).mono ?_
          · obtain ⟨j, hj, rfl⟩ := List.mem_iff_getElem.1 hx
            have := (inoB_ents ((volB_parts HVB.out).2.2 j hj).2).2.2.1
            omega
          rintro e w3 ⟨a3, c3, rfl, hO3⟩
          have hb3 := hO3.below
          have HB3 := Lib.hid (HB2.out.trans (hb3.mono HB2.out.size))
          have HX3 := Lib.hid (HX2.out.below hb3)
          have HR3 := Lib.hid (HR2.out.below hb3)
          have HV3 := Lib.hid (HV2.out.kept hb3)
          have HT3 := Lib.hid hO3.rd
          clear hb3 hO3 HX2 HR2 HB2 HVR2 HV2 x0 x1 fx0 fx1 r0 r1 fr0 fr1
          obtain ⟨⟨x0, x1⟩, fx0, fx1⟩ := HX3.out.two
          obtain ⟨⟨r0, r1⟩, fr0, fr1⟩ := HR3.out.two
          go_wp2_with fail
          refine (implSame_any _ _ _ _ _ _ _ _ _ HT3.out (HRO.out _ HB3.out)).mono ?_
          rintro e w4 ⟨rfl, rfl⟩
          by_cases hbt : blkF nx l = t
          · have HD : Hid (decide (blkF nx l = t) = true) := Lib.hid (decide_eq_true hbt)
            have HOK := Lib.hid (readV_hit HVB.out hbt)
            clear hbt
            rw [HD.out]
            have HRF := Lib.hid ((HR3.out.set 0 (.int .i64 nx)).set 1 (.slice g n c))
            have HPO : Hid (RbPost t w (.returned (.tuple #[.agg #[.int .i64 nx, .slice g n c], .bool true])) ((w3.setCell ⟨w.heap.size, 0, none⟩ (.int .i64 nx)).setCell ⟨w.heap.size, 1, none⟩ (.slice g n c))) := Lib.hid (by
              unfold RbPost
              rw [HOK.out]
              refine ⟨g, c, m, by rw [HML.out.2], HML.out.1, ?_⟩
              refine volOwn_row ((HV3.out.low (setCell_grown2 _ w.heap.size 0 _) (fun q hq e => by have := (HV3.out.bl q hq).1; have := Option.some.inj e; omega)).low (setCell_grown2 _ w.heap.size 1 _) (fun q hq e => by have := (HV3.out.bl q hq).1; have := Option.some.inj e; omega)) (by omega) ((HB3.out.setCell (p := ⟨w.heap.size, 0, none⟩) (Nat.le_refl _) (.int .i64 nx)).setCell (p := ⟨w.heap.size, 1, none⟩) (Nat.le_refl _) (.slice g n c)) ?_
              have := HB3.out.size
              simpa [World.setCell] using this)
            go_wp2
            exact ret_readI HRF.out (by rfl) (by rfl) (by rfl) HPO.out
          · have HD : Hid (decide (blkF nx l = t) = false) := Lib.hid (decide_eq_false hbt)
            have HZ := Lib.hid (readV_miss HPF3.out (fun h => hbt h.2))
            clear hbt
            rw [HD.out]
            have HRF := Lib.hid ((HR3.out.set 0 (.int .i64 0)).set 1 (.slice none 0 0))
            have HBF := Lib.hid ((HB3.out.setCell (p := ⟨w.heap.size, 0, none⟩) (Nat.le_refl _) (.int .i64 0)).setCell (p := ⟨w.heap.size, 1, none⟩) (Nat.le_refl _) (.slice none 0 0))
            go_wp2
            exact ret_readI HRF.out (by rfl) (by rfl) (by rfl) (rb_zero HBF.out HZ.out)
set_option maxRecDepth 1000000 in
set_option maxHeartbeats 6000000 in
theorem specSame_any (a b : Option Addr) (n m c d : Nat) (l t : List ByteArray) (w : World) (ha : Rd w a n c 1 (strs l)) (hb : Rd w b m d 1 (strs t)) :
    Calls Tryz.prog 23 #[.slice a n c, .slice b m d] w fun e w' => e = .returned (.bool (decide (l = t))) ∧ Below w.heap.size w w' := by
  have hl : l.length = n := by have := ha.len; simpa using this
  have ht : t.length = m := by have := hb.len; simpa using this
  subst hl
  subst ht
  have hm := Nat.le_trans ha.le ha.max
  have hm2 := Nat.le_trans hb.le hb.max
  unfold maxLen at hm hm2
  have HA := Lib.hid ha
  have HC := Lib.hid hb
  clear ha hb
  by_cases hlt : l.length = t.length
  rotate_left
  · have HE : Hid (decide (l = t) = false) := Lib.hid (decide_eq_false (fun e => hlt (by rw [e])))
    have hne : ((l.length : Int) != (t.length : Int)) = true := by simp; omega
    clear hlt
    go_enter Tryz.func23, Tryz.ntmps23
    go_wp2
    go_ret
    exact ⟨ret_bool HE.out.symm, Below.refl _ _⟩
  have HLT := Lib.hid hlt
  have hne : ((l.length : Int) != (t.length : Int)) = false := by simp; omega
  clear hlt
  go_enter Tryz.func23, Tryz.ntmps23
  go_wp2
  go_loopg [5] l.length (fun gg i wr => ∃ k : Nat, k + gg = l.length ∧ i = .int .i64 (k : Int) ∧ Hid (∀ j (h1 : j < l.length) (h2 : j < t.length), j < k → l[j] = t[j]) ∧ Hid (Below w.heap.size w wr))
  case atStart => exact ⟨0, by omega, rfl, Lib.hid (fun j _ _ h => by omega), Lib.hid (Below.refl _ _)⟩
  case round =>
    obtain ⟨k, hk, rfl, HQ, HB⟩ := hrel
    by_cases hkl : k < l.length
    · have hkt : k < t.length := by have := HLT.out; omega
      obtain ⟨ba, oa, rfl, hba, hca⟩ := (HA.out.below HB.out (Nat.le_refl _)).at' (by omega)
      obtain ⟨bb, ob, rfl, hbb, hcb⟩ := (HC.out.below HB.out (Nat.le_refl _)).at' (by omega)
      have a0 := hca k (by simpa using hkl)
      have b0 := hcb k (by simpa using hkt)
      rw [strs_get l k hkl] at a0
      rw [strs_get t k hkt] at b0
      have hi : (k : Int) < (l.length : Int) := by omega
      have hi2 : (k : Int) < (t.length : Int) := by omega
      have hi0 : (0 : Int) ≤ (k : Int) := by omega
      have HY : Hid (l[k].toList = t[k].toList → ∀ j (h1 : j < l.length) (h2 : j < t.length), j < k + 1 → l[j] = t[j]) := Lib.hid (fun h j h1 h2 h3 => by
        by_cases e : j = k
        · subst e
          rw [ByteArray.toList_eq, ByteArray.toList_eq] at h
          have := congrArg (fun z => (⟨List.toArray z⟩ : ByteArray)) h
          simp only [ba_self] at this
          exact this
        · exact HQ.out j h1 h2 (by omega))
      have HNO : Hid (¬ l[k].toList = t[k].toList → decide (l = t) = false) := Lib.hid (fun h => decide_eq_false (fun e => h (by subst e; rfl)))
      clear hca hcb
      generalize l[k] = x at *
      generalize t[k] = y at *
      cases hq : (x.toList == y.toList) with
      | true =>
        have HY2 := Lib.hid (HY.out (by simpa using hq))
        clear HY HNO
        go_wp2
        go_region
        go_wp2
        go_roundg (gk - 1)
        case measure => omega
        case rel => exact ⟨k + 1, by omega, by go_num, HY2, Lib.hid HB.out.drew⟩
      | false =>
        have HE := Lib.hid (HNO.out (by simpa using hq))
        clear HY HNO
        go_wp2
        go_region
        go_wp2
        go_ret
        exact ⟨ret_bool HE.out.symm, HB.out.drew⟩
    · obtain rfl : k = l.length := by omega
      have HE : Hid (decide (l = t) = true) := Lib.hid (decide_eq_true (List.ext_getElem HLT.out (fun j h1 h2 => HQ.out j h1 h2 h1)))
      go_wp2
      go_ret
      exact ⟨ret_bool HE.out.symm, HB.out⟩
end Go.Proofs.YtlkfabkkjfmnmaaGreatDoor
