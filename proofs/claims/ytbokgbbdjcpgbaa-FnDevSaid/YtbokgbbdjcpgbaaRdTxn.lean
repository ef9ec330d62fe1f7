/- A record of the journal is read: the program's way. -/
import Derived.Test.YtbokgbbdjcpgbaaScan
import Derived.Test.YtbokgbbdjcpgbaaTxnL
import Derived.Test.YtbokgbbdjcpgbaaTxnP
namespace Go.Proofs.Ytbokgbbdjcpgbaa
open Go.RowKit

def readX (s : List UInt8) : Int × OutL × Bool := match readT s with
  | none => (0, [], false)
  | some x => (x.1, x.2, true)
def ReadPost (s : ByteArray) (w : World) (e : Ending) (w' : World) : Prop := ∃ v, e = .returned (.tuple #[v, .bool (readX s.data.toList).2.2]) ∧ TxnOwn w.heap.size w' v (readX s.data.toList).1 (readX s.data.toList).2.1 ∧ Below w.heap.size w w'
theorem readX_no {s : List UInt8} (h : readT s = none) : readX s = (0, [], false) := by unfold readX; rw [h]
set_option maxRecDepth 1000000 in
set_option maxHeartbeats 6000000 in
theorem readX_yes {s : List UInt8} {x : Int × OutL} (h : readT s = some x) : readX s = (x.1, x.2, true) := by unfold readX; rw [h]
/-- The two cells of a struct, and that they may be written. -/
def Two (w : World) (b : Nat) (u v : Value) : Prop := (w.cell? ⟨b, 0, none⟩ = some u ∧ w.cell? ⟨b, 1, none⟩ = some v) ∧ (w.frozen? ⟨b, 0, none⟩ = false ∧ w.frozen? ⟨b, 1, none⟩ = false)
theorem Two.kept {w w' : World} {b : Nat} {u v : Value} (h : Two w b u v) (hb : w'.heap[b]? = w.heap[b]?) : Two w' b u v :=
  ⟨⟨cell_block h.1.1 hb, cell_block h.1.2 hb⟩, ⟨(World.frozen?_of_block (a := ⟨b, 0, none⟩) hb).trans h.2.1, (World.frozen?_of_block (a := ⟨b, 1, none⟩) hb).trans h.2.2⟩⟩
theorem Two.lt {w : World} {b : Nat} {u v : Value} (h : Two w b u v) : b < w.heap.size := World.block_lt_of_cell? w _ h.1.1
theorem Two.grown {w w' : World} {b : Nat} {r : Option Nat} {u v : Value} (h : Two w b u v) (hg : w.grownBy w' r) (hne : r ≠ some b) : Two w' b u v := h.kept (hg.block b h.lt (fun e => hne e.symm))
theorem Two.alloc {w : World} {b : Nat} {u v : Value} (h : Two w b u v) (o : Obj) : Two (w.alloc o) b u v := h.kept ((box_alloc w o).block b h.lt)
theorem two_new (w : World) (e : TypeId) (u v : Value) : Two (w.alloc (.cells #[u, v] e)) w.heap.size u v := ⟨⟨box0 w e u v, box1 w e u v⟩, ⟨by go_simp, by go_simp⟩⟩
theorem Two.set1 {w : World} {b : Nat} {u v : Value} (h : Two w b u v) (x : Value) : Two (w.setCell ⟨b, 1, none⟩ x) b u x := by
  have hl := h.lt
  obtain ⟨⟨h0, h1⟩, f0, f1⟩ := h
  exact ⟨⟨by go_simp, by go_simp⟩, ⟨set_frozen _ _ _ _ _ f0 hl, set_frozen _ _ _ _ _ f1 hl⟩⟩
theorem Two.far {w : World} {b g j : Nat} {u v x : Value} (h : Two w b u v) (hne : b ≠ g) : Two (w.setCell ⟨g, j, none⟩ x) b u v :=
  h.grown (scan_set w g j x) (fun e => hne (Option.some.inj e).symm)
theorem ScanAt.grown {w w' : World} {b m : Nat} {o : Option (List UInt8)} {r : Option Nat} (h : ScanAt w b o m) (hg : w.grownBy w' r) (hne : r ≠ some b) : ScanAt w' b o m := h.kept (hg.block b h.lt (fun e => hne e.symm))
theorem ScanAt.alloc {w : World} {b m : Nat} {o : Option (List UInt8)} (h : ScanAt w b o m) (x : Obj) : ScanAt (w.alloc x) b o m := h.below (box_alloc w x)

section
variable {P : Program}
theorem wp_app1b {w0 : World} {ops : Array Oper} {rest : List Oper} {o : Oper} {a : Act} {Q : Exit → Act → World → Prop} (hgd : o.guard = none) (s x : Operand) (t : TypeId)
    (ho : o.op = .call { callee := .builtin .append, args := #[s, x], argTypes := #[t, t] })
    (e : TypeId) (z : Value) (size bytes : Nat) (ht : P.underlying t = some (.slice e)) (hi : (P.info? e).map (fun i => (i.zero, i.size, i.bytes)) = some (some z, size, bytes)) (hzs : z.cells.size = size) (hsz : 0 < size)
    (B : Nat) (W0 : World) (v : Value) (n : Nat) (xs : List Value) (hs : a.eval s = v) (hown : Own e size B W0 v n xs w0)
    (m : Nat) (news : Array Value) (b : Nat) (hx : a.eval x = .slice (some ⟨b, 0, none⟩) m m) (hb : b = w0.heap.size) (hl : news.size = m * size) (h1 : ∀ u ∈ news.toList, u.oneCell' = true)
    (hlim : (n + m) * bytes ≤ 140737488355328) (hmax : n + m ≤ maxLen)
    (h : ∀ a' cap' w', Own e size B W0 (.slice a' (n + m) cap') (n + m) (xs ++ news.toList) w' → w0.grownBy w' v.ownBlock → ((Value.slice a' (n + m) cap').ownBlock = v.ownBlock ∨ ∃ k, (Value.slice a' (n + m) cap').ownBlock = some k ∧ w0.heap.size ≤ k) →
      wpList P ops Q rest (a.put o.dst (.slice a' (n + m) cap')) w') : wpList P ops Q (o :: rest) a (w0.alloc (.cells news e)) := by
  subst hb
  exact wp_app1g hgd s x t ho e z size bytes ht hi hzs hsz B W0 v n xs hs hown m news hx hl h1 hlim hmax h
end
theorem numO_pos (o : Option (List UInt8)) : 0 ≤ (numO o).1 := by
  unfold numO
  cases o with
  | none => simp
  | some r => simp only; split <;> simp
theorem manyO_range (o : Option (List UInt8)) : 0 ≤ (manyO 17 o).1 ∧ (manyO 17 o).1 ≤ 17 := by
  have := numO_pos o
  unfold manyO
  split
  · simp
  · omega
theorem txn_zero (B : Nat) (w : World) (h : B ≤ w.heap.size) : TxnOwn B w (.agg #[.int .i64 0, .slice none 0 0]) 0 [] := ⟨none, 0, rfl, ⟨World.ownsRow_nil _ _ _ _, Below.refl _ _, h⟩⟩
theorem showB_eq (seq : Int) (l : OutL) (s : ByteArray) (h : (showB seq l).toList = s.toList) : showL seq l = s.data.toList := by
  rw [ByteArray.toList_eq, ByteArray.toList_eq] at h
  exact h
set_option maxRecDepth 1000000 in
set_option maxHeartbeats 6000000 in
theorem implReadTxn_any (s : ByteArray) (w : World) (hs : s.size ≤ 1048576) : Calls Try.prog 58 #[.string s] w (ReadPost s w) := by
  have HR0 := Lib.hid ((two_new w 72 (.int .i64 0) (.slice none 0 0)).alloc (.cells #[.string s, .bool false] 115))
  have hsc : ScanAt ((w.alloc (.cells #[.int .i64 0, .slice none 0 0] 72)).alloc (.cells #[.string s, .bool false] 115)) (w.heap.size + 1) (some s.data.toList) s.size := by
    have h := two_new (w.alloc (.cells #[.int .i64 0, .slice none 0 0] 72)) 115 (.string s) (.bool false)
    have e : (w.alloc (.cells #[.int .i64 0, .slice none 0 0] 72)).heap.size = w.heap.size + 1 := by simp
    rw [e] at h
    exact ⟨s, false, h.1.1, h.1.2, h.2, Nat.le_refl _, rfl⟩
  have HS0 := Lib.hid hsc
  have HB0 := Lib.hid ((box_alloc w (.cells #[.int .i64 0, .slice none 0 0] 72)).alloc (by simp) (.cells #[.string s, .bool false] 115))
  have HBAD := Lib.hid (readT_bad s.data.toList)
  have HNE := Lib.hid (readT_ne s.data.toList)
  have HHIT := Lib.hid (fun (a : Int) (l : OutL) => readT_hit s.data.toList (a, l))
  have HRO : Hid (readO s.data.toList = ((numO (cutO 5 (some s.data.toList)).2).1, (stO (manyO 17 (numO (cutO 5 (some s.data.toList)).2).2).2 (manyO 17 (numO (cutO 5 (some s.data.toList)).2).2).1.toNat).1, (stO (manyO 17 (numO (cutO 5 (some s.data.toList)).2).2).2 (manyO 17 (numO (cutO 5 (some s.data.toList)).2).2).1.toNat).2)) := Lib.hid rfl
  clear hsc
  go_enter Try.func58, Try.ntmps58
  go_wp2_with fail
  refine (scCut_any _ _ _ _ _ HS0.out (by omega)).mono ?_
  rintro e w1 ⟨rfl, hS, hG⟩
  have HS1 := Lib.hid hS
  have HR1 := Lib.hid (HR0.out.grown hG (fun e => by have := Option.some.inj e; omega))
  have HB1 := Lib.hid (HB0.out.grown hG HB0.out.size (fun q hq => by cases hq; omega))
  clear hS hG HS0 HR0 HB0
  generalize (cutO 5 (some s.data.toList)).1 = junk at *
  generalize (cutO 5 (some s.data.toList)).2 = o1 at *
  go_wp2_with fail
  refine (scNum_any _ _ _ _ HS1.out (by omega)).mono ?_
  rintro e w2 ⟨rfl, hS, hG⟩
  have HR2 := Lib.hid (HR1.out.grown hG (fun e => by have := Option.some.inj e; omega))
  have HB2 := Lib.hid (HB1.out.grown hG HB1.out.size (fun q hq => by cases hq; omega))
  have HS2 := Lib.hid hS
  have hz2 : w.heap.size + 1 < w2.heap.size := hS.lt
  clear hS hG HS1 HR1 HB1
  generalize (numO o1).1 = seq at *
  generalize (numO o1).2 = o2 at *
  go_wp2_with fail
  have HT2 := Lib.hid (two_new w2 72 (.int .i64 seq) (.slice none 0 0))
  refine (scMany_any _ _ 17 _ _ (HS2.out.alloc _) (by omega) (by omega) (by omega)).mono ?_
  rintro e w3 ⟨rfl, hS, hG⟩
  have HR3 := Lib.hid ((HR2.out.alloc (.cells #[.int .i64 seq, .slice none 0 0] 72)).grown hG (fun e => by have := Option.some.inj e; omega))
  have HT3 := Lib.hid (HT2.out.grown hG (fun e => by have := Option.some.inj e; omega))
  have HB3 := Lib.hid ((HB2.out.alloc HB2.out.size (.cells #[.int .i64 seq, .slice none 0 0] 72)).grown hG (by simp; omega) (fun q hq => by cases hq; omega))
  have HS3 := Lib.hid hS
  have hz3 : w2.heap.size < w3.heap.size := HT3.out.lt
  have hmr : 0 ≤ (manyO 17 o2).1 ∧ (manyO 17 o2).1 ≤ 17 := manyO_range o2
  clear hS hG HS2 HR2 HB2 HT2
  generalize hT : w2.heap.size = T at *
  clear hT
  generalize (manyO 17 o2).2 = o3 at *
  obtain ⟨nn, hnn⟩ : ∃ x, (manyO 17 o2).1 = x := ⟨_, rfl⟩
  rw [hnn] at hmr HRO ⊢
  clear hnn
  obtain ⟨n, rfl⟩ := Int.eq_ofNat_of_zero_le hmr.1
  have hn17 : n ≤ 17 := by omega
  rw [Int.toNat_natCast] at HRO
  clear hmr
  go_wp2
  go_loopg [7, 19] n (fun gg x7 i wr => ∃ (k : Nat) (g : Option Addr) (c : Nat), k + gg = n ∧ i = .int .i64 (k : Int) ∧ Hid (ScanAt wr (w.heap.size + 1) (stO o3 k).2 s.size) ∧ Hid (Two wr T (.int .i64 seq) (.slice g k c)) ∧ Hid (Own 53 2 (T + 1) wr (.slice g k c) k (wrs (stO o3 k).1) wr) ∧ Hid (Two wr w.heap.size (.int .i64 0) (.slice none 0 0)) ∧ Hid (Below w.heap.size w wr))
  case atStart => exact ⟨0, none, 0, by omega, rfl, HS3, HT3, Lib.hid ⟨World.ownsRow_nil _ _ _ _, Below.refl _ _, by omega⟩, HR3, HB3⟩
  case round =>
    obtain ⟨k, g, c, hk, rfl, HS, HT, HO, HR, HB⟩ := hrel
    have hTl : T < wr.heap.size := HT.out.lt
    by_cases hlt : k < n
    · have hi : (k : Int) < (n : Int) := by omega
      go_wp2_with fail
      refine (scNum_any _ _ _ _ HS.out (by omega)).mono ?_
      rintro e w4 ⟨rfl, hS, hG⟩
      have HST : Hid (stO o3 (k + 1) = ((stO o3 k).1 ++ [((numO (stO o3 k).2).1, ⟨(pieceO (numO (stO o3 k).2).2).1.toArray⟩)], (pieceO (numO (stO o3 k).2).2).2)) := Lib.hid rfl
      have HS4 := Lib.hid hS
      have HT4 := Lib.hid (HT.out.grown hG (fun e => by have := Option.some.inj e; omega))
      have HR4 := Lib.hid (HR.out.grown hG (fun e => by have := Option.some.inj e; omega))
      have HO4 := Lib.hid (HO.out.otherLow hG (fun q hq e => by have := (HO.out.blk q hq).1; have := Option.some.inj e; omega))
      have HB4 := Lib.hid (HB.out.grown hG HB.out.size (fun q hq => by cases hq; omega))
      have hTl4 : T < w4.heap.size := HT4.out.lt
      clear hS hG HS HT HO HR HB
      generalize (stO o3 k).1 = L at *
      generalize (stO o3 k).2 = ok at *
      generalize (numO ok).1 = x at *
      generalize (numO ok).2 = op at *
      go_wp2_with fail
      have HX4 := Lib.hid (two_new w4 53 (.int .i64 x) (.string ByteArray.empty))
      refine (scPiece_any _ _ _ _ (HS4.out.alloc _) (by omega)).mono ?_
      rintro e w5 ⟨rfl, hS, hG⟩
      have HS5 := Lib.hid hS
      have HT5 := Lib.hid ((HT4.out.alloc (.cells #[.int .i64 x, .string ByteArray.empty] 53)).grown hG (fun e => by have := Option.some.inj e; omega))
      have HR5 := Lib.hid ((HR4.out.alloc (.cells #[.int .i64 x, .string ByteArray.empty] 53)).grown hG (fun e => by have := Option.some.inj e; omega))
      have HX5 := Lib.hid (HX4.out.grown hG (fun e => by have := Option.some.inj e; omega))
      have HO5 := Lib.hid (((HO4.out.alloc (.cells #[.int .i64 x, .string ByteArray.empty] 53)).self).otherLow hG (fun q hq e => by have := (HO4.out.blk q hq).1; have := Option.some.inj e; omega))
      have HB5 := Lib.hid ((HB4.out.alloc HB4.out.size (.cells #[.int .i64 x, .string ByteArray.empty] 53)).grown hG (by simp; omega) (fun q hq => by cases hq; omega))
      have hz5 : w4.heap.size < w5.heap.size := HX5.out.lt
      have hOb : ∀ q, (Value.slice g k c).ownBlock = some q → T + 1 ≤ q ∧ q < w4.heap.size := HO4.out.blk
      have HOB := Lib.hid hOb
      clear hS hG HS4 HT4 HR4 HO4 HB4 HX4 hOb
      generalize (⟨(pieceO op).1.toArray⟩ : ByteArray) = tx at *
      generalize (pieceO op).2 = oq at *
      obtain ⟨⟨b0, b1⟩, fb0, fb1⟩ := HX5.out
      have HO6 := Lib.hid (HO5.out.setFar w4.heap.size 1 (.string tx) (fun q hq => by have := (HOB.out q hq).2; omega))
      have HT6 := Lib.hid (HT5.out.far (g := w4.heap.size) (j := 1) (x := .string tx) (by omega))
      have HR6 := Lib.hid (HR5.out.far (g := w4.heap.size) (j := 1) (x := .string tx) (by omega))
      have HS6 := Lib.hid (HS5.out.grown (scan_set w5 w4.heap.size 1 (.string tx)) (fun e => by have := Option.some.inj e; omega))
      have HX6 := Lib.hid (HX5.out.set1 (.string tx))
      have HB6 := Lib.hid (HB5.out.setCell (p := ⟨w4.heap.size, 1, none⟩) (by dsimp only; omega) (.string tx))
      have t1 := HT6.out.1.2
      have x0 := HX6.out.1.1
      have x1 := HX6.out.1.2
      have HNX : Hid (∀ W, (w5.setCell ⟨w4.heap.size, 1, none⟩ (.string tx)).grownBy W (Value.slice g k c).ownBlock → Two W T (.int .i64 seq) (.slice g k c) ∧ Two W w.heap.size (.int .i64 0) (.slice none 0 0) ∧ ScanAt W (w.heap.size + 1) oq s.size ∧ Below w.heap.size w W) := Lib.hid (fun W hg => ⟨HT6.out.grown hg (fun e => by have := (HOB.out _ e).1; omega), HR6.out.grown hg (fun e => by have := (HOB.out _ e).1; omega), HS6.out.grown hg (fun e => by have := (HOB.out _ e).1; omega), HB6.out.grown hg HB6.out.size (fun q hq => by have := (HOB.out q hq).1; omega)⟩)
      have hk1 : k + 1 ≤ 17 := by omega
      clear HT5 HR5 HS5 HX5 HO5 HB5 HT6 HR6 HS6 HX6 HB6
      go_wp2_with (at_builtin; go_loud (refine wp_app1b rfl _ _ 30 rfl 53 (.agg #[.int .i64 0, .string ByteArray.empty]) 2 24 Try.underlying30 info_wr rfl (by decide) _ _ _ _ _ (by rfl) (by exact HO6.out) _ _ _ (by rfl) (by simp) (by rfl) (by intro u hu; simp at hu; rcases hu with rfl | rfl <;> rfl) (by omega) (by unfold maxLen; omega) ?_); intro a9 c9 w9 hO9 hG9 hN9; have HQ := Lib.hid (HNX.out _ hG9); have y1 := HQ.out.1.1.2; have y0 := HQ.out.1.1.1; have v1 := HQ.out.1.2.2; have HO9 := Lib.hid hO9; have hzT := HQ.out.1.lt; clear hG9 hN9 hO9)
      go_roundg (gk - 1)
      case measure => omega
      case rel =>
        refine ⟨k + 1, _, _, by omega, by go_num, Lib.hid ?_, Lib.hid (HQ.out.1.set1 _), Lib.hid ?_, Lib.hid (HQ.out.2.1.far (by omega)), Lib.hid (HQ.out.2.2.2.setCell (by dsimp only; omega) _)⟩
        · rw [HST.out]
          exact HQ.out.2.2.1.grown (scan_set _ _ _ _) (fun e => by have := Option.some.inj e; omega)
        · rw [HST.out, wrs_append]
          exact HO9.out.self.setFar T 1 _ (fun q hq => by have := (HO9.out.blk q hq).1; omega)
    · have e : k = n := by omega
      have hi : ¬ (k : Int) < (n : Int) := by omega
      have hlL : (stO o3 n).1.length = n := stO_len o3 n
      rw [e] at HS HT HO
      have HI : Hid (∀ W, Rd W g n c 2 (wrs (stO o3 n).1) → Calls Try.prog 55 #[.agg #[.int .i64 seq, .slice g n c]] W fun e w' => e = .returned (.string (showB seq (stO o3 n).1)) ∧ Below W.heap.size W w') := Lib.hid (fun W hr => by
        have h := implShow_any seq g c (stO o3 n).1 W
        rw [hlL] at h
        exact h hr (by omega))
      have HLN := Lib.hid hlL
      have HRF : Hid ((readO s.data.toList).1 = seq ∧ (readO s.data.toList).2.1 = (stO o3 n).1 ∧ (readO s.data.toList).2.2 = (stO o3 n).2) := Lib.hid (by rw [HRO.out]; exact ⟨rfl, rfl, rfl⟩)
      obtain ⟨⟨r0, r1⟩, fr0, fr1⟩ := HR.out
      obtain ⟨⟨t0, t1⟩, ft0, ft1⟩ := HT.out
      obtain ⟨rest, bad, c0, c1, ⟨fs0, fs1⟩, hrs, ho⟩ := HS.out.ex
      have HOO := Lib.hid ho
      have hzR : w.heap.size < wr.heap.size := by omega
      have hzS : w.heap.size + 1 < wr.heap.size := by omega
      clear e hlL ho HRO
      have HZ : Hid (∀ W, Below w.heap.size w W → readT s.data.toList = none → ReadPost s w (.returned (.tuple #[.agg #[.int .i64 0, .slice none 0 0], .bool false])) W) := Lib.hid (fun W hb hn => by
        unfold ReadPost
        rw [readX_no hn]
        exact ⟨_, rfl, txn_zero _ _ hb.size, hb⟩)
      have HB2 := Lib.hid ((HB.out.setCell (p := ⟨w.heap.size, 0, none⟩) (by dsimp only; omega) (.int .i64 0)).setCell (p := ⟨w.heap.size, 1, none⟩) (by dsimp only; omega) (.slice none 0 0))
      cases bad with
      | true =>
        have HN := Lib.hid (HBAD.out (by rw [HRF.out.2.2]; exact HOO.out))
        go_wp2
        refine bodyPost_ret (v := .tuple #[.agg #[.int .i64 0, .slice none 0 0], .bool false]) (by simp [results, Try.results58, go_sem, r0, r1, hzR]) rfl ?_
        exact HZ.out _ HB2.out HN.out
      | false =>
        cases hse : s.toList.isEmpty with
        | true =>
          have HN : Hid (readT s.data.toList = none) := Lib.hid (by
            rw [ByteArray.toList_eq] at hse
            rw [List.isEmpty_iff.1 hse]
            exact readT_nil)
          go_wp2
          refine bodyPost_ret (v := .tuple #[.agg #[.int .i64 0, .slice none 0 0], .bool false]) (by simp [results, Try.results58, go_sem, r0, r1, hzR]) rfl ?_
          exact HZ.out _ HB2.out HN.out
        | false =>
          have HSE : Hid (s.data.toList ≠ []) := Lib.hid (fun e => by rw [ByteArray.toList_eq, e] at hse; cases hse)
          go_wp2_with fail
          refine (HI.out _ HO.out.rd).mono ?_
          rintro e w7 ⟨rfl, hb⟩
          have HSQ := Lib.hid (showB_eq seq (stO o3 n).1 s)
          have HSQ2 : Hid (showL seq (stO o3 n).1 = s.data.toList → (showB seq (stO o3 n).1).toList = s.toList) := Lib.hid (fun h => by rw [ByteArray.toList_eq, ByteArray.toList_eq]; exact h)
          replace r0 := box_below r0 hb
          replace r1 := box_below r1 hb
          replace t0 := box_below t0 hb
          replace t1 := box_below t1 hb
          replace fr0 := ((bcell hb).2 _ 0 hzR).trans fr0
          replace fr1 := ((bcell hb).2 _ 1 hzR).trans fr1
          have hzR7 : w.heap.size < w7.heap.size := World.block_lt_of_cell? w7 _ r0
          have hzT7 : T < w7.heap.size := World.block_lt_of_cell? w7 _ t0
          have HB7 := Lib.hid (below_step1 HB.out hb)
          have HO7 := Lib.hid (HO.out.stay hb)
          clear hb HO HS HT HR c0 c1 fs0 fs1 ft0 ft1 hrs
          generalize showB seq (stO o3 n).1 = SB at *
          cases heq : (SB.toList == s.toList) with
          | true =>
            have HE : Hid (showL seq (stO o3 n).1 = s.data.toList) := Lib.hid (HSQ.out (by simpa using heq))
            have HBF := Lib.hid ((HB7.out.setCell (p := ⟨w.heap.size, 0, none⟩) (by dsimp only; omega) (.int .i64 seq)).setCell (p := ⟨w.heap.size, 1, none⟩) (by dsimp only; omega) (.slice g n c))
            have HOF := Lib.hid ((HO7.out.setFar w.heap.size 0 (.int .i64 seq) (fun q hq => by have := (HO7.out.blk q hq).1; omega)).setFar w.heap.size 1 (.slice g n c) (fun q hq => by have := (HO7.out.blk q hq).1; omega))
            have HX : Hid (readX s.data.toList = (seq, (stO o3 n).1, true)) := Lib.hid (readX_yes (HHIT.out seq (stO o3 n).1 HSE.out HE.out))
            go_wp2
            refine bodyPost_ret (v := .tuple #[.agg #[.int .i64 seq, .slice g n c], .bool true]) (by simp [results, Try.results58, go_sem, r0, r1, hzR7]) rfl ?_
            unfold ReadPost
            rw [HX.out]
            refine ⟨_, rfl, ⟨g, c, by rw [HLN.out]; rfl, ?_⟩, HBF.out⟩
            rw [HLN.out]
            exact ⟨row_mono1 HOF.out.row (by omega), Below.refl _ _, HBF.out.size⟩
          | false =>
            have HN : Hid (readT s.data.toList = none) := Lib.hid (HNE.out (by
              rw [HRF.out.1, HRF.out.2.1]
              intro h
              rw [HSQ2.out h] at heq
              simp at heq))
            have HBF := Lib.hid ((HB7.out.setCell (p := ⟨w.heap.size, 0, none⟩) (by dsimp only; omega) (.int .i64 0)).setCell (p := ⟨w.heap.size, 1, none⟩) (by dsimp only; omega) (.slice none 0 0))
            go_wp2
            refine bodyPost_ret (v := .tuple #[.agg #[.int .i64 0, .slice none 0 0], .bool false]) (by simp [results, Try.results58, go_sem, r0, r1, hzR7]) rfl ?_
            exact HZ.out _ HBF.out HN.out
end Go.Proofs.Ytbokgbbdjcpgbaa
