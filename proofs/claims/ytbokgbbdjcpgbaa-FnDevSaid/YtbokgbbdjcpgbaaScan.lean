/- The program's scanner: numbers and texts read one behind the other. -/
import Derived.Test.YtbokgbbdjcpgbaaTxnF
import Derived.Test.YtbokgbbdjcpgbaaNewDev
import Derived.Test.YtbokgbbdjcpgbaaIn
import Derived.Test.YtbokgbbdjcpgbaaReadVar
namespace Go.Proofs.Ytbokgbbdjcpgbaa
open Go.RowKit

theorem ex_drop (s : ByteArray) (k : Nat) : (s.extract k s.size).data.toList = s.data.toList.drop k := by
  simp only [ByteArray.data_extract, Array.toList_extract]
  rw [List.extract_eq_take_drop, List.take_of_length_le (by simp)]
theorem ex_take (s : ByteArray) (k : Nat) : (s.extract 0 k).data.toList = s.data.toList.take k := by simp [ByteArray.data_extract]
theorem ex_size (s : ByteArray) (k m : Nat) (h : s.size ≤ m) : (s.extract k s.size).size ≤ m := by simp; omega
theorem ex_size0 (s : ByteArray) (k m : Nat) (h : s.size ≤ m) : (s.extract 0 k).size ≤ m := by simp; omega
/-- What a scanner still has to read; nothing if it is bad. -/
def scO (rest : ByteArray) (bad : Bool) : Option (List UInt8) := if bad = true then none else some rest.data.toList
structure ScanAt (w : World) (b : Nat) (o : Option (List UInt8)) (m : Nat) : Prop where
  ex : ∃ rest bad, w.cell? ⟨b, 0, none⟩ = some (.string rest) ∧ w.cell? ⟨b, 1, none⟩ = some (.bool bad) ∧ (w.frozen? ⟨b, 0, none⟩ = false ∧ w.frozen? ⟨b, 1, none⟩ = false) ∧ rest.size ≤ m ∧ o = scO rest bad
theorem ScanAt.kept {w w' : World} {b m : Nat} {o : Option (List UInt8)} (h : ScanAt w b o m) (hb : w'.heap[b]? = w.heap[b]?) : ScanAt w' b o m := by
  obtain ⟨r, bd, h1, h2, ⟨f1, f2⟩, h3, h4⟩ := h.ex
  exact ⟨r, bd, cell_block h1 hb, cell_block h2 hb, ⟨(World.frozen?_of_block (a := ⟨b, 0, none⟩) hb).trans f1, (World.frozen?_of_block (a := ⟨b, 1, none⟩) hb).trans f2⟩, h3, h4⟩
theorem ScanAt.lt {w : World} {b m : Nat} {o : Option (List UInt8)} (h : ScanAt w b o m) : b < w.heap.size := by
  obtain ⟨r, bd, h1, _⟩ := h.ex
  exact World.block_lt_of_cell? w _ h1
theorem ScanAt.below {w w' : World} {b m : Nat} {o : Option (List UInt8)} (h : ScanAt w b o m) (hb : Below w.heap.size w w') : ScanAt w' b o m := h.kept (hb.block b h.lt)
theorem sc_bad (m : Nat) (rest : ByteArray) : scO rest true = none := rfl
theorem sc_ok (rest : ByteArray) : scO rest false = some rest.data.toList := rfl
def ScanPost (b m : Nat) (w : World) (v : Value) (o : Option (List UInt8)) (e : Ending) (w' : World) : Prop := e = .returned v ∧ ScanAt w' b o m ∧ w.grownBy w' (some b)
theorem scan_set (w : World) (b j : Nat) (u : Value) : w.grownBy (w.setCell ⟨b, j, none⟩ u) (some b) :=
  ⟨rfl, rfl, rfl, by simp [World.setCell], fun k _ hk => heap_setCell_other w ⟨b, j, none⟩ k u (fun e => hk (by simp [e]))⟩
theorem set_frozen (w : World) (b j i : Nat) (u : Value) (h : w.frozen? ⟨b, i, none⟩ = false) (hl : b < w.heap.size) : (w.setCell ⟨b, j, none⟩ u).frozen? ⟨b, i, none⟩ = false := by go_simp
set_option maxRecDepth 1000000 in
set_option maxHeartbeats 6000000 in
theorem scNum_any (b m : Nat) (o : Option (List UInt8)) (w : World) (h : ScanAt w b o m) (hm : m ≤ 1073741824) :
    Calls Try.prog 102 #[.pointer (some ⟨b, 0, none⟩)] w (ScanPost b m w (.int .i64 (numO o).1) (numO o).2) := by
  obtain ⟨rest, bad, c0, c1, ⟨f0, f1⟩, hs, ho⟩ := h.ex
  have hbl : b < w.heap.size := World.block_lt_of_cell? w _ c0
  have HO := Lib.hid ho
  have HC := Lib.hid (And.intro (And.intro c0 c1) (And.intro f0 f1))
  clear h ho
  go_enter Try.func102, Try.ntmps102
  go_wp2_with fail
  refine (implReadVar_any rest _ (by omega)).mono ?_
  rintro e w1 ⟨rfl, hb⟩
  unfold rdVarV
  obtain ⟨⟨c0, c1⟩, f0, f1⟩ := HC.out
  replace c0 := box_below c0 hb
  replace c1 := box_below c1 hb
  replace f0 := ((bcell hb).2 b 0 hbl).trans f0
  replace f1 := ((bcell hb).2 b 1 hbl).trans f1
  have HG := Lib.hid (grown_of_below (some b) hb)
  have hbl1 : b < w1.heap.size := Nat.lt_of_lt_of_le hbl hb.size
  have HSZ := Lib.hid (ex_size rest (rdVar rest.data.toList).2 m hs)
  have HXD := Lib.hid (ex_drop rest (rdVar rest.data.toList).2)
  have hkl := (rdVar_eq rest.data.toList)
  have HV : Hid (numO (some rest.data.toList) = if (rdVar rest.data.toList).2 = 0 then (0, none) else (((rdVar rest.data.toList).1 : Int), some (rest.data.toList.drop (rdVar rest.data.toList).2))) := Lib.hid rfl
  have hkr : (rdVar rest.data.toList).2 ≤ rest.size := by
    by_cases h0 : (rdVar rest.data.toList).2 = 0
    · omega
    · have := (rdVar_sound rest.data.toList h0).2.2
      have e : rest.data.toList.length = rest.size := Array.length_toList
      omega
  clear hb
  cases bad with
  | true =>
    have HO2 : Hid (numO o = (0, none)) := Lib.hid (by rw [HO.out]; rfl)
    clear HV HXD HSZ
    generalize (rdVar rest.data.toList).2 = k at *
    generalize (rdVar rest.data.toList).1 = n at *
    go_wp2
    go_ret
    rw [HO2.out]
    exact ⟨rfl, ⟨rest, true, by go_simp, by go_simp, ⟨set_frozen _ _ _ _ _ f0 hbl1, set_frozen _ _ _ _ _ f1 hbl1⟩, hs, rfl⟩, grown_trans HG.out (scan_set w1 b 1 (.bool true)) (fun x hx => .inl hx)⟩
  | false =>
    by_cases hk0 : (rdVar rest.data.toList).2 = 0
    · have HO2 : Hid (numO o = (0, none)) := Lib.hid (by rw [HO.out, sc_ok, HV.out, if_pos hk0])
      clear HV HXD HSZ
      rw [hk0]
      generalize (rdVar rest.data.toList).1 = n at *
      clear hk0 hkr hkl
      go_wp2
      go_ret
      rw [HO2.out]
      exact ⟨rfl, ⟨rest, true, by go_simp, by go_simp, ⟨set_frozen _ _ _ _ _ f0 hbl1, set_frozen _ _ _ _ _ f1 hbl1⟩, hs, rfl⟩, grown_trans HG.out (scan_set w1 b 1 (.bool true)) (fun x hx => .inl hx)⟩
    · have HO2 : Hid (numO o = (((rdVar rest.data.toList).1 : Int), some (rest.extract (rdVar rest.data.toList).2 rest.size).data.toList)) := Lib.hid (by rw [HO.out, sc_ok, HV.out, if_neg hk0, HXD.out])
      clear HV HXD
      generalize (rdVar rest.data.toList).2 = k at *
      generalize (rdVar rest.data.toList).1 = n at *
      have hkz : ((k : Int) == 0) = false := by simp; omega
      have hki : (k : Int) ≤ (rest.size : Int) := by omega
      have hki0 : (0 : Int) ≤ (k : Int) := by omega
      clear hk0
      go_wp2
      go_ret
      rw [HO2.out]
      exact ⟨rfl, ⟨rest.extract k rest.size, false, by go_simp, by go_simp, ⟨set_frozen _ _ _ _ _ f0 hbl1, set_frozen _ _ _ _ _ f1 hbl1⟩, HSZ.out, rfl⟩, grown_trans HG.out (scan_set w1 b 0 _) (fun x hx => .inl hx)⟩
set_option maxRecDepth 1000000 in
set_option maxHeartbeats 6000000 in
theorem scCut_any (b m : Nat) (n : Int) (o : Option (List UInt8)) (w : World) (h : ScanAt w b o m) (hm : m ≤ 1073741824) :
    Calls Try.prog 101 #[.pointer (some ⟨b, 0, none⟩), .int .i64 n] w (ScanPost b m w (.string ⟨(cutO n o).1.toArray⟩) (cutO n o).2) := by
  obtain ⟨rest, bad, c0, c1, ⟨f0, f1⟩, hs, ho⟩ := h.ex
  have hbl1 : b < w.heap.size := World.block_lt_of_cell? w _ c0
  have HO := Lib.hid ho
  have hlen : rest.data.toList.length = rest.size := Array.length_toList
  have HV : Hid (cutO n (some rest.data.toList) = if 0 ≤ n ∧ n ≤ rest.size then (rest.data.toList.take n.toNat, some (rest.data.toList.drop n.toNat)) else ([], none)) := Lib.hid (by unfold cutO; simp only; rw [hlen])
  clear h ho hlen
  cases bad with
  | true =>
    have HO2 : Hid (cutO n o = ([], none)) := Lib.hid (by rw [HO.out]; rfl)
    go_enter Try.func101, Try.ntmps101
    go_wp2
    go_ret
    rw [HO2.out]
    exact ⟨rfl, ⟨rest, true, by go_simp, by go_simp, ⟨set_frozen _ _ _ _ _ f0 hbl1, set_frozen _ _ _ _ _ f1 hbl1⟩, hs, rfl⟩, scan_set w b 1 (.bool true)⟩
  | false =>
    by_cases hin : 0 ≤ n ∧ n ≤ rest.size
    · obtain ⟨k, rfl⟩ := Int.eq_ofNat_of_zero_le hin.1
      have HO2 : Hid (cutO (k : Int) o = (rest.data.toList.take k, some (rest.extract k rest.size).data.toList)) := Lib.hid (by rw [HO.out, sc_ok, HV.out, if_pos hin, ex_drop, Int.toNat_natCast])
      have HS1 : Hid ((⟨(rest.data.toList.take k).toArray⟩ : ByteArray) = rest.extract 0 k) := Lib.hid (by rw [← ex_take, ba_self])
      have HSZ := Lib.hid (ex_size rest k m hs)
      have hki : (k : Int) ≤ (rest.size : Int) := by omega
      have hki0 : (0 : Int) ≤ (k : Int) := by omega
      clear hin HV
      go_enter Try.func101, Try.ntmps101
      go_wp2_with (first | (go_at_call 65; (first | refine (within_yes _ _ _ _ (by omega) (by omega)).mono ?_ | refine (within_no _ _ _ _ (by omega)).mono ?_); rintro e w' ⟨rfl, rfl⟩))
      go_ret
      rw [HO2.out]
      exact ⟨ret_str (by rw [HS1.out]), ⟨rest.extract k rest.size, false, by go_simp, by go_simp, ⟨set_frozen _ _ _ _ _ f0 hbl1, set_frozen _ _ _ _ _ f1 hbl1⟩, HSZ.out, rfl⟩, scan_set w b 0 _⟩
    · have HO2 : Hid (cutO n o = ([], none)) := Lib.hid (by rw [HO.out, sc_ok, HV.out, if_neg hin])
      replace hin : n < 0 ∨ (rest.size : Int) < n := by omega
      clear HV
      go_enter Try.func101, Try.ntmps101
      go_wp2_with (first | (go_at_call 65; (first | refine (within_yes _ _ _ _ (by omega) (by omega)).mono ?_ | refine (within_no _ _ _ _ (by omega)).mono ?_); rintro e w' ⟨rfl, rfl⟩))
      go_ret
      rw [HO2.out]
      exact ⟨rfl, ⟨rest, true, by go_simp, by go_simp, ⟨set_frozen _ _ _ _ _ f0 hbl1, set_frozen _ _ _ _ _ f1 hbl1⟩, hs, rfl⟩, scan_set w b 1 (.bool true)⟩
set_option maxRecDepth 1000000 in
set_option maxHeartbeats 6000000 in
theorem scPiece_any (b m : Nat) (o : Option (List UInt8)) (w : World) (h : ScanAt w b o m) (hm : m ≤ 1073741824) :
    Calls Try.prog 104 #[.pointer (some ⟨b, 0, none⟩)] w (ScanPost b m w (.string ⟨(pieceO o).1.toArray⟩) (pieceO o).2) := by
  have H := Lib.hid h
  clear h
  go_enter Try.func104, Try.ntmps104
  go_wp2_with fail
  refine (scNum_any b m o _ H.out hm).mono ?_
  rintro e w1 ⟨rfl, hS, hG⟩
  have HS := Lib.hid hS
  have HG := Lib.hid hG
  clear hS hG
  have HP : Hid (pieceO o = cutO (numO o).1 (numO o).2) := Lib.hid rfl
  generalize (numO o).1 = n at *
  generalize (numO o).2 = o2 at *
  go_wp2_with fail
  refine (scCut_any b m n o2 _ HS.out hm).mono ?_
  rintro e w2 ⟨rfl, hS, hG⟩
  have HS2 := Lib.hid hS
  have HG2 := Lib.hid (grown_trans HG.out hG (fun x hx => .inl hx))
  clear hS hG
  go_wp2
  go_ret
  rw [HP.out]
  exact ⟨rfl, HS2.out, HG2.out⟩
theorem numO_none (o : Option (List UInt8)) (h : (numO o).2 = none) : numO o = (0, none) := by
  cases o with
  | none => rfl
  | some r =>
    unfold numO at h ⊢
    simp only at h ⊢
    by_cases c : (rdVar r).2 = 0
    · rw [if_pos c]
    · rw [if_neg c] at h; cases h
set_option maxRecDepth 1000000 in
set_option maxHeartbeats 6000000 in
theorem scMany_any (b m : Nat) (most : Int) (o : Option (List UInt8)) (w : World) (h : ScanAt w b o m) (hm : m ≤ 1073741824) (h0 : 0 ≤ most) (h1 : most ≤ 1000) :
    Calls Try.prog 103 #[.pointer (some ⟨b, 0, none⟩), .int .i64 most] w (ScanPost b m w (.int .i64 (manyO most o).1) (manyO most o).2) := by
  have H := Lib.hid h
  clear h
  go_enter Try.func103, Try.ntmps103
  go_wp2_with fail
  refine (scNum_any b m o _ H.out hm).mono ?_
  rintro e w1 ⟨rfl, hS, hG⟩
  obtain ⟨rest, bad, c0, c1, ⟨f0, f1⟩, hs, ho⟩ := hS.ex
  have hbl1 : b < w1.heap.size := World.block_lt_of_cell? w1 _ c0
  have HO := Lib.hid ho
  have HS := Lib.hid hS
  have HG := Lib.hid hG
  have HM : Hid (manyO most o = if most < (numO o).1 then (0, none) else ((numO o).1, (numO o).2)) := Lib.hid rfl
  have HN0 := Lib.hid (numO_none o)
  clear hS hG ho
  obtain ⟨x, hx⟩ : ∃ x, (numO o).1 = x := ⟨_, rfl⟩
  obtain ⟨o2, ho2⟩ : ∃ x, (numO o).2 = x := ⟨_, rfl⟩
  rw [hx, ho2] at HM
  rw [ho2] at HO HN0 HS
  have HX : Hid (o2 = none → x = 0) := Lib.hid (fun e => by rw [← hx, HN0.out e])
  rw [hx]
  clear HN0 hx ho2
  by_cases hgt : most < x
  · have HM2 : Hid (manyO most o = (0, none)) := Lib.hid (by rw [HM.out, if_pos hgt])
    go_wp2
    go_ret
    rw [HM2.out]
    exact ⟨rfl, ⟨rest, true, by go_simp, by go_simp, ⟨set_frozen _ _ _ _ _ f0 hbl1, set_frozen _ _ _ _ _ f1 hbl1⟩, hs, rfl⟩, grown_trans HG.out (scan_set w1 b 1 (.bool true)) (fun x hx => .inl hx)⟩
  · have HM2 : Hid (manyO most o = (x, o2)) := Lib.hid (by rw [HM.out, if_neg hgt])
    cases bad with
    | true =>
      have HX2 : Hid (x = 0) := Lib.hid (HX.out HO.out)
      go_wp2
      go_ret
      rw [HM2.out, HX2.out]
      exact ⟨rfl, HS.out, HG.out⟩
    | false =>
      go_wp2
      go_ret
      rw [HM2.out]
      exact ⟨rfl, HS.out, HG.out⟩
end Go.Proofs.Ytbokgbbdjcpgbaa
