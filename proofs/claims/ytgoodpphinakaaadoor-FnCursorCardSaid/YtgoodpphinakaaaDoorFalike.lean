/- Alike is so of each name and itself, both ways, and on; a name is alike what it is taken apart to, and folded to; alike names have one hash: the law, walked. -/
import Derived.Test.YtgoodpphinakaaaDoorKeyOf
import Derived.Test.YtgoodpphinakaaaDoorName
import Derived.Test.YtgoodpphinakaaaDoorAt
namespace Go.Proofs.YtgoodpphinakaaaDoor
open Go.RowKit

theorem alike_sym (s t : ByteArray) : alikeB t s = alikeB s t := by
  unfold alikeB
  rw [Bool.and_comm (nameB t)]
  congr 1
  rw [Bool.beq_comm]
theorem alike_self (s : ByteArray) : alikeB s s = nameB s := by unfold alikeB; simp
theorem alike_iff (s t : ByteArray) : alikeB s t = true ↔ (nameB s = true ∧ nameB t = true) ∧ (keyS s).toList = (keyS t).toList := by
  unfold alikeB
  simp only [Bool.and_eq_true, beq_iff_eq]
theorem toList_inj {s t : ByteArray} (h : s.toList = t.toList) : s = t := by
  rw [ByteArray.toList_eq, ByteArray.toList_eq] at h
  rcases s with ⟨⟨a⟩⟩
  rcases t with ⟨⟨b⟩⟩
  simp at h
  rw [h]
theorem alike_on (s t u : ByteArray) (h : alikeB s t = true) : alikeB t u = alikeB s u := by
  obtain ⟨⟨h1, h2⟩, h3⟩ := (alike_iff s t).1 h
  unfold alikeB
  rw [h1, h2, h3]
theorem alike_hash (s t : ByteArray) (h : alikeB s t = true) : hashF s = hashF t := by
  obtain ⟨⟨h1, h2⟩, h3⟩ := (alike_iff s t).1 h
  unfold hashF
  rw [if_pos h1, if_pos h2, toList_inj h3]
/-- The text of signs that have one key. -/
theorem alike_spell (s : ByteArray) (m : List Int) (hm : keyZ m = keyZ (decR s.data.toList)) (h1 : nameB s = true) (h2 : nameB ⟨(encL m).toArray⟩ = true) : alikeB s ⟨(encL m).toArray⟩ = true := by
  refine (alike_iff _ _).2 ⟨⟨h1, h2⟩, ?_⟩
  have hne : encL m ≠ [] := by
    intro e
    unfold nameB at h2
    rw [e] at h2
    simp only [Bool.and_eq_true, decide_eq_true_eq] at h2
    have := h2.1.1.1.2.1
    have e2 : (⟨([] : List UInt8).toArray⟩ : ByteArray).size = 0 := rfl
    omega
  have e : keyS ⟨(encL m).toArray⟩ = keyS s := by
    unfold keyS
    show (⟨(encL (keyZ (decR (encL m)))).toArray⟩ : ByteArray) = _
    rw [decR_encL m hne, hm]
  rw [e]
theorem encB_size (m : List Int) (b : Nat) (h : m.length ≤ b) : (⟨(encL m).toArray⟩ : ByteArray).size ≤ 4 * b := by
  have h1 := encs_size m
  have h2 : (⟨(encL m).toArray⟩ : ByteArray).size = (encL m).length := List.size_toArray
  omega
/-- A code that follows from another one. -/
def FreshPost (w : World) (e : Ending) (w' : World) : Prop := ∃ (g : Option Addr) (c : Nat) (zs : List Int), e = .returned (.slice g zs.length c) ∧ zs.length ≤ 601 ∧ (∀ z ∈ zs, 0 ≤ z ∧ z ≤ 255) ∧ Rd w' g zs.length c 1 (zs.map (Value.int .u8)) ∧ Below w.heap.size w w'
theorem u8w_range (x : Int) : 0 ≤ IntKind.u8.wrap x ∧ IntKind.u8.wrap x ≤ 255 := by rw [IntKind.wrap_u8]; omega
set_option maxRecDepth 1000000 in
set_option maxHeartbeats 6000000 in
theorem fresh_any (a : Option Addr) (n cap : Nat) (bs : List Int) (w : World) (h : Rd w a n cap 1 (bs.map (Value.int .u8))) (hb : ∀ z ∈ bs, 0 ≤ z ∧ z ≤ 255) (hn : n ≤ 1048576) :
    Calls Tryd.prog 27 #[.slice a n cap, .int .i64 3] w (FreshPost w) := by
  have hl : bs.length = n := by have := h.len; simpa using this
  subst hl
  have H := Lib.hid h
  have HB := Lib.hid hb
  have HO0 := Lib.hid (Own.lit (e := 5) (size := 1) (n := 1) (Below.refl w.heap.size w) (Nat.le_refl _) #[.int .u8 3] rfl (by decide))
  clear h hb
  go_enter Tryd.func27, Tryd.ntmps27
  go_wp2
  go_loopg [5, 6] bs.length (fun gg o i wr => ∃ (k n : Nat) (g : Option Addr) (c : Nat) (zs : List Int), k + gg = bs.length ∧ i = .int .i64 (k : Int) ∧ o = .slice g n c ∧ Hid (zs.length = n ∧ n = k + 1) ∧ n ≤ 601 ∧ k ≤ 600 ∧ Hid (∀ z ∈ zs, 0 ≤ z ∧ z ≤ 255) ∧ Hid (Own 5 1 w.heap.size w (.slice g n c) n (zs.map (Value.int .u8)) wr))
  case atStart => exact ⟨0, 1, _, _, [3], by omega, rfl, rfl, Lib.hid ⟨rfl, rfl⟩, by omega, by omega, Lib.hid (by simp), Lib.hid (by exact HO0.out)⟩
  case round =>
    obtain ⟨k, n, g, c, zs, hk, rfl, rfl, HZL, hzl, hk6, HZ, HO⟩ := hrel
    have hr := H.out.below HO.out.below (Nat.le_refl _)
    by_cases hlt : k < bs.length
    · by_cases hk600 : k < 600
      · obtain ⟨b, off, rfl, hbs, hc⟩ := hr.at' (by omega)
        have hc1 := hc k (by simpa using hlt)
        simp only [List.getElem_map] at hc1
        have hbr := HB.out bs[k] (List.getElem_mem hlt)
        have hi : (k : Int) < (bs.length : Int) := by omega
        have hi2 : (k : Int) < 600 := by omega
        have hn1 : n + 1 ≤ 601 := by have := HZL.out; omega
        clear hc hr hbs
        generalize bs[k] = y at *
        go_wp2_with (at_builtin; go_loud (refine wp_app1g rfl _ _ 28 rfl 5 (.int .u8 0) 1 1 Tryd.underlying28 info_u8 rfl (by decide) _ _ _ _ _ (by rfl) (by exact HO.out) _ _ (by rfl) (by rfl) (by intro u hu; simp at hu; first | (subst hu; rfl) | (rcases hu with rfl | rfl <;> rfl) | (rcases hu with rfl | rfl | rfl <;> rfl) | (rcases hu with rfl | rfl | rfl | rfl <;> rfl)) (by omega) (by unfold maxLen; omega) ?_); intro a2 c2 w2 hO2 hG2 hN2)
        have HO2 := Lib.hid hO2
        clear hG2 hN2 hO2
        go_roundg (gk - 1)
        case measure => omega
        case rel => exact ⟨k + 1, n + 1, _, _, zs ++ [(y * 3 + 3 * ((k : Int) % 7 + 1)) % 256], by omega, by go_num, rfl, Lib.hid (by have := HZL.out; simp; omega), hn1, by omega, Lib.hid (fun z hz => by
          rcases List.mem_append.1 hz with hz | hz
          · exact HZ.out z hz
          · obtain rfl : z = _ := List.mem_singleton.1 hz
            omega), Lib.hid (by have h := HO2.out; rw [List.map_append]; exact h)⟩
      · have hi : (k : Int) < (bs.length : Int) := by omega
        have hi2 : ¬ (k : Int) < 600 := by omega
        clear hr
        go_wp2
        go_ret
        obtain ⟨rfl, -⟩ := HZL.out
        exact ⟨_, _, zs, rfl, hzl, HZ.out, HO.out.rd, HO.out.below⟩
    · have hi : ¬ (k : Int) < (bs.length : Int) := by omega
      clear hr
      go_wp2
      go_ret
      obtain ⟨rfl, -⟩ := HZL.out
      exact ⟨_, _, zs, rfl, hzl, HZ.out, HO.out.rd, HO.out.below⟩
set_option maxRecDepth 1000000 in
set_option maxHeartbeats 6000000 in
theorem lawFnAlike_walk (a : Option Addr) (len cap : Nat) (zs0 : List Int) (w : World) (hrow : IsRow .u8 w a len cap zs0) (hT : KTab w) : Calls Tryd.prog 8 #[.slice a len cap] w fun e w' => e = .returned (.bool true) ∧ Below w.heap.size w w' := by
  have hm : len ≤ maxLen := by have h := hrow.rd.1; exact Nat.le_trans h.le h.max
  have HT := Lib.hid hT
  clear hT
  by_cases hs : 1048576 < len
  · clear hrow
    go_enter Tryd.func8, Tryd.ntmps8
    go_wp2_with fail
    refine (big_any_any _ _ _ _ hs hm).mono ?_
    rintro e w' ⟨rfl, rfl⟩
    go_wp2
    go_ret
    exact ⟨rfl, Below.refl _ _⟩
  · obtain ⟨hR, hz⟩ := hrow.rd
    have HR := Lib.hid hR
    have HZ2 : Hid (∀ z ∈ zs0.take len, 0 ≤ z ∧ z ≤ 255) := Lib.hid (fun z hz' => by have := hz z hz'; simpa [Lit.wf, IntKind.min, IntKind.max, IntKind.signed, IntKind.bits] using this)
    have hn : len ≤ 1048576 := by omega
    clear hrow hR hz hs hm
    generalize zs0.take len = zs at *
    go_enter Tryd.func8, Tryd.ntmps8
    go_wp2_with fail
    refine (big_no_any _ _ _ _ hn).mono ?_
    rintro e w' ⟨rfl, rfl⟩
    go_wp2_with fail
    refine (drawAlike_any _ _ _ _ _ HR.out HZ2.out hn).mono ?_
    rintro e w1 ⟨s, t, rfl, hs27, ht27, hb⟩
    have HB := Lib.hid hb
    clear hb
    go_wp2_with fail
    refine (fresh_any _ _ _ _ _ (HR.out.below HB.out (Nat.le_refl _)) HZ2.out hn).mono ?_
    rintro e w2 ⟨g2, c2, ys, rfl, hy, hyb, hyr, hb⟩
    have HY := Lib.hid (And.intro hyr hyb)
    replace HB := Lib.hid (below_step1 HB.out hb)
    clear hb hyr hyb HR HZ2
    go_wp2_with fail
    refine (drawAlike_any _ _ _ _ _ HY.out.1 HY.out.2 (by omega)).mono ?_
    rintro e w3 ⟨u0, u, rfl, hu0, hu27, hb⟩
    replace HB := Lib.hid (below_step1 HB.out hb)
    clear hb HY
    have HSY := Lib.hid (alike_sym s t)
    have HSF := Lib.hid (alike_self s)
    have HON := Lib.hid (alike_on s t u)
    have HHS := Lib.hid (alike_hash s t)
    go_wp2_with fail
    refine (implAlike_any s t _ (by omega) (by omega) (HT.out.step HB.out)).mono ?_
    rintro e w4 ⟨rfl, hb⟩
    replace HB := Lib.hid (below_step1 HB.out hb)
    clear hb
    obtain ⟨ab, hab⟩ : ∃ x, x = alikeB s t := ⟨_, rfl⟩
    rw [← hab] at HSY HON HHS ⊢
    have HAB := Lib.hid hab
    clear hab
    go_wp2_with fail
    refine (implAlike_any t s _ (by omega) (by omega) (HT.out.step HB.out)).mono ?_
    rintro e w5 ⟨rfl, hb⟩
    rw [HSY.out]
    replace HB := Lib.hid (below_step1 HB.out hb)
    clear hb
    have hne1 : (ab != ab) = false := by simp
    go_wp2_with fail
    refine (implAlike_any s s _ (by omega) (by omega) (HT.out.step HB.out)).mono ?_
    rintro e w6 ⟨rfl, hb⟩
    rw [HSF.out]
    replace HB := Lib.hid (below_step1 HB.out hb)
    clear hb
    go_wp2_with fail
    refine (specNameOk_any s _ (by omega)).mono ?_
    rintro e w7 ⟨rfl, hb⟩
    replace HB := Lib.hid (below_step1 HB.out hb)
    clear hb
    obtain ⟨ns, hns⟩ : ∃ x, x = nameB s := ⟨_, rfl⟩
    rw [← hns]
    have HNS := Lib.hid hns
    clear hns
    have hne2 : (ns != ns) = false := by simp
    go_wp2_with fail
    refine (specAlike_any s t _ (by omega) (by omega)).mono ?_
    rintro e w8 ⟨rfl, hb⟩
    rw [← HAB.out]
    replace HB := Lib.hid (below_step1 HB.out hb)
    clear hb
    cases ab with
    | false =>
      go_wp2_with fail
      refine (specDecode_any s _ (by omega)).mono ?_
      rintro e w9 ⟨a1, c1, rfl, hO⟩
      have HR := Lib.hid hO.rd
      have hb := hO.below
      replace HB := Lib.hid (below_step1 HB.out hb)
      clear hb
      clear hO
      have hl1 : (decR s.data.toList).length ≤ 27 := by have h1 := decR_len s.data.toList; have h2 : s.data.toList.length = s.size := Array.length_toList; omega
      have HW := Lib.hid (decR_wide s.data.toList)
      have HD := Lib.hid (alike_spell s (apartF (decR s.data.toList)) (keyZ_d _))
      have HE := Lib.hid (alike_spell s (foldL (apartF (decR s.data.toList))) (keyZ_e _))
      have HK := Lib.hid (alike_spell s (keyZ (decR s.data.toList)) (keyZ_k _))
      have HK0 : Hid (keyR s = if nameB s = true then (⟨(encL (keyZ (decR s.data.toList))).toArray⟩ : ByteArray) else ByteArray.empty) := Lib.hid rfl
      have hkz : (⟨(encL (keyZ (decR s.data.toList))).toArray⟩ : ByteArray).size ≤ 1073741824 := by have h3 := apartF_len (decR s.data.toList); have h4 := foldL_len (apartF (decR s.data.toList)); have h5 := apartF_len (foldL (apartF (decR s.data.toList))); have := encB_size (keyZ (decR s.data.toList)) 100000 (by unfold keyZ; omega); omega
      generalize decB s.data.toList = b1 at *
      obtain ⟨K, hK⟩ : ∃ K : ByteArray, K = ⟨(encL (keyZ (decR s.data.toList))).toArray⟩ := ⟨_, rfl⟩
      rw [← hK] at HK HK0 hkz
      clear hK
      generalize decR s.data.toList = l at *
      have hml := apartF_len l
      have HMW := Lib.hid (apartF_wide l HW.out)
      obtain ⟨M, hM⟩ : ∃ M, M = apartF l := ⟨_, rfl⟩
      rw [← hM] at HD HE hml HMW
      have HMM := Lib.hid hM
      clear hM
      go_wp2_with fail
      refine (implApart_any _ _ _ l _ (HR.out) (by omega)).mono ?_
      rintro e w10 ⟨a2, c2', rfl, hO⟩
      have HM := Lib.hid hO.rd
      have hb := hO.below
      replace HR := Lib.hid (HR.out.below hb (Nat.le_refl _))
      replace HB := Lib.hid (below_step1 HB.out hb)
      clear hb
      clear hO
      rw [← HMM.out] at HM ⊢
      have hdz := encB_size M 729 (by omega)
      obtain ⟨D, hD⟩ : ∃ D : ByteArray, D = ⟨(encL M).toArray⟩ := ⟨_, rfl⟩
      rw [← hD] at HD hdz
      have HDD := Lib.hid hD
      clear hD
      go_wp2_with fail
      refine (specEncode_any _ _ _ M _ HM.out (by omega)).mono ?_
      rintro e w11 ⟨rfl, hb⟩
      replace HR := Lib.hid (HR.out.below hb (Nat.le_refl _))
      replace HB := Lib.hid (below_step1 HB.out hb)
      clear hb
      rw [← HDD.out]
      clear HM
      go_wp2_with fail
      refine (implApart_any _ _ _ l _ (HR.out) (by omega)).mono ?_
      rintro e w12 ⟨a2, c2', rfl, hO⟩
      have HM := Lib.hid hO.rd
      have hb := hO.below
      replace HR := Lib.hid (HR.out.below hb (Nat.le_refl _))
      replace HB := Lib.hid (below_step1 HB.out hb)
      clear hb
      clear hO
      rw [← HMM.out] at HM ⊢
      go_wp2_with fail
      refine (implFold_any _ _ _ M _ HM.out (by omega) (fun x hx => by have := HMW.out x hx; omega)).mono ?_
      rintro e w13 ⟨a3, c3, rfl, hO⟩
      have HF := Lib.hid hO.rd
      have hb := hO.below
      replace HB := Lib.hid (below_step1 HB.out hb)
      clear hb
      clear hO HM HR
      have hfl := foldL_len M
      have hez := encB_size (foldL M) 1458 (by omega)
      obtain ⟨E, hE⟩ : ∃ E : ByteArray, E = ⟨(encL (foldL M)).toArray⟩ := ⟨_, rfl⟩
      rw [← hE] at HE hez
      have HEE := Lib.hid hE
      clear hE
      go_wp2_with fail
      refine (specEncode_any _ _ _ (foldL M) _ HF.out (by omega)).mono ?_
      rintro e w14 ⟨rfl, hb⟩
      replace HB := Lib.hid (below_step1 HB.out hb)
      clear hb
      rw [← HEE.out]
      clear HF
      go_wp2_with fail
      refine (specNameOk_any s _ (by omega)).mono ?_
      rintro e w15 ⟨rfl, hb⟩
      replace HB := Lib.hid (below_step1 HB.out hb)
      clear hb
      rw [← HNS.out] at HD HE HK HK0 ⊢
      cases ns with
      | false =>
        go_wp2_with fail
        refine (specNameOk_any s _ (by omega)).mono ?_
        rintro e w16 ⟨rfl, hb⟩
        replace HB := Lib.hid (below_step1 HB.out hb)
        clear hb
        rw [← HNS.out]
        go_wp2_with fail
        refine (implKeyOf_any s _ (by omega) (HT.out.step HB.out)).mono ?_
        rintro e w17 ⟨rfl, hb⟩
        replace HB := Lib.hid (below_step1 HB.out hb)
        clear hb
        rw [← HNS.out]
        go_wp2_with fail
        refine (specNameOk_any s _ (by omega)).mono ?_
        rintro e w18 ⟨rfl, hb⟩
        replace HB := Lib.hid (below_step1 HB.out hb)
        clear hb
        rw [← HNS.out]
        go_wp2
        go_ret
        exact ⟨rfl, HB.out⟩
      | true =>
        have HKR : Hid (keyR s = K) := Lib.hid HK0.out
        clear HK0
        go_wp2_with fail
        refine (specNameOk_any D _ (by omega)).mono ?_
        rintro e w16 ⟨rfl, hb⟩
        replace HB := Lib.hid (below_step1 HB.out hb)
        clear hb
        have HDA := Lib.hid (HD.out (by first | rfl | trivial))
        clear HD
        obtain ⟨nd, hnd⟩ : ∃ x, x = nameB D := ⟨_, rfl⟩
        rw [← hnd] at HDA ⊢
        clear hnd
        cases nd with
        | false =>
          clear HDA
          go_wp2_with fail
          refine (specNameOk_any s _ (by omega)).mono ?_
          rintro e w18 ⟨rfl, hb⟩
          replace HB := Lib.hid (below_step1 HB.out hb)
          clear hb
          rw [← HNS.out]
          go_wp2_with fail
          refine (specNameOk_any E _ (by omega)).mono ?_
          rintro e w19 ⟨rfl, hb⟩
          replace HB := Lib.hid (below_step1 HB.out hb)
          clear hb
          have HEA := Lib.hid (HE.out (by first | rfl | trivial))
          clear HE
          obtain ⟨ne, hne⟩ : ∃ x, x = nameB E := ⟨_, rfl⟩
          rw [← hne] at HEA ⊢
          clear hne
          cases ne with
          | false =>
            clear HEA
            go_wp2_with fail
            refine (implKeyOf_any s _ (by omega) (HT.out.step HB.out)).mono ?_
            rintro e w21 ⟨rfl, hb⟩
            replace HB := Lib.hid (below_step1 HB.out hb)
            clear hb
            rw [← HNS.out, HKR.out]
            go_wp2_with fail
            refine (specNameOk_any s _ (by omega)).mono ?_
            rintro e w22 ⟨rfl, hb⟩
            replace HB := Lib.hid (below_step1 HB.out hb)
            clear hb
            rw [← HNS.out]
            go_wp2_with fail
            refine (specNameOk_any K _ hkz).mono ?_
            rintro e w23 ⟨rfl, hb⟩
            replace HB := Lib.hid (below_step1 HB.out hb)
            clear hb
            have HKA := Lib.hid (HK.out (by first | rfl | trivial))
            clear HK
            obtain ⟨nk, hnk⟩ : ∃ x, x = nameB K := ⟨_, rfl⟩
            rw [← hnk] at HKA ⊢
            clear hnk
            cases nk with
            | false =>
              go_wp2
              go_ret
              exact ⟨rfl, HB.out⟩
            | true =>
              have HKS : Hid (alikeB K s = true) := Lib.hid (by rw [alike_sym s K]; exact HKA.out (by first | rfl | trivial))
              clear HKA
              go_wp2_with fail
              refine (implAlike_any K s _ hkz (by omega) (HT.out.step HB.out)).mono ?_
              rintro e w24 ⟨rfl, hb⟩
              replace HB := Lib.hid (below_step1 HB.out hb)
              clear hb
              rw [HKS.out]
              go_wp2
              go_ret
              exact ⟨rfl, HB.out⟩
          | true =>
            go_wp2_with fail
            refine (implAlike_any s E _ (by omega) (by omega) (HT.out.step HB.out)).mono ?_
            rintro e w20 ⟨rfl, hb⟩
            replace HB := Lib.hid (below_step1 HB.out hb)
            clear hb
            rw [HEA.out (by first | rfl | trivial)]
            clear HEA
            go_wp2_with fail
            refine (implKeyOf_any s _ (by omega) (HT.out.step HB.out)).mono ?_
            rintro e w21 ⟨rfl, hb⟩
            replace HB := Lib.hid (below_step1 HB.out hb)
            clear hb
            rw [← HNS.out, HKR.out]
            go_wp2_with fail
            refine (specNameOk_any s _ (by omega)).mono ?_
            rintro e w22 ⟨rfl, hb⟩
            replace HB := Lib.hid (below_step1 HB.out hb)
            clear hb
            rw [← HNS.out]
            go_wp2_with fail
            refine (specNameOk_any K _ hkz).mono ?_
            rintro e w23 ⟨rfl, hb⟩
            replace HB := Lib.hid (below_step1 HB.out hb)
            clear hb
            have HKA := Lib.hid (HK.out (by first | rfl | trivial))
            clear HK
            obtain ⟨nk, hnk⟩ : ∃ x, x = nameB K := ⟨_, rfl⟩
            rw [← hnk] at HKA ⊢
            clear hnk
            cases nk with
            | false =>
              go_wp2
              go_ret
              exact ⟨rfl, HB.out⟩
            | true =>
              have HKS : Hid (alikeB K s = true) := Lib.hid (by rw [alike_sym s K]; exact HKA.out (by first | rfl | trivial))
              clear HKA
              go_wp2_with fail
              refine (implAlike_any K s _ hkz (by omega) (HT.out.step HB.out)).mono ?_
              rintro e w24 ⟨rfl, hb⟩
              replace HB := Lib.hid (below_step1 HB.out hb)
              clear hb
              rw [HKS.out]
              go_wp2
              go_ret
              exact ⟨rfl, HB.out⟩
        | true =>
          go_wp2_with fail
          refine (implAlike_any s D _ (by omega) (by omega) (HT.out.step HB.out)).mono ?_
          rintro e w17 ⟨rfl, hb⟩
          replace HB := Lib.hid (below_step1 HB.out hb)
          clear hb
          rw [HDA.out (by first | rfl | trivial)]
          clear HDA
          go_wp2_with fail
          refine (specNameOk_any s _ (by omega)).mono ?_
          rintro e w18 ⟨rfl, hb⟩
          replace HB := Lib.hid (below_step1 HB.out hb)
          clear hb
          rw [← HNS.out]
          go_wp2_with fail
          refine (specNameOk_any E _ (by omega)).mono ?_
          rintro e w19 ⟨rfl, hb⟩
          replace HB := Lib.hid (below_step1 HB.out hb)
          clear hb
          have HEA := Lib.hid (HE.out (by first | rfl | trivial))
          clear HE
          obtain ⟨ne, hne⟩ : ∃ x, x = nameB E := ⟨_, rfl⟩
          rw [← hne] at HEA ⊢
          clear hne
          cases ne with
          | false =>
            clear HEA
            go_wp2_with fail
            refine (implKeyOf_any s _ (by omega) (HT.out.step HB.out)).mono ?_
            rintro e w21 ⟨rfl, hb⟩
            replace HB := Lib.hid (below_step1 HB.out hb)
            clear hb
            rw [← HNS.out, HKR.out]
            go_wp2_with fail
            refine (specNameOk_any s _ (by omega)).mono ?_
            rintro e w22 ⟨rfl, hb⟩
            replace HB := Lib.hid (below_step1 HB.out hb)
            clear hb
            rw [← HNS.out]
            go_wp2_with fail
            refine (specNameOk_any K _ hkz).mono ?_
            rintro e w23 ⟨rfl, hb⟩
            replace HB := Lib.hid (below_step1 HB.out hb)
            clear hb
            have HKA := Lib.hid (HK.out (by first | rfl | trivial))
            clear HK
            obtain ⟨nk, hnk⟩ : ∃ x, x = nameB K := ⟨_, rfl⟩
            rw [← hnk] at HKA ⊢
            clear hnk
            cases nk with
            | false =>
              go_wp2
              go_ret
              exact ⟨rfl, HB.out⟩
            | true =>
              have HKS : Hid (alikeB K s = true) := Lib.hid (by rw [alike_sym s K]; exact HKA.out (by first | rfl | trivial))
              clear HKA
              go_wp2_with fail
              refine (implAlike_any K s _ hkz (by omega) (HT.out.step HB.out)).mono ?_
              rintro e w24 ⟨rfl, hb⟩
              replace HB := Lib.hid (below_step1 HB.out hb)
              clear hb
              rw [HKS.out]
              go_wp2
              go_ret
              exact ⟨rfl, HB.out⟩
          | true =>
            go_wp2_with fail
            refine (implAlike_any s E _ (by omega) (by omega) (HT.out.step HB.out)).mono ?_
            rintro e w20 ⟨rfl, hb⟩
            replace HB := Lib.hid (below_step1 HB.out hb)
            clear hb
            rw [HEA.out (by first | rfl | trivial)]
            clear HEA
            go_wp2_with fail
            refine (implKeyOf_any s _ (by omega) (HT.out.step HB.out)).mono ?_
            rintro e w21 ⟨rfl, hb⟩
            replace HB := Lib.hid (below_step1 HB.out hb)
            clear hb
            rw [← HNS.out, HKR.out]
            go_wp2_with fail
            refine (specNameOk_any s _ (by omega)).mono ?_
            rintro e w22 ⟨rfl, hb⟩
            replace HB := Lib.hid (below_step1 HB.out hb)
            clear hb
            rw [← HNS.out]
            go_wp2_with fail
            refine (specNameOk_any K _ hkz).mono ?_
            rintro e w23 ⟨rfl, hb⟩
            replace HB := Lib.hid (below_step1 HB.out hb)
            clear hb
            have HKA := Lib.hid (HK.out (by first | rfl | trivial))
            clear HK
            obtain ⟨nk, hnk⟩ : ∃ x, x = nameB K := ⟨_, rfl⟩
            rw [← hnk] at HKA ⊢
            clear hnk
            cases nk with
            | false =>
              go_wp2
              go_ret
              exact ⟨rfl, HB.out⟩
            | true =>
              have HKS : Hid (alikeB K s = true) := Lib.hid (by rw [alike_sym s K]; exact HKA.out (by first | rfl | trivial))
              clear HKA
              go_wp2_with fail
              refine (implAlike_any K s _ hkz (by omega) (HT.out.step HB.out)).mono ?_
              rintro e w24 ⟨rfl, hb⟩
              replace HB := Lib.hid (below_step1 HB.out hb)
              clear hb
              rw [HKS.out]
              go_wp2
              go_ret
              exact ⟨rfl, HB.out⟩
    | true =>
      have HON2 := Lib.hid (HON.out rfl)
      have HHS2 := Lib.hid (HHS.out rfl)
      clear HON HHS
      go_wp2_with fail
      refine (implAlike_any t u _ (by omega) (by omega) (HT.out.step HB.out)).mono ?_
      rintro e wa ⟨rfl, hb⟩
      replace HB := Lib.hid (below_step1 HB.out hb)
      clear hb
      rw [HON2.out]
      go_wp2_with fail
      refine (implAlike_any s u _ (by omega) (by omega) (HT.out.step HB.out)).mono ?_
      rintro e wb ⟨rfl, hb⟩
      replace HB := Lib.hid (below_step1 HB.out hb)
      clear hb
      have hne3 : (alikeB s u != alikeB s u) = false := by simp
      go_wp2_with fail
      refine (implHashOf_any s _ (by omega) (HT.out.step HB.out)).mono ?_
      rintro e wc ⟨rfl, hb⟩
      replace HB := Lib.hid (below_step1 HB.out hb)
      clear hb
      rw [HHS2.out]
      go_wp2_with fail
      refine (implHashOf_any t _ (by omega) (HT.out.step HB.out)).mono ?_
      rintro e wd ⟨rfl, hb⟩
      replace HB := Lib.hid (below_step1 HB.out hb)
      clear hb
      have hne4 : (hashF t == hashF t) = true := by simp
      go_wp2_with fail
      refine (specDecode_any s _ (by omega)).mono ?_
      rintro e w9 ⟨a1, c1, rfl, hO⟩
      have HR := Lib.hid hO.rd
      have hb := hO.below
      replace HB := Lib.hid (below_step1 HB.out hb)
      clear hb
      clear hO
      have hl1 : (decR s.data.toList).length ≤ 27 := by have h1 := decR_len s.data.toList; have h2 : s.data.toList.length = s.size := Array.length_toList; omega
      have HW := Lib.hid (decR_wide s.data.toList)
      have HD := Lib.hid (alike_spell s (apartF (decR s.data.toList)) (keyZ_d _))
      have HE := Lib.hid (alike_spell s (foldL (apartF (decR s.data.toList))) (keyZ_e _))
      have HK := Lib.hid (alike_spell s (keyZ (decR s.data.toList)) (keyZ_k _))
      have HK0 : Hid (keyR s = if nameB s = true then (⟨(encL (keyZ (decR s.data.toList))).toArray⟩ : ByteArray) else ByteArray.empty) := Lib.hid rfl
      have hkz : (⟨(encL (keyZ (decR s.data.toList))).toArray⟩ : ByteArray).size ≤ 1073741824 := by have h3 := apartF_len (decR s.data.toList); have h4 := foldL_len (apartF (decR s.data.toList)); have h5 := apartF_len (foldL (apartF (decR s.data.toList))); have := encB_size (keyZ (decR s.data.toList)) 100000 (by unfold keyZ; omega); omega
      generalize decB s.data.toList = b1 at *
      obtain ⟨K, hK⟩ : ∃ K : ByteArray, K = ⟨(encL (keyZ (decR s.data.toList))).toArray⟩ := ⟨_, rfl⟩
      rw [← hK] at HK HK0 hkz
      clear hK
      generalize decR s.data.toList = l at *
      have hml := apartF_len l
      have HMW := Lib.hid (apartF_wide l HW.out)
      obtain ⟨M, hM⟩ : ∃ M, M = apartF l := ⟨_, rfl⟩
      rw [← hM] at HD HE hml HMW
      have HMM := Lib.hid hM
      clear hM
      go_wp2_with fail
      refine (implApart_any _ _ _ l _ (HR.out) (by omega)).mono ?_
      rintro e w10 ⟨a2, c2', rfl, hO⟩
      have HM := Lib.hid hO.rd
      have hb := hO.below
      replace HR := Lib.hid (HR.out.below hb (Nat.le_refl _))
      replace HB := Lib.hid (below_step1 HB.out hb)
      clear hb
      clear hO
      rw [← HMM.out] at HM ⊢
      have hdz := encB_size M 729 (by omega)
      obtain ⟨D, hD⟩ : ∃ D : ByteArray, D = ⟨(encL M).toArray⟩ := ⟨_, rfl⟩
      rw [← hD] at HD hdz
      have HDD := Lib.hid hD
      clear hD
      go_wp2_with fail
      refine (specEncode_any _ _ _ M _ HM.out (by omega)).mono ?_
      rintro e w11 ⟨rfl, hb⟩
      replace HR := Lib.hid (HR.out.below hb (Nat.le_refl _))
      replace HB := Lib.hid (below_step1 HB.out hb)
      clear hb
      rw [← HDD.out]
      clear HM
      go_wp2_with fail
      refine (implApart_any _ _ _ l _ (HR.out) (by omega)).mono ?_
      rintro e w12 ⟨a2, c2', rfl, hO⟩
      have HM := Lib.hid hO.rd
      have hb := hO.below
      replace HR := Lib.hid (HR.out.below hb (Nat.le_refl _))
      replace HB := Lib.hid (below_step1 HB.out hb)
      clear hb
      clear hO
      rw [← HMM.out] at HM ⊢
      go_wp2_with fail
      refine (implFold_any _ _ _ M _ HM.out (by omega) (fun x hx => by have := HMW.out x hx; omega)).mono ?_
      rintro e w13 ⟨a3, c3, rfl, hO⟩
      have HF := Lib.hid hO.rd
      have hb := hO.below
      replace HB := Lib.hid (below_step1 HB.out hb)
      clear hb
      clear hO HM HR
      have hfl := foldL_len M
      have hez := encB_size (foldL M) 1458 (by omega)
      obtain ⟨E, hE⟩ : ∃ E : ByteArray, E = ⟨(encL (foldL M)).toArray⟩ := ⟨_, rfl⟩
      rw [← hE] at HE hez
      have HEE := Lib.hid hE
      clear hE
      go_wp2_with fail
      refine (specEncode_any _ _ _ (foldL M) _ HF.out (by omega)).mono ?_
      rintro e w14 ⟨rfl, hb⟩
      replace HB := Lib.hid (below_step1 HB.out hb)
      clear hb
      rw [← HEE.out]
      clear HF
      go_wp2_with fail
      refine (specNameOk_any s _ (by omega)).mono ?_
      rintro e w15 ⟨rfl, hb⟩
      replace HB := Lib.hid (below_step1 HB.out hb)
      clear hb
      rw [← HNS.out] at HD HE HK HK0 ⊢
      cases ns with
      | false =>
        go_wp2_with fail
        refine (specNameOk_any s _ (by omega)).mono ?_
        rintro e w16 ⟨rfl, hb⟩
        replace HB := Lib.hid (below_step1 HB.out hb)
        clear hb
        rw [← HNS.out]
        go_wp2_with fail
        refine (implKeyOf_any s _ (by omega) (HT.out.step HB.out)).mono ?_
        rintro e w17 ⟨rfl, hb⟩
        replace HB := Lib.hid (below_step1 HB.out hb)
        clear hb
        rw [← HNS.out]
        go_wp2_with fail
        refine (specNameOk_any s _ (by omega)).mono ?_
        rintro e w18 ⟨rfl, hb⟩
        replace HB := Lib.hid (below_step1 HB.out hb)
        clear hb
        rw [← HNS.out]
        go_wp2
        go_ret
        exact ⟨rfl, HB.out⟩
      | true =>
        have HKR : Hid (keyR s = K) := Lib.hid HK0.out
        clear HK0
        go_wp2_with fail
        refine (specNameOk_any D _ (by omega)).mono ?_
        rintro e w16 ⟨rfl, hb⟩
        replace HB := Lib.hid (below_step1 HB.out hb)
        clear hb
        have HDA := Lib.hid (HD.out (by first | rfl | trivial))
        clear HD
        obtain ⟨nd, hnd⟩ : ∃ x, x = nameB D := ⟨_, rfl⟩
        rw [← hnd] at HDA ⊢
        clear hnd
        cases nd with
        | false =>
          clear HDA
          go_wp2_with fail
          refine (specNameOk_any s _ (by omega)).mono ?_
          rintro e w18 ⟨rfl, hb⟩
          replace HB := Lib.hid (below_step1 HB.out hb)
          clear hb
          rw [← HNS.out]
          go_wp2_with fail
          refine (specNameOk_any E _ (by omega)).mono ?_
          rintro e w19 ⟨rfl, hb⟩
          replace HB := Lib.hid (below_step1 HB.out hb)
          clear hb
          have HEA := Lib.hid (HE.out (by first | rfl | trivial))
          clear HE
          obtain ⟨ne, hne⟩ : ∃ x, x = nameB E := ⟨_, rfl⟩
          rw [← hne] at HEA ⊢
          clear hne
          cases ne with
          | false =>
            clear HEA
            go_wp2_with fail
            refine (implKeyOf_any s _ (by omega) (HT.out.step HB.out)).mono ?_
            rintro e w21 ⟨rfl, hb⟩
            replace HB := Lib.hid (below_step1 HB.out hb)
            clear hb
            rw [← HNS.out, HKR.out]
            go_wp2_with fail
            refine (specNameOk_any s _ (by omega)).mono ?_
            rintro e w22 ⟨rfl, hb⟩
            replace HB := Lib.hid (below_step1 HB.out hb)
            clear hb
            rw [← HNS.out]
            go_wp2_with fail
            refine (specNameOk_any K _ hkz).mono ?_
            rintro e w23 ⟨rfl, hb⟩
            replace HB := Lib.hid (below_step1 HB.out hb)
            clear hb
            have HKA := Lib.hid (HK.out (by first | rfl | trivial))
            clear HK
            obtain ⟨nk, hnk⟩ : ∃ x, x = nameB K := ⟨_, rfl⟩
            rw [← hnk] at HKA ⊢
            clear hnk
            cases nk with
            | false =>
              go_wp2
              go_ret
              exact ⟨rfl, HB.out⟩
            | true =>
              have HKS : Hid (alikeB K s = true) := Lib.hid (by rw [alike_sym s K]; exact HKA.out (by first | rfl | trivial))
              clear HKA
              go_wp2_with fail
              refine (implAlike_any K s _ hkz (by omega) (HT.out.step HB.out)).mono ?_
              rintro e w24 ⟨rfl, hb⟩
              replace HB := Lib.hid (below_step1 HB.out hb)
              clear hb
              rw [HKS.out]
              go_wp2
              go_ret
              exact ⟨rfl, HB.out⟩
          | true =>
            go_wp2_with fail
            refine (implAlike_any s E _ (by omega) (by omega) (HT.out.step HB.out)).mono ?_
            rintro e w20 ⟨rfl, hb⟩
            replace HB := Lib.hid (below_step1 HB.out hb)
            clear hb
            rw [HEA.out (by first | rfl | trivial)]
            clear HEA
            go_wp2_with fail
            refine (implKeyOf_any s _ (by omega) (HT.out.step HB.out)).mono ?_
            rintro e w21 ⟨rfl, hb⟩
            replace HB := Lib.hid (below_step1 HB.out hb)
            clear hb
            rw [← HNS.out, HKR.out]
            go_wp2_with fail
            refine (specNameOk_any s _ (by omega)).mono ?_
            rintro e w22 ⟨rfl, hb⟩
            replace HB := Lib.hid (below_step1 HB.out hb)
            clear hb
            rw [← HNS.out]
            go_wp2_with fail
            refine (specNameOk_any K _ hkz).mono ?_
            rintro e w23 ⟨rfl, hb⟩
            replace HB := Lib.hid (below_step1 HB.out hb)
            clear hb
            have HKA := Lib.hid (HK.out (by first | rfl | trivial))
            clear HK
            obtain ⟨nk, hnk⟩ : ∃ x, x = nameB K := ⟨_, rfl⟩
            rw [← hnk] at HKA ⊢
            clear hnk
            cases nk with
            | false =>
              go_wp2
              go_ret
              exact ⟨rfl, HB.out⟩
            | true =>
              have HKS : Hid (alikeB K s = true) := Lib.hid (by rw [alike_sym s K]; exact HKA.out (by first | rfl | trivial))
              clear HKA
              go_wp2_with fail
              refine (implAlike_any K s _ hkz (by omega) (HT.out.step HB.out)).mono ?_
              rintro e w24 ⟨rfl, hb⟩
              replace HB := Lib.hid (below_step1 HB.out hb)
              clear hb
              rw [HKS.out]
              go_wp2
              go_ret
              exact ⟨rfl, HB.out⟩
        | true =>
          go_wp2_with fail
          refine (implAlike_any s D _ (by omega) (by omega) (HT.out.step HB.out)).mono ?_
          rintro e w17 ⟨rfl, hb⟩
          replace HB := Lib.hid (below_step1 HB.out hb)
          clear hb
          rw [HDA.out (by first | rfl | trivial)]
          clear HDA
          go_wp2_with fail
          refine (specNameOk_any s _ (by omega)).mono ?_
          rintro e w18 ⟨rfl, hb⟩
          replace HB := Lib.hid (below_step1 HB.out hb)
          clear hb
          rw [← HNS.out]
          go_wp2_with fail
          refine (specNameOk_any E _ (by omega)).mono ?_
          rintro e w19 ⟨rfl, hb⟩
          replace HB := Lib.hid (below_step1 HB.out hb)
          clear hb
          have HEA := Lib.hid (HE.out (by first | rfl | trivial))
          clear HE
          obtain ⟨ne, hne⟩ : ∃ x, x = nameB E := ⟨_, rfl⟩
          rw [← hne] at HEA ⊢
          clear hne
          cases ne with
          | false =>
            clear HEA
            go_wp2_with fail
            refine (implKeyOf_any s _ (by omega) (HT.out.step HB.out)).mono ?_
            rintro e w21 ⟨rfl, hb⟩
            replace HB := Lib.hid (below_step1 HB.out hb)
            clear hb
            rw [← HNS.out, HKR.out]
            go_wp2_with fail
            refine (specNameOk_any s _ (by omega)).mono ?_
            rintro e w22 ⟨rfl, hb⟩
            replace HB := Lib.hid (below_step1 HB.out hb)
            clear hb
            rw [← HNS.out]
            go_wp2_with fail
            refine (specNameOk_any K _ hkz).mono ?_
            rintro e w23 ⟨rfl, hb⟩
            replace HB := Lib.hid (below_step1 HB.out hb)
            clear hb
            have HKA := Lib.hid (HK.out (by first | rfl | trivial))
            clear HK
            obtain ⟨nk, hnk⟩ : ∃ x, x = nameB K := ⟨_, rfl⟩
            rw [← hnk] at HKA ⊢
            clear hnk
            cases nk with
            | false =>
              go_wp2
              go_ret
              exact ⟨rfl, HB.out⟩
            | true =>
              have HKS : Hid (alikeB K s = true) := Lib.hid (by rw [alike_sym s K]; exact HKA.out (by first | rfl | trivial))
              clear HKA
              go_wp2_with fail
              refine (implAlike_any K s _ hkz (by omega) (HT.out.step HB.out)).mono ?_
              rintro e w24 ⟨rfl, hb⟩
              replace HB := Lib.hid (below_step1 HB.out hb)
              clear hb
              rw [HKS.out]
              go_wp2
              go_ret
              exact ⟨rfl, HB.out⟩
          | true =>
            go_wp2_with fail
            refine (implAlike_any s E _ (by omega) (by omega) (HT.out.step HB.out)).mono ?_
            rintro e w20 ⟨rfl, hb⟩
            replace HB := Lib.hid (below_step1 HB.out hb)
            clear hb
            rw [HEA.out (by first | rfl | trivial)]
            clear HEA
            go_wp2_with fail
            refine (implKeyOf_any s _ (by omega) (HT.out.step HB.out)).mono ?_
            rintro e w21 ⟨rfl, hb⟩
            replace HB := Lib.hid (below_step1 HB.out hb)
            clear hb
            rw [← HNS.out, HKR.out]
            go_wp2_with fail
            refine (specNameOk_any s _ (by omega)).mono ?_
            rintro e w22 ⟨rfl, hb⟩
            replace HB := Lib.hid (below_step1 HB.out hb)
            clear hb
            rw [← HNS.out]
            go_wp2_with fail
            refine (specNameOk_any K _ hkz).mono ?_
            rintro e w23 ⟨rfl, hb⟩
            replace HB := Lib.hid (below_step1 HB.out hb)
            clear hb
            have HKA := Lib.hid (HK.out (by first | rfl | trivial))
            clear HK
            obtain ⟨nk, hnk⟩ : ∃ x, x = nameB K := ⟨_, rfl⟩
            rw [← hnk] at HKA ⊢
            clear hnk
            cases nk with
            | false =>
              go_wp2
              go_ret
              exact ⟨rfl, HB.out⟩
            | true =>
              have HKS : Hid (alikeB K s = true) := Lib.hid (by rw [alike_sym s K]; exact HKA.out (by first | rfl | trivial))
              clear HKA
              go_wp2_with fail
              refine (implAlike_any K s _ hkz (by omega) (HT.out.step HB.out)).mono ?_
              rintro e w24 ⟨rfl, hb⟩
              replace HB := Lib.hid (below_step1 HB.out hb)
              clear hb
              rw [HKS.out]
              go_wp2
              go_ret
              exact ⟨rfl, HB.out⟩
end Go.Proofs.YtgoodpphinakaaaDoor
