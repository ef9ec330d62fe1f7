/- One text of RbF RbG. (Printed by merge.py.) -/
import Derived.Test.YtlkfabkkjfmnmaaGreatDoorBlkM
import Derived.Test.YtlkfabkkjfmnmaaGreatDoorVolPm
namespace Go.Proofs.YtlkfabkkjfmnmaaGreatDoor
open Go.RowKit

def nmOf (l : List UInt8) : ByteArray := ⟨l.toArray⟩
def rdEnts (o : Option (List UInt8)) : Nat → List EntL × Option (List UInt8)
  | 0 => ([], o)
  | k + 1 => ((rdEnts o k).1 ++ [⟨hashF (nmOf (pieceO (numO (rdEnts o k).2).2).1), (numO (rdEnts o k).2).1, nmOf (pieceO (numO (rdEnts o k).2).2).1, (numO (pieceO (numO (rdEnts o k).2).2).2).1⟩], (numO (pieceO (numO (rdEnts o k).2).2).2).2)
theorem rdEnts_len (o : Option (List UInt8)) (k : Nat) : (rdEnts o k).1.length = k := by
  induction k with
  | zero => rfl
  | succ k ih => simp [rdEnts, ih]
def rdI (s : List UInt8) := numO (cutO 1 (some s)).2
def rdK (s : List UInt8) := numO (rdI s).2
def rdL (s : List UInt8) := numO (rdK s).2
def rdD (s : List UInt8) := pieceO (rdL s).2
def rdN (s : List UInt8) := manyO 12 (rdD s).2
def rdE (s : List UInt8) := rdEnts (rdN s).2 (rdN s).1.toNat
def rdIno (s : List UInt8) : InoL × Bool := (⟨(rdI s).1, (rdK s).1, (rdL s).1, nmOf (rdD s).1, (rdE s).1⟩, (rdE s).2.isSome)
/-- The text of an inode as a list. -/
def entL (e : EntL) : List UInt8 := varV e.index ++ (pieceL e.name ++ varV e.id)
def inL (x : InoL) : List UInt8 := [105] ++ (varV x.id ++ (varV x.kind ++ (varV x.links ++ (pieceL x.data ++ (varV (x.ents.length : Int) ++ x.ents.flatMap entL)))))
theorem ba_app (a b : ByteArray) : (a ++ b).data.toList = a.data.toList ++ b.data.toList := by simp [ByteArray.data_append]
theorem entFold_data (es : List EntL) : ∀ o : ByteArray, (es.foldl entApp o).data.toList = o.data.toList ++ es.flatMap entL := by
  induction es with
  | nil => intro o; simp
  | cons e es ih =>
    intro o
    rw [List.foldl_cons, ih, List.flatMap_cons]
    have : (entApp o e).data.toList = o.data.toList ++ entL e := by
      unfold entApp entL pieceB
      simp only [ba_app, List.append_assoc]
    rw [this, List.append_assoc]
theorem inB_data (x : InoL) : (inB x).data.toList = inL x := by
  unfold inB inL
  rw [entFold_data]
  unfold inHead pieceB
  simp only [ba_app, List.append_assoc]
def EntR (e : EntL) : Prop := (0 ≤ e.index ∧ e.index ≤ 562949953421311) ∧ (e.name.size ≤ 562949953421311) ∧ (0 ≤ e.id ∧ e.id ≤ 562949953421311) ∧ hashF e.name = e.hash
def InoR (x : InoL) : Prop := (0 ≤ x.id ∧ x.id ≤ 562949953421311) ∧ (0 ≤ x.kind ∧ x.kind ≤ 562949953421311) ∧ (0 ≤ x.links ∧ x.links ≤ 562949953421311) ∧ x.data.size ≤ 562949953421311 ∧ x.ents.length ≤ 12 ∧ ∀ e ∈ x.ents, EntR e
theorem numO_int (n : Int) (h : 0 ≤ n ∧ n ≤ 562949953421311) (r : List UInt8) : numO (some (varV n ++ r)) = (n, some r) := by
  obtain ⟨k, rfl⟩ := Int.eq_ofNat_of_zero_le h.1
  exact numO_var k (by omega) r
theorem nmOf_self (s : ByteArray) : nmOf s.data.toList = s := ba_self s
theorem rdEnts_all (r : List UInt8) : ∀ (l : List EntL), (∀ e ∈ l, EntR e) → ∀ k, k ≤ l.length → rdEnts (some (l.flatMap entL ++ r)) k = (l.take k, some ((l.drop k).flatMap entL ++ r)) := by
  intro l hl k
  induction k with
  | zero => intro _; simp [rdEnts]
  | succ k ih =>
    intro hk
    have hk' : k < l.length := by omega
    obtain ⟨h1, h2, h3, h4⟩ := hl l[k] (List.getElem_mem hk')
    have e1 : (l.drop k).flatMap entL ++ r = varV l[k].index ++ (pieceL l[k].name ++ (varV l[k].id ++ ((l.drop (k + 1)).flatMap entL ++ r))) := by
      rw [List.drop_eq_getElem_cons hk', List.flatMap_cons, entL]
      simp only [List.append_assoc]
    have hn := numO_int l[k].index h1 (pieceL l[k].name ++ (varV l[k].id ++ ((l.drop (k + 1)).flatMap entL ++ r)))
    have hp := pieceO_piece l[k].name h2 (varV l[k].id ++ ((l.drop (k + 1)).flatMap entL ++ r))
    have hd := numO_int l[k].id h3 ((l.drop (k + 1)).flatMap entL ++ r)
    rw [rdEnts, ih (by omega), e1]
    simp only [hn, hp, hd, nmOf_self, h4]
    rw [List.take_succ_eq_append_getElem hk']
theorem cutO_one (c : UInt8) (r : List UInt8) : cutO 1 (some ([c] ++ r)) = ([c], some r) := by
  unfold cutO
  simp only
  rw [if_pos ⟨by omega, by rw [List.length_append, List.length_singleton]; omega⟩]
  rfl
theorem rdIno_in (x : InoL) (h : InoR x) : rdIno (inL x) = (x, true) := by
  obtain ⟨h1, h2, h3, h4, h5, h6⟩ := h
  have e1 : rdI (inL x) = (x.id, some (varV x.kind ++ (varV x.links ++ (pieceL x.data ++ (varV (x.ents.length : Int) ++ x.ents.flatMap entL))))) := by
    unfold rdI inL
    rw [cutO_one]
    exact numO_int x.id h1 _
  have e2 : rdK (inL x) = (x.kind, some (varV x.links ++ (pieceL x.data ++ (varV (x.ents.length : Int) ++ x.ents.flatMap entL)))) := by
    unfold rdK
    rw [e1]
    exact numO_int x.kind h2 _
  have e3 : rdL (inL x) = (x.links, some (pieceL x.data ++ (varV (x.ents.length : Int) ++ x.ents.flatMap entL))) := by
    unfold rdL
    rw [e2]
    exact numO_int x.links h3 _
  have e4 : rdD (inL x) = (x.data.data.toList, some (varV (x.ents.length : Int) ++ x.ents.flatMap entL)) := by
    unfold rdD
    rw [e3]
    exact pieceO_piece x.data h4 _
  have e5 : rdN (inL x) = ((x.ents.length : Int), some (x.ents.flatMap entL)) := by
    unfold rdN manyO
    rw [e4]
    simp only
    rw [numO_int (x.ents.length : Int) ⟨by omega, by omega⟩ _]
    simp only
    rw [if_neg (by omega)]
  have e6 : rdE (inL x) = (x.ents, some []) := by
    unfold rdE
    rw [e5]
    simp only [Int.toNat_natCast]
    have := rdEnts_all [] x.ents h6 x.ents.length (Nat.le_refl _)
    simp only [List.append_nil, List.take_length, List.drop_length, List.flatMap_nil] at this
    exact this
  unfold rdIno
  rw [e1, e2, e3, e4, e6]
  simp only [nmOf_self]
  rfl
def rdInos (t : List ByteArray) : Nat → Option (List InoL)
  | 0 => some []
  | k + 1 => match rdInos t k with
    | none => none
    | some l => if (rdIno (t.getD (k + 1) ByteArray.empty).data.toList).2 = true then some (l ++ [(rdIno (t.getD (k + 1) ByteArray.empty).data.toList).1]) else none
def rdX (t : List ByteArray) := numO (cutO 1 (some (t.getD 0 ByteArray.empty).data.toList)).2
def rdM (t : List ByteArray) := manyO 16 (rdX t).2
def parseF (t : List ByteArray) : Option (Int × List InoL) :=
  if t.length = 17 then match rdInos t (rdM t).1.toNat with
    | none => none
    | some l => if (rdM t).2 = none then none else some ((rdX t).1, l)
  else none
noncomputable def readV (t : List ByteArray) : Int × List InoL × Bool := match parseF t with
  | none => (0, [], false)
  | some p => if volB p.1 p.2 = true ∧ blkF p.1 p.2 = t then (p.1, p.2, true) else (0, [], false)
theorem links_small {l : List InoL} (hl : l.length ≤ 16) (he : ∀ x ∈ l, x.ents.length ≤ 12) : totE l ≤ 192 := by
  have : ∀ (m : List InoL), (∀ x ∈ m, x.ents.length ≤ 12) → totE m ≤ m.length * 12 := by
    intro m
    induction m with
    | nil => intro _; simp [totE]
    | cons x m ih =>
      intro h
      have h1 := h x (List.mem_cons_self ..)
      have h2 := ih (fun y hy => h y (List.mem_cons_of_mem _ hy))
      unfold totE at *
      rw [List.map_cons, List.sum_cons, List.length_cons]
      omega
  have := this l he
  omega
theorem dirB_le {es : List EntL} (h : dirB es = true) : es.length ≤ 12 := by
  unfold dirB at h
  simp only [Bool.and_eq_true, decide_eq_true_eq] at h
  exact h.1
theorem dirB_row {es : List EntL} (h : dirB es = true) : ∀ e ∈ es, e.row = true := by
  intro e he
  obtain ⟨i, hi, rfl⟩ := List.mem_iff_getElem.1 he
  unfold dirB at h
  simp only [Bool.and_eq_true] at h
  have := entOk_row (dirUp_at es _ h.2 i hi)
  rwa [getD_ent es i hi] at this
theorem row_R {e : EntL} (h : e.row = true) : EntR e ∧ e.name.size ≤ 24 := by
  unfold EntL.row at h
  simp only [Bool.and_eq_true, decide_eq_true_eq] at h
  have := nameB_size e.name h.1.1.1
  exact ⟨⟨⟨by omega, by omega⟩, by omega, ⟨by omega, by omega⟩, h.1.1.2⟩, this⟩
theorem volB_parts {next : Int} {l : List InoL} (h : volB next l = true) : (2 ≤ next ∧ next ≤ 100000) ∧ (1 ≤ l.length ∧ l.length ≤ 16) ∧ (∀ k (hk : k < l.length), (1 ≤ l[k].id ∧ l[k].id ≤ next - 1) ∧ inoB l l[k] = true) := by
  unfold volB at h
  simp only [Bool.and_eq_true] at h
  obtain ⟨h1, h2, -⟩ := h
  unfold headB at h1
  simp only [Bool.and_eq_true, decide_eq_true_eq] at h1
  refine ⟨h1.1, h1.2.1, fun k hk => ?_⟩
  have hr := rowsB_at next l _ h2 k hk
  have hi := rowB_ino hk hr
  rw [rowB_eq next l k hk] at hr
  simp only [Bool.and_eq_true, decide_eq_true_eq] at hr
  exact ⟨hr.1, hi⟩
theorem inoB_ents {l : List InoL} {x : InoL} (h : inoB l x = true) : (x.kind = 1 ∨ x.kind = 2) ∧ x.ents.length ≤ 12 ∧ x.data.size ≤ 20 ∧ (∀ e ∈ x.ents, e.row = true) ∧ (x.links = (linksF l x.id : Int) ∨ x.links = 1) := by
  unfold inoB at h
  split at h
  · rename_i hk
    simp only [Bool.and_eq_true, decide_eq_true_eq] at h
    have he : x.ents = [] := List.eq_nil_of_length_eq_zero h.1
    refine ⟨.inl hk, by omega, h.2.1, fun e hx => ?_, .inl h.2.2⟩
    rw [he] at hx
    cases hx
  · simp only [Bool.and_eq_true, decide_eq_true_eq] at h
    exact ⟨.inr h.1, dirB_le h.2.2.2.1, by omega, dirB_row h.2.2.2.1, .inr h.2.2.1⟩
theorem volB_R {next : Int} {l : List InoL} (h : volB next l = true) : ∀ x ∈ l, InoR x := by
  obtain ⟨h1, h2, h3⟩ := volB_parts h
  have hall : ∀ x ∈ l, x.ents.length ≤ 12 := by
    intro x hx
    obtain ⟨k, hk, rfl⟩ := List.mem_iff_getElem.1 hx
    exact (inoB_ents (h3 k hk).2).2.1
  intro x hx
  obtain ⟨k, hk, rfl⟩ := List.mem_iff_getElem.1 hx
  obtain ⟨hid, hi⟩ := h3 k hk
  obtain ⟨hkd, hne, hda, hrow, hln⟩ := inoB_ents hi
  have hls := links_small h2.2 hall
  have hlt := linksF_tot l l[k].id
  refine ⟨⟨by omega, by omega⟩, ⟨by omega, by omega⟩, ⟨by omega, by omega⟩, by omega, hne, fun e he => (row_R (hrow e he)).1⟩
set_option maxRecDepth 1000000 in
set_option maxHeartbeats 6000000 in
theorem parseF_yes {next : Int} {l : List InoL} (h : volB next l = true) : parseF (blkF next l) = some (next, l) := by
  obtain ⟨h1, h2, h3⟩ := volB_parts h
  have hR := volB_R h
  have e0 : ((blkF next l).getD 0 ByteArray.empty).data.toList = [117] ++ (varV next ++ (varV (l.length : Int) ++ [])) := by
    show (uB next l).data.toList = _
    unfold uB
    simp only [ba_app, List.append_assoc, List.append_nil]
  have ex : rdX (blkF next l) = (next, some (varV (l.length : Int) ++ [])) := by
    unfold rdX
    rw [e0, cutO_one]
    exact numO_int next ⟨by omega, by omega⟩ _
  have em : rdM (blkF next l) = ((l.length : Int), some []) := by
    unfold rdM manyO
    rw [ex]
    simp only
    rw [numO_int (l.length : Int) ⟨by omega, by omega⟩ []]
    simp only
    rw [if_neg (by omega)]
  have ei : ∀ k, k ≤ l.length → rdInos (blkF next l) k = some (l.take k) := by
    intro k
    induction k with
    | zero => intro _; simp [rdInos]
    | succ k ih =>
      intro hk
      have hk' : k < l.length := by omega
      have eb : ((blkF next l).getD (k + 1) ByteArray.empty).data.toList = inL l[k] := by
        have : (blkF next l).getD (k + 1) ByteArray.empty = blkAt l k := by
          rw [List.getD_eq_getElem?_getD, List.getElem?_eq_getElem (by rw [blkF_len]; omega)]
          simp [blkF]
        rw [this, blkAt_in l k hk', inB_data]
      rw [rdInos, ih (by omega)]
      simp only
      rw [eb, rdIno_in _ (hR _ (List.getElem_mem hk'))]
      simp only [if_true]
      rw [List.take_succ_eq_append_getElem hk']
  unfold parseF
  rw [if_pos (blkF_len next l), em]
  simp only [Int.toNat_natCast]
  rw [ei l.length (Nat.le_refl _), List.take_length, ex]
  rfl
/-- What is read is what is written: and nothing else. -/
theorem readV_iff (t : List ByteArray) (next : Int) (l : List InoL) : readV t = (next, l, true) ↔ volB next l = true ∧ blkF next l = t := by
  constructor
  · intro h
    unfold readV at h
    split at h
    · simp at h
    · rename_i p hp
      split at h
      · rename_i c
        simp only [Prod.mk.injEq, and_true] at h
        obtain ⟨rfl, rfl⟩ := h
        exact c
      · simp at h
  · rintro ⟨h1, rfl⟩
    unfold readV
    rw [parseF_yes h1]
    show (if volB next l = true ∧ blkF next l = blkF next l then (next, l, true) else (0, [], false)) = _
    rw [if_pos ⟨h1, rfl⟩]
theorem readV_no (t : List ByteArray) (h : (readV t).2.2 = false) : readV t = (0, [], false) := by
  unfold readV at h ⊢
  split
  · rfl
  · rename_i p hp
    rw [hp] at h
    simp only at h
    split at h
    · simp at h
    · rename_i c
      rw [if_neg c]
theorem readV_hit {t : List ByteArray} {next : Int} {l : List InoL} (h1 : volB next l = true) (h2 : blkF next l = t) : readV t = (next, l, true) := (readV_iff t next l).2 ⟨h1, h2⟩
theorem readV_none {t : List ByteArray} (h : parseF t = none) : readV t = (0, [], false) := by unfold readV; rw [h]
theorem readV_miss {t : List ByteArray} {next : Int} {l : List InoL} (hp : parseF t = some (next, l)) (h : ¬ (volB next l = true ∧ blkF next l = t)) : readV t = (0, [], false) := by
  unfold readV
  rw [hp]
  simp only
  rw [if_neg h]
theorem takeQ_neg (s : List UInt8) (p : Int) (h : p < 0) : takeP s p = ([], -1) := by
  unfold takeP
  rw [varsF_out s 0 p [] (.inl h), if_pos (.inl (by decide))]
theorem takeQ_le (s : List UInt8) (p : Int) (h : -1 ≤ p) : -1 ≤ (takeP s p).2 ∧ (takeP s p).2 ≤ (s.length : Int) := by
  have h1 := varsF_le5 s 0 p [] h
  unfold takeP
  split
  · dsimp only; omega
  · rename_i hc
    obtain ⟨x, hx, hx0, hx1⟩ := take_one s p (by omega)
    rw [hx] at hc ⊢
    simp only [List.getD_cons_zero] at hc ⊢
    omega
theorem takeQ_len (s : List UInt8) (p : Int) : (takeP s p).1.length ≤ s.length := by
  unfold takeP
  split
  · simp
  · simp only [List.length_take, List.length_drop]
    omega
theorem varsQ_two (s : List UInt8) (p : Int) : 0 ≤ (varsF s 2 p []).2 → ∃ x y, (varsF s 2 p []).1 = [x, y] ∧ (0 ≤ x ∧ x ≤ 562949953421311) ∧ (0 ≤ y ∧ y ≤ 562949953421311) := by
  intro h
  have h1 := (varsF_len s 2 p []).1 h
  have h2 := varsF_num s 2 p [] (fun x hx => by simp at hx)
  match hl : (varsF s 2 p []).1, h1, h2 with
  | [x, y], _, h2 => exact ⟨x, y, rfl, h2 x (by simp), h2 y (by simp)⟩
theorem varsQ_three (s : List UInt8) (p : Int) : 0 ≤ (varsF s 3 p []).2 → ∃ x y z, (varsF s 3 p []).1 = [x, y, z] ∧ (0 ≤ x ∧ x ≤ 562949953421311) ∧ (0 ≤ y ∧ y ≤ 562949953421311) ∧ (0 ≤ z ∧ z ≤ 562949953421311) := by
  intro h
  have h1 := (varsF_len s 3 p []).1 h
  have h2 := varsF_num s 3 p [] (fun x hx => by simp at hx)
  match hl : (varsF s 3 p []).1, h1, h2 with
  | [x, y, z], _, h2 => exact ⟨x, y, z, rfl, h2 x (by simp), h2 y (by simp), h2 z (by simp)⟩
def entG (s : List UInt8) (es : List EntL) (p : Int) : Option (List EntL × Int) :=
  if (varsF s 1 (takeP s (varsF s 1 p []).2).2 []).2 < 0 then none
  else some (es ++ [⟨hashF (nmOf (takeP s (varsF s 1 p []).2).1), (varsF s 1 p []).1.getD 0 0, nmOf (takeP s (varsF s 1 p []).2).1, (varsF s 1 (takeP s (varsF s 1 p []).2).2 []).1.getD 0 0⟩], (varsF s 1 (takeP s (varsF s 1 p []).2).2 []).2)
def entsG (s : List UInt8) (p : Int) : Nat → Option (List EntL × Int)
  | 0 => some ([], p)
  | k + 1 => match entsG s p k with
    | none => none
    | some r => entG s r.1 r.2
def hdG (s : List UInt8) := varsF s 3 1 []
def tkG (s : List UInt8) := takeP s (hdG s).2
def cnG (s : List UInt8) := varsF s 1 (tkG s).2 []
def inoG (s : List UInt8) : InoL × Bool :=
  if (cnG s).2 < 0 ∨ 12 < (cnG s).1.getD 0 0 then (zIno, false)
  else match entsG s (cnG s).2 ((cnG s).1.getD 0 0).toNat with
    | none => (zIno, false)
    | some r => (⟨(hdG s).1.getD 0 0, (hdG s).1.getD 1 0, (hdG s).1.getD 2 0, nmOf (tkG s).1, r.1⟩, decide (r.2 = (s.length : Int)))
theorem varsI_hit (pre r : List UInt8) (q : Int) (hq : 0 ≤ q ∧ q ≤ 562949953421311) (m : Nat) (out : List Int) :
    varsF (pre ++ (varV q ++ r)) (m + 1) (pre.length : Int) out = varsF (pre ++ varV q ++ r) m ((pre ++ varV q).length : Int) (out ++ [q]) := by
  obtain ⟨k, rfl⟩ := Int.eq_ofNat_of_zero_le hq.1
  exact varsF_hit pre r k (by omega) m out
theorem varsI1_hit (pre r : List UInt8) (q : Int) (hq : 0 ≤ q ∧ q ≤ 562949953421311) : varsF (pre ++ (varV q ++ r)) 1 (pre.length : Int) [] = ([q], ((pre ++ varV q).length : Int)) := by
  rw [varsI_hit pre r q hq 0 []]
  rfl
theorem entG_hit (pre r : List UInt8) (e : EntL) (he : EntR e) (es : List EntL) : entG (pre ++ (entL e ++ r)) es (pre.length : Int) = some (es ++ [e], ((pre ++ entL e).length : Int)) := by
  obtain ⟨h1, h2, h3, h4⟩ := he
  have e1 : pre ++ (entL e ++ r) = pre ++ (varV e.index ++ (pieceL e.name ++ (varV e.id ++ r))) := by unfold entL; simp only [List.append_assoc]
  have e2 : pre ++ (varV e.index ++ (pieceL e.name ++ (varV e.id ++ r))) = (pre ++ varV e.index) ++ (pieceL e.name ++ (varV e.id ++ r)) := by simp only [List.append_assoc]
  have e3 : pre ++ (varV e.index ++ (pieceL e.name ++ (varV e.id ++ r))) = (pre ++ varV e.index ++ pieceL e.name) ++ (varV e.id ++ r) := by simp only [List.append_assoc]
  have f1 : varsF (pre ++ (entL e ++ r)) 1 (pre.length : Int) [] = ([e.index], ((pre ++ varV e.index).length : Int)) := by rw [e1]; exact varsI1_hit pre _ e.index h1
  have f2 : takeP (pre ++ (entL e ++ r)) ((pre ++ varV e.index).length : Int) = (e.name.data.toList, ((pre ++ varV e.index ++ pieceL e.name).length : Int)) := by rw [e1, e2]; exact takeP_hit (pre ++ varV e.index) _ e.name h2
  have f3 : varsF (pre ++ (entL e ++ r)) 1 ((pre ++ varV e.index ++ pieceL e.name).length : Int) [] = ([e.id], ((pre ++ varV e.index ++ pieceL e.name ++ varV e.id).length : Int)) := by rw [e1, e3]; exact varsI1_hit (pre ++ varV e.index ++ pieceL e.name) _ e.id h3
  unfold entG
  rw [f1]
  simp only
  rw [f2]
  simp only
  rw [f3]
  simp only
  rw [if_neg (by omega)]
  simp only [List.getD_cons_zero, nmOf_self, h4]
  unfold entL
  simp only [List.append_assoc]
theorem entsG_hit (pre : List UInt8) (l : List EntL) (hl : ∀ e ∈ l, EntR e) : ∀ k, k ≤ l.length → entsG (pre ++ l.flatMap entL) (pre.length : Int) k = some (l.take k, ((pre ++ (l.take k).flatMap entL).length : Int)) := by
  intro k
  induction k with
  | zero => intro _; simp [entsG]
  | succ k ih =>
    intro hk
    have hk' : k < l.length := by omega
    have e1 : pre ++ l.flatMap entL = (pre ++ (l.take k).flatMap entL) ++ (entL l[k] ++ (l.drop (k + 1)).flatMap entL) := by
      have : l.flatMap entL = (l.take k).flatMap entL ++ (entL l[k] ++ (l.drop (k + 1)).flatMap entL) := by
        conv => lhs; rw [← List.take_append_drop k l, List.drop_eq_getElem_cons hk']
        rw [List.flatMap_append, List.flatMap_cons]
      rw [this, List.append_assoc]
    rw [entsG, ih (by omega)]
    simp only
    rw [e1, entG_hit _ _ _ (hl _ (List.getElem_mem hk')), List.take_succ_eq_append_getElem hk', List.flatMap_append]
    simp
theorem inoG_in (x : InoL) (h : InoR x) : inoG (inL x) = (x, true) := by
  obtain ⟨h1, h2, h3, h4, h5, h6⟩ := h
  have e0 : inL x = [105] ++ (varV x.id ++ (varV x.kind ++ (varV x.links ++ (pieceL x.data ++ (varV (x.ents.length : Int) ++ x.ents.flatMap entL))))) := rfl
  have eh : hdG (inL x) = ([x.id, x.kind, x.links], (([105] ++ varV x.id ++ varV x.kind ++ varV x.links).length : Int)) := by
    unfold hdG
    rw [e0]
    have := varsI_hit [105] (varV x.kind ++ (varV x.links ++ (pieceL x.data ++ (varV (x.ents.length : Int) ++ x.ents.flatMap entL)))) x.id h1 2 []
    rw [show (([105] : List UInt8).length : Int) = 1 from rfl] at this
    rw [this, varsI_hit ([105] ++ varV x.id) _ x.kind h2 1, varsI_hit ([105] ++ varV x.id ++ varV x.kind) _ x.links h3 0]
    rfl
  have et : tkG (inL x) = (x.data.data.toList, (([105] ++ varV x.id ++ varV x.kind ++ varV x.links ++ pieceL x.data).length : Int)) := by
    unfold tkG
    rw [eh]
    simp only
    have e : inL x = ([105] ++ varV x.id ++ varV x.kind ++ varV x.links) ++ (pieceL x.data ++ (varV (x.ents.length : Int) ++ x.ents.flatMap entL)) := by rw [e0]; simp only [List.append_assoc]
    rw [e]
    exact takeP_hit _ _ x.data h4
  have ec : cnG (inL x) = ([(x.ents.length : Int)], (([105] ++ varV x.id ++ varV x.kind ++ varV x.links ++ pieceL x.data ++ varV (x.ents.length : Int)).length : Int)) := by
    unfold cnG
    rw [et]
    simp only
    have e : inL x = ([105] ++ varV x.id ++ varV x.kind ++ varV x.links ++ pieceL x.data) ++ (varV (x.ents.length : Int) ++ x.ents.flatMap entL) := by rw [e0]; simp only [List.append_assoc]
    rw [e]
    exact varsI1_hit _ _ (x.ents.length : Int) ⟨by omega, by omega⟩
  have ee : entsG (inL x) (([105] ++ varV x.id ++ varV x.kind ++ varV x.links ++ pieceL x.data ++ varV (x.ents.length : Int)).length : Int) x.ents.length = some (x.ents, ((inL x).length : Int)) := by
    have e : inL x = ([105] ++ varV x.id ++ varV x.kind ++ varV x.links ++ pieceL x.data ++ varV (x.ents.length : Int)) ++ x.ents.flatMap entL := by rw [e0]; simp only [List.append_assoc]
    rw [e, entsG_hit _ x.ents h6 x.ents.length (Nat.le_refl _), List.take_length]
  unfold inoG
  rw [ec]
  simp only [List.getD_cons_zero, Int.toNat_natCast]
  rw [if_neg (by omega), ee, eh, et]
  simp [nmOf_self]
def inosG (t : List ByteArray) : Nat → Option (List InoL)
  | 0 => some []
  | k + 1 => match inosG t k with
    | none => none
    | some l => if (inoG (t.getD (k + 1) ByteArray.empty).data.toList).2 = true then some (l ++ [(inoG (t.getD (k + 1) ByteArray.empty).data.toList).1]) else none
def hG (t : List ByteArray) := varsF (t.getD 0 ByteArray.empty).data.toList 2 1 []
def parseG (t : List ByteArray) : Option (Int × List InoL) :=
  if t.length = 17 then if (hG t).2 < 0 ∨ 16 < (hG t).1.getD 1 0 then none else match inosG t ((hG t).1.getD 1 0).toNat with
    | none => none
    | some l => some ((hG t).1.getD 0 0, l)
  else none
set_option maxRecDepth 1000000 in
set_option maxHeartbeats 6000000 in
theorem parseG_yes {next : Int} {l : List InoL} (h : volB next l = true) : parseG (blkF next l) = some (next, l) := by
  obtain ⟨h1, h2, h3⟩ := volB_parts h
  have hR := volB_R h
  have e0 : ((blkF next l).getD 0 ByteArray.empty).data.toList = [117] ++ (varV next ++ (varV (l.length : Int) ++ [])) := by
    show (uB next l).data.toList = _
    unfold uB
    simp only [ba_app, List.append_assoc, List.append_nil]
  have ex : hG (blkF next l) = ([next, (l.length : Int)], (([117] ++ varV next ++ varV (l.length : Int)).length : Int)) := by
    unfold hG
    rw [e0]
    have := varsI_hit [117] (varV (l.length : Int) ++ []) next ⟨by omega, by omega⟩ 1 []
    rw [show (([117] : List UInt8).length : Int) = 1 from rfl] at this
    rw [this, varsI_hit ([117] ++ varV next) _ (l.length : Int) ⟨by omega, by omega⟩ 0]
    rfl
  have ei : ∀ k, k ≤ l.length → inosG (blkF next l) k = some (l.take k) := by
    intro k
    induction k with
    | zero => intro _; simp [inosG]
    | succ k ih =>
      intro hk
      have hk' : k < l.length := by omega
      have eb : ((blkF next l).getD (k + 1) ByteArray.empty).data.toList = inL l[k] := by
        have : (blkF next l).getD (k + 1) ByteArray.empty = blkAt l k := by
          rw [List.getD_eq_getElem?_getD, List.getElem?_eq_getElem (by rw [blkF_len]; omega)]
          simp [blkF]
        rw [this, blkAt_in l k hk', inB_data]
      rw [inosG, ih (by omega)]
      simp only
      rw [eb, inoG_in _ (hR _ (List.getElem_mem hk'))]
      simp only [if_true]
      rw [List.take_succ_eq_append_getElem hk']
  unfold parseG
  rw [if_pos (blkF_len next l), ex]
  simp only [List.getD_cons_zero, List.getD_cons_succ, Int.toNat_natCast]
  rw [if_neg (by omega), ei l.length (Nat.le_refl _), List.take_length]
theorem readG_none {t : List ByteArray} (h : parseG t = none) : readV t = (0, [], false) := by
  apply readV_no
  cases e : (readV t).2.2 with
  | false => rfl
  | true =>
    obtain ⟨h1, h2⟩ := (readV_iff t (readV t).1 (readV t).2.1).1 (by rw [← e])
    rw [← h2, parseG_yes h1] at h
    cases h
theorem readG_miss {t : List ByteArray} {next : Int} {l : List InoL} (hp : parseG t = some (next, l)) (h : ¬ (volB next l = true ∧ blkF next l = t)) : readV t = (0, [], false) := by
  apply readV_no
  cases e : (readV t).2.2 with
  | false => rfl
  | true =>
    obtain ⟨h1, h2⟩ := (readV_iff t (readV t).1 (readV t).2.1).1 (by rw [← e])
    have h3 := hp
    rw [← h2, parseG_yes h1] at h3
    simp only [Option.some.injEq, Prod.mk.injEq] at h3
    rw [h3.1, h3.2] at h1 h2
    exact absurd ⟨h1, h2⟩ h
/-- What is read is small. -/
theorem entsG_ok {s : List UInt8} {p : Int} {k : Nat} {r : List EntL × Int} (h : entsG s p k = some r) : r.1.length = k ∧ ∀ e ∈ r.1, e.name.size ≤ s.length := by
  induction k generalizing r with
  | zero => rw [entsG] at h; cases h; simp
  | succ k ih =>
    rw [entsG] at h
    split at h
    · cases h
    · rename_i r0 hr0
      obtain ⟨h1, h2⟩ := ih hr0
      unfold entG at h
      split at h
      · cases h
      · cases h
        refine ⟨by rw [List.length_append, h1]; rfl, fun e he => ?_⟩
        rcases List.mem_append.1 he with he | he
        · exact h2 e he
        · rw [List.mem_singleton] at he
          subst he
          show (nmOf _).size ≤ _
          unfold nmOf
          exact Nat.le_trans (Nat.le_of_eq List.size_toArray) (takeQ_len s _)
theorem inoG_small (s : List UInt8) : (∀ e ∈ (inoG s).1.ents, e.name.size ≤ s.length) ∧ (inoG s).1.ents.length ≤ 12 := by
  unfold inoG
  split
  · simp [zIno]
  · rename_i hc
    split
    · simp [zIno]
    · rename_i r hr
      obtain ⟨h1, h2⟩ := entsG_ok hr
      exact ⟨h2, by show r.1.length ≤ 12; omega⟩
theorem inosG_ok {t : List ByteArray} {k : Nat} {l : List InoL} (hs : ∀ s ∈ t, s.size ≤ 1048576) (h : inosG t k = some l) : l.length = k ∧ (∀ x ∈ l, x.ents.length ≤ 12) ∧ (∀ x ∈ l, ∀ e ∈ x.ents, e.name.size ≤ 1048576) := by
  induction k generalizing l with
  | zero => rw [inosG] at h; cases h; simp
  | succ k ih =>
    rw [inosG] at h
    split at h
    · cases h
    · rename_i l0 hl0
      obtain ⟨h1, h2, h3⟩ := ih hl0
      split at h
      · cases h
        have hsz : (t.getD (k + 1) ByteArray.empty).size ≤ 1048576 := by
          rw [List.getD_eq_getElem?_getD]
          cases hq : t[k + 1]? with
          | none => decide
          | some s => exact hs s (List.mem_of_getElem? hq)
        have hr := inoG_small (t.getD (k + 1) ByteArray.empty).data.toList
        rw [data_len] at hr
        refine ⟨by rw [List.length_append, h1]; rfl, fun x hx => ?_, fun x hx => ?_⟩
        · rcases List.mem_append.1 hx with hx | hx
          · exact h2 x hx
          · rw [List.mem_singleton] at hx; subst hx; exact hr.2
        · rcases List.mem_append.1 hx with hx | hx
          · exact h3 x hx
          · rw [List.mem_singleton] at hx; subst hx; exact fun e he => Nat.le_trans (hr.1 e he) hsz
      · cases h
theorem inosG_bad {t : List ByteArray} {k : Nat} (h : inosG t k = none) : ∀ n, k ≤ n → inosG t n = none := by
  intro n hn
  induction n with
  | zero => have : k = 0 := by omega
            subst this; exact h
  | succ n ih =>
    by_cases e : k = n + 1
    · subst e; exact h
    · rw [inosG, ih (by omega)]
theorem inosG_step {t : List ByteArray} {k : Nat} {l : List InoL} (h : inosG t k = some l) : inosG t (k + 1) = if (inoG (t.getD (k + 1) ByteArray.empty).data.toList).2 = true then some (l ++ [(inoG (t.getD (k + 1) ByteArray.empty).data.toList).1]) else none := by rw [inosG, h]
theorem entsG_bad {s : List UInt8} {p : Int} {k : Nat} (h : entsG s p k = none) : ∀ n, k ≤ n → entsG s p n = none := by
  intro n hn
  induction n with
  | zero => have : k = 0 := by omega
            subst this; exact h
  | succ n ih =>
    by_cases e : k = n + 1
    · subst e; exact h
    · rw [entsG, ih (by omega)]
theorem entsG_step {s : List UInt8} {p : Int} {k : Nat} {es : List EntL} {q : Int} (h : entsG s p k = some (es, q)) : entsG s p (k + 1) = entG s es q := by rw [entsG, h]
end Go.Proofs.YtlkfabkkjfmnmaaGreatDoor
