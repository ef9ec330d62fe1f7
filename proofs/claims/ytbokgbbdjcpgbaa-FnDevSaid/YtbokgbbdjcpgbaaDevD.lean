/- A device that is drawn. (Printed by gen_dev.py.) -/
import Derived.Test.YtbokgbbdjcpgbaaPutS
import Derived.Test.YtbokgbbdjcpgbaaWrD
import Derived.Test.YtbokgbbdjcpgbaaNewDev
import Derived.Deep.DeepCutAuto
namespace Go.Proofs.Ytbokgbbdjcpgbaa
open Go.RowKit

/-- A device under way: its box X (k of its blocks), the result's, the cursor. -/
structure DvS (a : Option Addr) (n cap : Nat) (bs : List Int) (g : Nat) (w0 : World) (X k : Nat) (p : Option Addr) (c : Nat) (q : Option Addr) (d : Nat) (ss : List ByteArray) (us : List (Int × ByteArray)) (s : CS) (wr : World) : Prop where
  cu : CurAt a n cap bs g s wr
  gr : w0.grownBy wr (some g)
  gl : g < w0.heap.size
  rs : Two wr w0.heap.size (.slice none 0 0) (.slice none 0 0)
  tx : Two wr X (.slice p k c) (.slice q us.length d)
  xl : w0.heap.size < X
  op : Own 9 1 (w0.heap.size + 1) wr (.slice p 18 c) 18 (strs ss) wr
  oq : Own 53 2 (w0.heap.size + 1) wr (.slice q us.length d) us.length (wrs us) wr
  np : ∀ j, (Value.slice p 18 c).ownBlock = some j → j ≠ X
  nq : ∀ j, (Value.slice q us.length d).ownBlock = some j → j ≠ X
theorem DvS.step {a : Option Addr} {n cap : Nat} {bs : List Int} {g : Nat} {w0 : World} {X k : Nat} {p : Option Addr} {c : Nat} {q : Option Addr} {d : Nat} {ss : List ByteArray} {us : List (Int × ByteArray)} {s : CS} {wr : World} {s' : CS} {w' : World} (h : DvS a n cap bs g w0 X k p c q d ss us s wr) (hC : CurAt a n cap bs g s' w') (hG : wr.grownBy w' (some g)) : DvS a n cap bs g w0 X k p c q d ss us s' w' := by
  have gl := h.gl
  have xl := h.xl
  exact ⟨hC, h.gr.trans hG, gl, h.rs.grown hG (fun e => by have := Option.some.inj e; omega), h.tx.grown hG (fun e => by have := Option.some.inj e; omega), xl,
    h.op.otherLow hG (fun j hj e => by have := (h.op.blk j hj).1; have := Option.some.inj e; omega), h.oq.otherLow hG (fun j hj e => by have := (h.oq.blk j hj).1; have := Option.some.inj e; omega), h.np, h.nq⟩
theorem DvS.low {a : Option Addr} {n cap : Nat} {bs : List Int} {g : Nat} {w0 : World} {X k : Nat} {p : Option Addr} {c : Nat} {q : Option Addr} {d : Nat} {ss : List ByteArray} {us : List (Int × ByteArray)} {s : CS} {wr : World} {w' : World} (h : DvS a n cap bs g w0 X k p c q d ss us s wr) (hb : Below wr.heap.size wr w') : DvS a n cap bs g w0 X k p c q d ss us s w' := h.step (h.cu.kept hb) (grown_of_below _ hb)
theorem DvS.alloc {a : Option Addr} {n cap : Nat} {bs : List Int} {g : Nat} {w0 : World} {X k : Nat} {p : Option Addr} {c : Nat} {q : Option Addr} {d : Nat} {ss : List ByteArray} {us : List (Int × ByteArray)} {s : CS} {wr : World} (h : DvS a n cap bs g w0 X k p c q d ss us s wr) (o : Obj) : DvS a n cap bs g w0 X k p c q d ss us s (wr.alloc o) := h.low (box_alloc wr o)
theorem DvS.drew {a : Option Addr} {n cap : Nat} {bs : List Int} {g : Nat} {w0 : World} {X k : Nat} {p : Option Addr} {c : Nat} {q : Option Addr} {d : Nat} {ss : List ByteArray} {us : List (Int × ByteArray)} {s : CS} {wr : World} (h : DvS a n cap bs g w0 X k p c q d ss us s wr) : DvS a n cap bs g w0 X k p c q d ss us s wr.drew := h.low (Below.refl _ _).drew
theorem DvS.own {a : Option Addr} {n cap : Nat} {bs : List Int} {g : Nat} {w0 : World} {X k : Nat} {p : Option Addr} {c : Nat} {q : Option Addr} {d : Nat} {ss : List ByteArray} {us : List (Int × ByteArray)} {s : CS} {wr : World} (h : DvS a n cap bs g w0 X k p c q d ss us s wr) (hs : ss.length = 18) : DevOwn (w0.heap.size + 1) wr (dvV p 18 c q us.length d) ss us := by
  refine ⟨p, c, q, d, by rw [hs], ?_, h.oq, ?_⟩
  · rw [hs]; exact h.op
  · rw [hs]; exact own_apart h.op h.oq (by decide)
/-- Both cells are written anew. -/
theorem dvs_set {a : Option Addr} {n cap : Nat} {bs : List Int} {g : Nat} {w0 : World} {X : Nat} {p : Option Addr} {c : Nat} {q : Option Addr} {d : Nat} {ss : List ByteArray} {us : List (Int × ByteArray)} {s : CS} {wr : World} {u v : Value}
    (cu : CurAt a n cap bs g s wr) (gr : w0.grownBy wr (some g)) (gl : g < w0.heap.size) (rs : Two wr w0.heap.size (.slice none 0 0) (.slice none 0 0)) (tx : Two wr X u v) (xl : w0.heap.size < X)
    (op : Own 9 1 (w0.heap.size + 1) wr (.slice p 18 c) 18 (strs ss) wr) (oq : Own 53 2 (w0.heap.size + 1) wr (.slice q us.length d) us.length (wrs us) wr) (np : ∀ j, (Value.slice p 18 c).ownBlock = some j → j ≠ X) (nq : ∀ j, (Value.slice q us.length d).ownBlock = some j → j ≠ X) :
    DvS a n cap bs g w0 X 18 p c q d ss us s ((wr.setCell ⟨X, 0, none⟩ (.slice p 18 c)).setCell ⟨X, 1, none⟩ (.slice q us.length d)) := by
  have hG := (scan_set wr X 0 (.slice p 18 c)).trans (scan_set _ X 1 (.slice q us.length d))
  exact ⟨cu.grown hG (fun j hj => by have := Option.some.inj hj; omega), grown_trans gr hG (fun j hj => by have := Option.some.inj hj; exact .inr (by omega)), gl, (rs.far (by omega)).far (by omega), (tx.set00 _).set1 _, xl,
    op.otherLow hG (fun j hj e => np j hj (Option.some.inj e).symm), oq.otherLow hG (fun j hj e => nq j hj (Option.some.inj e).symm), np, nq⟩
theorem DvS.done {a : Option Addr} {n cap : Nat} {bs : List Int} {g : Nat} {w0 : World} {X k : Nat} {p : Option Addr} {c : Nat} {q : Option Addr} {d : Nat} {ss : List ByteArray} {us : List (Int × ByteArray)} {s : CS} {wr : World} {w' : World} {b : Nat} {ss' : List ByteArray} (h : DvS a n cap bs g w0 X k p c q d ss us s wr) (hs' : ss'.length = 18) (hD : DevOwn (w0.heap.size + 1) w' (dvV p 18 c (some ⟨b, 0, none⟩) 0 0) ss' []) (hb : wr.heap.size ≤ b) (hG : wr.grownBy w' (Value.slice p 18 c).ownBlock) :
    DvS a n cap bs g w0 X 18 p c (some ⟨b, 0, none⟩) 0 ss' [] s ((w'.setCell ⟨X, 0, none⟩ (.slice p 18 c)).setCell ⟨X, 1, none⟩ (.slice (some ⟨b, 0, none⟩) 0 0)) := by
  have gl := h.gl
  have xl := h.xl
  have hXl := h.tx.lt
  obtain ⟨a', c', b', d', he, h1, h2, h3⟩ := hD.ex
  rw [hs'] at he h1
  simp only [dvV, Value.agg.injEq, Array.mk.injEq, List.cons.injEq, Value.slice.injEq, and_true, true_and] at he
  obtain ⟨⟨rfl, rfl⟩, rfl, _, rfl⟩ := he
  exact dvs_set (h.cu.grown hG (fun j hj => by have := (h.op.blk j hj).1; omega)) (grown_trans h.gr hG (fun j hj => by have := (h.op.blk j hj).1; exact .inr (by omega))) gl (h.rs.grown hG (fun e => by have := (h.op.blk _ e).1; omega)) (h.tx.grown hG (fun e => h.np _ e rfl)) xl h1 h2 h.np
    (fun j hj => by simp [Value.ownBlock] at hj; omega)
theorem DvS.news {a : Option Addr} {n cap : Nat} {bs : List Int} {g : Nat} {w0 : World} {X k : Nat} {p : Option Addr} {c : Nat} {q : Option Addr} {d : Nat} {ss : List ByteArray} {us : List (Int × ByteArray)} {s : CS} {wr : World} {w' : World} {p' : Option Addr} {c' : Nat} {q' : Option Addr} {d' : Nat} {ss' : List ByteArray} {us' : List (Int × ByteArray)} (h : DvS a n cap bs g w0 X k p c q d ss us s wr) (hb : Below wr.heap.size wr w') (h1 : Own 9 1 wr.heap.size w' (.slice p' 18 c') 18 (strs ss') w') (h2 : Own 53 2 wr.heap.size w' (.slice q' us'.length d') us'.length (wrs us') w') :
    DvS a n cap bs g w0 X 18 p' c' q' d' ss' us' s ((w'.setCell ⟨X, 0, none⟩ (.slice p' 18 c')).setCell ⟨X, 1, none⟩ (.slice q' us'.length d')) := by
  have gl := h.gl
  have xl := h.xl
  have hXl := h.tx.lt
  have hg := h.gr.size
  have hL := h.low hb
  refine dvs_set hL.cu hL.gr gl hL.rs hL.tx xl ⟨row_mono1 h1.row (by omega), Below.refl _ _, by have := h1.base; omega⟩ ⟨row_mono1 h2.row (by omega), Below.refl _ _, by have := h2.base; omega⟩ (fun j hj => ?_) (fun j hj => ?_)
  · have := (h1.blk j hj).1; omega
  · have := (h2.blk j hj).1; omega
theorem DvS.cut {a : Option Addr} {n cap : Nat} {bs : List Int} {g : Nat} {w0 : World} {X k : Nat} {p : Option Addr} {c : Nat} {q : Option Addr} {d : Nat} {ss : List ByteArray} {us : List (Int × ByteArray)} {s : CS} {wr : World} (h : DvS a n cap bs g w0 X k p c q d ss us s wr) (k' : Nat) : DvS a n cap bs g w0 X k' p c q d ss us s (wr.setCell ⟨X, 0, none⟩ (.slice p k' c)) := by
  have gl := h.gl
  have xl := h.xl
  have hG := scan_set wr X 0 (.slice p k' c)
  exact ⟨h.cu.grown hG (fun j hj => by have := Option.some.inj hj; omega), grown_trans h.gr hG (fun j hj => by have := Option.some.inj hj; exact .inr (by omega)), gl, h.rs.far (by omega), h.tx.set00 _, xl,
    h.op.otherLow hG (fun j hj e => h.np j hj (Option.some.inj e).symm), h.oq.otherLow hG (fun j hj e => h.nq j hj (Option.some.inj e).symm), h.np, h.nq⟩
theorem own_neD {w : World} {v v' : Value} {T : Nat} (h : v'.ownBlock = v.ownBlock ∨ ∃ k, v'.ownBlock = some k ∧ w.heap.size ≤ k) (hn : ∀ k, v.ownBlock = some k → k ≠ T) (hT : T < w.heap.size) : ∀ k, v'.ownBlock = some k → k ≠ T := by
  intro k hk
  rcases h with h | ⟨k', h, hle⟩
  · exact hn k (h ▸ hk)
  · rw [hk] at h; have := Option.some.inj h; omega
theorem DvS.app {a : Option Addr} {n cap : Nat} {bs : List Int} {g : Nat} {w0 : World} {X k : Nat} {p : Option Addr} {c : Nat} {q : Option Addr} {d : Nat} {ss : List ByteArray} {us : List (Int × ByteArray)} {s : CS} {wr : World} {w' : World} {q' : Option Addr} {d' : Nat} {us' : List (Int × ByteArray)} {B : Nat} {W0 : World} (h : DvS a n cap bs g w0 X k p c q d ss us s wr) (hl : us'.length = us.length + 1) (hO : Own 53 2 B W0 (.slice q' (us.length + 1) d') (us.length + 1) (wrs us') w') (hB : B = w0.heap.size + 1) (hG : wr.grownBy w' (Value.slice q us.length d).ownBlock) (hN : (Value.slice q' (us.length + 1) d').ownBlock = (Value.slice q us.length d).ownBlock ∨ ∃ k, (Value.slice q' (us.length + 1) d').ownBlock = some k ∧ wr.heap.size ≤ k) :
    (Two w' X (.slice p k c) (.slice q us.length d) ∧ Two w' w0.heap.size (.slice none 0 0) (.slice none 0 0)) ∧ DvS a n cap bs g w0 X k p c q' d' ss us' s (w'.setCell ⟨X, 1, none⟩ (.slice q' (us.length + 1) d')) := by
  subst hB
  have gl := h.gl
  have xl := h.xl
  have hXl := h.tx.lt
  have hnq := own_neD hN h.nq hXl
  have htx := h.tx.grown hG (fun e => h.nq _ e rfl)
  have hG2 := scan_set w' X 1 (.slice q' (us.length + 1) d')
  have hop := h.op.otherLow hG (fun j hj e => own_apart h.op h.oq (by decide) j e hj)
  have hoq : Own 53 2 (w0.heap.size + 1) w' (.slice q' (us.length + 1) d') (us.length + 1) (wrs us') w' := ⟨hO.row, Below.refl _ _, Nat.le_trans h.oq.base hG.size⟩
  have hoq2 := hoq.otherLow hG2 (fun j hj e => hnq j hj (Option.some.inj e).symm)
  refine ⟨⟨htx, h.rs.grown hG (fun e => by have := (h.oq.blk _ e).1; omega)⟩, (h.cu.grown hG (fun j hj => by have := (h.oq.blk j hj).1; omega)).grown hG2 (fun j hj => by have := Option.some.inj hj; omega), grown_trans (grown_trans h.gr hG (fun j hj => by have := (h.oq.blk j hj).1; exact .inr (by omega))) hG2 (fun j hj => by have := Option.some.inj hj; exact .inr (by omega)), gl, (h.rs.grown hG (fun e => by have := (h.oq.blk _ e).1; omega)).far (by omega), ?_, xl,
    hop.otherLow hG2 (fun j hj e => h.np j hj (Option.some.inj e).symm), ?_, h.np, ?_⟩
  · rw [hl]; exact htx.set1 _
  · rw [hl]; exact hoq2
  · rw [hl]; exact hnq
theorem rd_cut {w : World} {p : Option Addr} {c : Nat} {ss : List ByteArray} (h : Rd w p 18 c 1 (strs ss)) (hs : ss.length = 18) (k : Nat) (hk : k ≤ 18) : Rd w p (ss.take k).length c 1 (strs (ss.take k)) := by
  have hl : (ss.take k).length = k := by rw [List.length_take]; omega
  have hle := h.le
  refine ⟨by simp, by rw [hl]; omega, h.max, h.nil, fun h0 => ?_⟩
  obtain ⟨b, off, e, hlt, hc⟩ := h.at' (by omega)
  refine ⟨b, off, e, hlt, fun j hj => ?_⟩
  have hj2 : j < k := by have := hj; simp at this; omega
  rw [hc j (by simp; omega)]
  congr 1
  simp [strs_eq]
def DrewDev (a : Option Addr) (n cap : Nat) (bs : List Int) (g : Nat) (w : World) (e : Ending) (w' : World) : Prop :=
  ∃ (v : Value) (ss : List ByteArray) (us : List (Int × ByteArray)), e = .returned v ∧ (∀ W, w'.heap.size ≤ W.heap.size → (∀ q, w.heap.size ≤ q → q < w'.heap.size → W.heap[q]? = w'.heap[q]?) → DevRd W v ss us) ∧ w.grownBy w' (some g)
theorem DvS.ret {a : Option Addr} {n cap : Nat} {bs : List Int} {g : Nat} {w0 : World} {X k : Nat} {p : Option Addr} {c : Nat} {q : Option Addr} {d : Nat} {ss : List ByteArray} {us : List (Int × ByteArray)} {s : CS} {wr : World} (h : DvS a n cap bs g w0 X k p c q d ss us s wr) (hs : ss.length = 18) (hk : k ≤ 18) : DrewDev a n cap bs g w0 (.returned (.agg #[.slice p k c, .slice q us.length d])) ((wr.setCell ⟨w0.heap.size, 0, none⟩ (.slice p k c)).setCell ⟨w0.heap.size, 1, none⟩ (.slice q us.length d)) := by
  have gl := h.gl
  have hG := (scan_set wr w0.heap.size 0 (.slice p k c)).trans (scan_set _ w0.heap.size 1 (.slice q us.length d))
  have hop := h.op.otherLow hG (fun j hj e => by have := (h.op.blk j hj).1; have := Option.some.inj e; omega)
  have hoq := h.oq.otherLow hG (fun j hj e => by have := (h.oq.blk j hj).1; have := Option.some.inj e; omega)
  have hl : (ss.take k).length = k := by rw [List.length_take]; omega
  exact ⟨_, ss.take k, us, rfl, (fun W hW hb => ⟨p, c, q, d, by rw [hl]; rfl, rd_cut (hop.far hW (fun j hj => hb j (by have := (hop.blk j hj).1; omega) (hop.blk j hj).2)).rd hs k hk, (hoq.far hW (fun j hj => hb j (by have := (hoq.blk j hj).1; omega) (hoq.blk j hj).2)).rd⟩), grown_trans h.gr hG (fun j hj => by have := Option.some.inj hj; exact .inr (by omega))⟩
theorem doneN_ok (tk : Nat → Bool) (ss : List ByteArray) (us : List (Int × ByteArray)) (h : devOkB ss us = true) : ∀ j, j ≤ us.length → devOkB (doneN tk ss us j) [] = true := by
  unfold devOkB at h
  simp only [Bool.and_eq_true, decide_eq_true_eq, List.all_eq_true] at h
  intro j
  induction j with
  | zero =>
    intro _
    show devOkB ss [] = true
    unfold devOkB
    simp only [List.length_nil, List.all_nil, Bool.and_true, Bool.and_eq_true, decide_eq_true_eq, List.all_eq_true]
    exact ⟨⟨h.1.1.1, by omega⟩, h.1.2⟩
  | succ j ih =>
    intro hj
    have h1 := ih (by omega)
    cases e : tk j with
    | false => rw [doneN_no tk ss us j e]; exact h1
    | true =>
      rw [doneN_yes tk ss us j (by omega) e]
      unfold devOkB at h1 ⊢
      simp only [List.length_nil, List.all_nil, Bool.and_true, Bool.and_eq_true, decide_eq_true_eq, List.all_eq_true, List.length_set] at h1 ⊢
      refine ⟨h1.1, fun x hx => ?_⟩
      rcases List.mem_or_eq_of_mem_set hx with hx | rfl
      · exact h1.2 x hx
      · have := h.2 us[j] (List.getElem_mem (by omega))
        unfold wrOk at this
        simp only [decide_eq_true_eq] at this
        unfold txOk
        simp only [decide_eq_true_eq]
        exact this.2.2
theorem emptyS_ok : devOkB emptyS [] = true := by decide
set_option maxRecDepth 1000000 in
set_option maxHeartbeats 6000000 in
theorem l8Dev_any (a : Option Addr) (n cap : Nat) (bs : List Int) (g : Nat) (s : CS) (most : Int) (w : World) (hC : CurAt a n cap bs g s w) (hm0 : 1 ≤ most) (hm : most ≤ 900) :
    Calls Try.prog 80 #[.pointer (some ⟨g, 0, none⟩), .int .i64 most] w (DrewDev a n cap bs g w) := by
  have hg := hC.lt
  have HC0 := Lib.hid (hC.alloc (.cells #[.slice none 0 0, .slice none 0 0] 32))
  have HR0 := Lib.hid (two_new w 32 (.slice none 0 0) (.slice none 0 0))
  have HG0 := Lib.hid (World.grownBy_alloc w (.cells #[.slice none 0 0, .slice none 0 0] 32) (some g))
  have e0 : (w.alloc (.cells #[.slice none 0 0, .slice none 0 0] 32)).heap.size = w.heap.size + 1 := by simp
  have HE0 := Lib.hid e0
  clear hC e0
  go_enter Try.func80, Try.ntmps80
  go_wp2_with fail
  refine (specNewDev_any _).mono ?_
  rintro e w1 ⟨v, rfl, hO, hb⟩
  obtain ⟨p, c, q, d, rfl, hP, hQ, -⟩ := hO.ex
  have hl18 : emptyS.length = 18 := rfl
  have HSS := Lib.hid hl18
  rw [hl18] at hP ⊢
  rw [HE0.out] at hP hQ
  have HOK := Lib.hid emptyS_ok
  have HX1 : Hid (DvS a n cap bs g w w1.heap.size 18 p c q d emptyS [] s (w1.alloc (.cells #[.slice p 18 c, .slice q 0 d] 32))) := Lib.hid (by
    have hrs := HR0.out.grown (grown_of_below none hb) (fun e => by cases e)
    have hbA := box_alloc w1 (.cells #[.slice p 18 c, .slice q 0 d] 32)
    exact ⟨(HC0.out.kept hb).alloc _, (HG0.out.trans (grown_of_below _ hb)).trans (grown_of_below _ hbA), hg, hrs.alloc _, two_new _ _ _ _, hrs.lt, hP.stay hbA, hQ.stay hbA, (fun j hj => by have := (hP.blk j hj).2; omega), (fun j hj => by have := (hQ.blk j hj).2; omega)⟩)
  have hz1 := HX1.out.xl
  clear hO hb hP hQ HR0 HG0 HC0 HE0 hl18
  generalize emptyS = ss0 at *
  unfold dvV
  simp only [List.length_nil]
  go_wp2_with fail
  refine (l1Below_any a n cap bs g _ most _ HX1.out.cu (by omega)).mono ?_
  rintro e w2 ⟨rfl, hC1, hG1⟩
  have hr2 := belowF_range bs most s (by omega)
  have HX2 := Lib.hid (HX1.out.step hC1 hG1)
  clear hC1 hG1 HX1
  generalize (belowF bs most s).2 = s2 at *
  generalize (belowF bs most s).1 = k2 at *
  generalize w1.heap.size = X at *
  obtain ⟨hk0, hk1⟩ := hr2
  obtain ⟨K, rfl⟩ := Int.eq_ofNat_of_zero_le hk0
  clear hk0
  simp only at HX2 ⊢
  go_wp2
  go_loopg [6] K (fun gg i wr => ∃ (sk : CS) (p : Option Addr) (c : Nat) (q : Option Addr) (d : Nat) (ss : List ByteArray) (us : List (Int × ByteArray)), i = .int .i64 (gg : Nat) ∧ gg ≤ K ∧ Hid (DvS a n cap bs g w X 18 p c q d ss us sk wr) ∧ Hid (devOkB ss us = true))
  case atStart => exact ⟨s2, p, c, q, d, ss0, [], rfl, Nat.le_refl _, HX2, HOK⟩
  case round =>
    clear HX2 HOK HSS
    obtain ⟨sk, p, c, q, d, ss, us, rfl, hgk, HX, HOK⟩ := hrel
    have hdl := devOk_len HOK.out
    have HSS := Lib.hid hdl.1
    have hu40 := hdl.2.1
    have HUS := Lib.hid hdl.2.2
    clear hdl
    cases gk with
    | succ gq =>
      have hgq : (0 : Int) < ((gq + 1 : Nat) : Int) := by omega
      go_wp2_with fail
      refine (l1Once_any a n cap bs g sk 6 _ HX.out.cu (by omega)).mono ?_
      rintro e w3 ⟨rfl, hC1, hG1⟩
      have HX3 := Lib.hid (HX.out.step hC1 hG1)
      clear hC1 hG1 HX
      simp only at HX3 ⊢
      generalize (belowF bs 6 sk).2 = s3 at *
      generalize ((belowF bs 6 sk).1 == 0) = t3 at *
      cases t3 with
      | true =>
        go_wp2
        have HXa := Lib.hid HX3.out.drew
        clear HX3
        have x0 := HXa.out.tx.1.1
        have x1 := HXa.out.tx.1.2
        have xl := HXa.out.tx.lt
        refine wp_region_any (by kernel_rfl) ?_
        try (change wpAny _ _ _ _ _ _ _ (World.drew _))
        refine wpAny_take (i := 1) (v := ?_) rfl (by kernel_rfl) (by kernel_rfl) (by kernel_rfl) (fun _ _ _ h => h) (Or.inl ⟨by rfl, ?hy⟩) ?_; (case hy => (intro w; go_simp; try with_reducible rfl))
        refine wpAny_take (i := 3) (v := ?_) rfl (by kernel_rfl) (by kernel_rfl) (by kernel_rfl) (fun _ _ _ h => h) (Or.inl ⟨by rfl, ?hy⟩) ?_; (case hy => (intro w; go_simp; try with_reducible rfl))
        refine wpAny_ready (rs := [0, 2]) (by kernel_rfl) (by simp) ?_
        refine AllReady.cons rfl (fun K2 hK2 => ?_) (AllReady.cons rfl (fun K2 hK2 => ?_) AllReady.nil)
        · go_simp
          refine hK2 _ _ ?_
          clear hK2 K2
          refine wpAny_ready (rs := [2]) (by kernel_rfl) (by simp) ?_
          refine AllReady.cons rfl (fun K2 hK2 => ?_) AllReady.nil
          go_simp
          go_at_call 77
          refine (l1Below_any a n cap bs g _ 99 _ HXa.out.cu (by omega)).mono ?_
          rintro e w4 ⟨rfl, hC4, hG4⟩
          have hr4 := belowF_range bs 99 s3 (by omega)
          have HXb := Lib.hid (HXa.out.step hC4 hG4)
          clear hC4 hG4 HXa x0 x1 xl
          have x0 := HXb.out.tx.1.1
          have x1 := HXb.out.tx.1.2
          have xl := HXb.out.tx.lt
          refine hK2 _ _ ?_
          clear hK2 K2
          generalize (belowF bs 99 s3).2 = s4 at *
          generalize (belowF bs 99 s3).1 = k4 at *
          try simp only at HXb
          refine wpAny_ready (rs := [4]) (by kernel_rfl) (by simp) ?_
          refine AllReady.cons rfl (fun K2 hK2 => ?_) AllReady.nil
          go_simp
          go_at_call 78
          refine (l1Once_any a n cap bs g s4 2 _ HXb.out.cu (by omega)).mono ?_
          rintro e w5 ⟨rfl, hC4, hG4⟩
          have HXc := Lib.hid (HXb.out.step hC4 hG4)
          clear hC4 hG4 HXb x0 x1 xl
          have x0 := HXc.out.tx.1.1
          have x1 := HXc.out.tx.1.2
          have xl := HXc.out.tx.lt
          refine hK2 _ _ ?_
          clear hK2 K2
          generalize (belowF bs 2 s4).2 = s5 at *
          generalize ((belowF bs 2 s4).1 == 0) = t5 at *
          try simp only at HXc
          cases t5 with
          | false =>
            refine wpAny_ready (rs := [5]) (by kernel_rfl) (by simp) ?_
            refine AllReady.cons rfl (fun K2 hK2 => ?_) AllReady.nil
            go_simp
            go_at_call 71
            refine (specDoneM_g p q c d ss us k4 (w.heap.size + 1) _ (HXc.out.own HSS.out) HSS.out HUS.out (by omega) (by omega)).mono ?_
            rintro e w6 ⟨b6, rfl, hb6, hD6, hG6⟩
            have HDL := Lib.hid (doneN_len (tkM k4) ss us us.length)
            have HXd := Lib.hid (HXc.out.done (HDL.out.trans HSS.out) hD6 hb6 hG6)
            have HOK6 := Lib.hid (doneN_ok (tkM k4) ss us HOK.out us.length (Nat.le_refl _))
            have HTX := Lib.hid (HXc.out.tx.grown hG6 (fun e => HXc.out.np _ e rfl))
            clear hD6 hb6 hG6 x0 x1 xl
            generalize doneN (tkM k4) ss us us.length = ss6 at *
            have x0 := HTX.out.1.1
            have x1 := HTX.out.1.2
            have xf0 := HTX.out.2.1
            have xf1 := HTX.out.2.2
            have xl := HTX.out.lt
            refine hK2 _ _ ?_
            clear hK2 K2
            unfold dvV
            refine wpAny_ready (rs := [6]) (by kernel_rfl) (by simp) ?_
            refine AllReady.cons rfl (fun K hK => ?_) AllReady.nil
            go_simp
            refine hK _ _ ?_
            clear hK K
            refine wpAny_done (by kernel_rfl) ?_ _
            clear x0 x1 xf0 xf1 xl HTX HXc HDL
            go_wp2
            go_roundg gq
            case measure => omega
            case rel => exact ⟨s5, p, c, _, _, ss6, [], by go_num, by omega, HXd, HOK6⟩
          | true =>
            refine wpAny_ready (rs := [5]) (by kernel_rfl) (by simp) ?_
            refine AllReady.cons rfl (fun K2 hK2 => ?_) AllReady.nil
            go_simp
            go_at_call 71
            refine (specDoneF_g p q c d ss us k4 (w.heap.size + 1) _ (HXc.out.own HSS.out) HSS.out HUS.out (by omega)).mono ?_
            rintro e w6 ⟨b6, rfl, hb6, hD6, hG6⟩
            have HDL := Lib.hid (doneN_len (fun _ => true) ss us us.length)
            have HXd := Lib.hid (HXc.out.done (HDL.out.trans HSS.out) hD6 hb6 hG6)
            have HOK6 := Lib.hid (doneN_ok (fun _ => true) ss us HOK.out us.length (Nat.le_refl _))
            have HTX := Lib.hid (HXc.out.tx.grown hG6 (fun e => HXc.out.np _ e rfl))
            clear hD6 hb6 hG6 x0 x1 xl
            generalize doneN (fun _ => true) ss us us.length = ss6 at *
            have x0 := HTX.out.1.1
            have x1 := HTX.out.1.2
            have xf0 := HTX.out.2.1
            have xf1 := HTX.out.2.2
            have xl := HTX.out.lt
            refine hK2 _ _ ?_
            clear hK2 K2
            unfold dvV
            refine wpAny_ready (rs := [6]) (by kernel_rfl) (by simp) ?_
            refine AllReady.cons rfl (fun K hK => ?_) AllReady.nil
            go_simp
            refine hK _ _ ?_
            clear hK K
            refine wpAny_done (by kernel_rfl) ?_ _
            clear x0 x1 xf0 xf1 xl HTX HXc HDL
            go_wp2
            go_roundg gq
            case measure => omega
            case rel => exact ⟨s5, p, c, _, _, ss6, [], by go_num, by omega, HXd, HOK6⟩
        · go_simp
          go_at_call 77
          refine (l1Below_any a n cap bs g _ 99 _ HXa.out.cu (by omega)).mono ?_
          rintro e w4 ⟨rfl, hC4, hG4⟩
          have hr4 := belowF_range bs 99 s3 (by omega)
          have HXb := Lib.hid (HXa.out.step hC4 hG4)
          clear hC4 hG4 HXa x0 x1 xl
          have x0 := HXb.out.tx.1.1
          have x1 := HXb.out.tx.1.2
          have xl := HXb.out.tx.lt
          refine hK2 _ _ ?_
          clear hK2 K2
          generalize (belowF bs 99 s3).2 = s4 at *
          generalize (belowF bs 99 s3).1 = k4 at *
          try simp only at HXb
          refine wpAny_ready (rs := [0, 4]) (by kernel_rfl) (by simp) ?_
          refine AllReady.cons rfl (fun K2 hK2 => ?_) (AllReady.cons rfl (fun K2 hK2 => ?_) AllReady.nil)
          · go_simp
            refine hK2 _ _ ?_
            clear hK2 K2
            refine wpAny_ready (rs := [4]) (by kernel_rfl) (by simp) ?_
            refine AllReady.cons rfl (fun K2 hK2 => ?_) AllReady.nil
            go_simp
            go_at_call 78
            refine (l1Once_any a n cap bs g s4 2 _ HXb.out.cu (by omega)).mono ?_
            rintro e w5 ⟨rfl, hC4, hG4⟩
            have HXc := Lib.hid (HXb.out.step hC4 hG4)
            clear hC4 hG4 HXb x0 x1 xl
            have x0 := HXc.out.tx.1.1
            have x1 := HXc.out.tx.1.2
            have xl := HXc.out.tx.lt
            refine hK2 _ _ ?_
            clear hK2 K2
            generalize (belowF bs 2 s4).2 = s5 at *
            generalize ((belowF bs 2 s4).1 == 0) = t5 at *
            try simp only at HXc
            cases t5 with
            | false =>
              refine wpAny_ready (rs := [5]) (by kernel_rfl) (by simp) ?_
              refine AllReady.cons rfl (fun K2 hK2 => ?_) AllReady.nil
              go_simp
              go_at_call 71
              refine (specDoneM_g p q c d ss us k4 (w.heap.size + 1) _ (HXc.out.own HSS.out) HSS.out HUS.out (by omega) (by omega)).mono ?_
              rintro e w6 ⟨b6, rfl, hb6, hD6, hG6⟩
              have HDL := Lib.hid (doneN_len (tkM k4) ss us us.length)
              have HXd := Lib.hid (HXc.out.done (HDL.out.trans HSS.out) hD6 hb6 hG6)
              have HOK6 := Lib.hid (doneN_ok (tkM k4) ss us HOK.out us.length (Nat.le_refl _))
              have HTX := Lib.hid (HXc.out.tx.grown hG6 (fun e => HXc.out.np _ e rfl))
              clear hD6 hb6 hG6 x0 x1 xl
              generalize doneN (tkM k4) ss us us.length = ss6 at *
              have x0 := HTX.out.1.1
              have x1 := HTX.out.1.2
              have xf0 := HTX.out.2.1
              have xf1 := HTX.out.2.2
              have xl := HTX.out.lt
              refine hK2 _ _ ?_
              clear hK2 K2
              unfold dvV
              refine wpAny_ready (rs := [6]) (by kernel_rfl) (by simp) ?_
              refine AllReady.cons rfl (fun K hK => ?_) AllReady.nil
              go_simp
              refine hK _ _ ?_
              clear hK K
              refine wpAny_done (by kernel_rfl) ?_ _
              clear x0 x1 xf0 xf1 xl HTX HXc HDL
              go_wp2
              go_roundg gq
              case measure => omega
              case rel => exact ⟨s5, p, c, _, _, ss6, [], by go_num, by omega, HXd, HOK6⟩
            | true =>
              refine wpAny_ready (rs := [5]) (by kernel_rfl) (by simp) ?_
              refine AllReady.cons rfl (fun K2 hK2 => ?_) AllReady.nil
              go_simp
              go_at_call 71
              refine (specDoneF_g p q c d ss us k4 (w.heap.size + 1) _ (HXc.out.own HSS.out) HSS.out HUS.out (by omega)).mono ?_
              rintro e w6 ⟨b6, rfl, hb6, hD6, hG6⟩
              have HDL := Lib.hid (doneN_len (fun _ => true) ss us us.length)
              have HXd := Lib.hid (HXc.out.done (HDL.out.trans HSS.out) hD6 hb6 hG6)
              have HOK6 := Lib.hid (doneN_ok (fun _ => true) ss us HOK.out us.length (Nat.le_refl _))
              have HTX := Lib.hid (HXc.out.tx.grown hG6 (fun e => HXc.out.np _ e rfl))
              clear hD6 hb6 hG6 x0 x1 xl
              generalize doneN (fun _ => true) ss us us.length = ss6 at *
              have x0 := HTX.out.1.1
              have x1 := HTX.out.1.2
              have xf0 := HTX.out.2.1
              have xf1 := HTX.out.2.2
              have xl := HTX.out.lt
              refine hK2 _ _ ?_
              clear hK2 K2
              unfold dvV
              refine wpAny_ready (rs := [6]) (by kernel_rfl) (by simp) ?_
              refine AllReady.cons rfl (fun K hK => ?_) AllReady.nil
              go_simp
              refine hK _ _ ?_
              clear hK K
              refine wpAny_done (by kernel_rfl) ?_ _
              clear x0 x1 xf0 xf1 xl HTX HXc HDL
              go_wp2
              go_roundg gq
              case measure => omega
              case rel => exact ⟨s5, p, c, _, _, ss6, [], by go_num, by omega, HXd, HOK6⟩
          · go_simp
            go_at_call 78
            refine (l1Once_any a n cap bs g s4 2 _ HXb.out.cu (by omega)).mono ?_
            rintro e w5 ⟨rfl, hC4, hG4⟩
            have HXc := Lib.hid (HXb.out.step hC4 hG4)
            clear hC4 hG4 HXb x0 x1 xl
            have x0 := HXc.out.tx.1.1
            have x1 := HXc.out.tx.1.2
            have xl := HXc.out.tx.lt
            refine hK2 _ _ ?_
            clear hK2 K2
            generalize (belowF bs 2 s4).2 = s5 at *
            generalize ((belowF bs 2 s4).1 == 0) = t5 at *
            try simp only at HXc
            refine wpAny_ready (rs := [0]) (by kernel_rfl) (by simp) ?_
            refine AllReady.cons rfl (fun K2 hK2 => ?_) AllReady.nil
            go_simp
            refine hK2 _ _ ?_
            clear hK2 K2
            cases t5 with
            | false =>
              refine wpAny_ready (rs := [5]) (by kernel_rfl) (by simp) ?_
              refine AllReady.cons rfl (fun K2 hK2 => ?_) AllReady.nil
              go_simp
              go_at_call 71
              refine (specDoneM_g p q c d ss us k4 (w.heap.size + 1) _ (HXc.out.own HSS.out) HSS.out HUS.out (by omega) (by omega)).mono ?_
              rintro e w6 ⟨b6, rfl, hb6, hD6, hG6⟩
              have HDL := Lib.hid (doneN_len (tkM k4) ss us us.length)
              have HXd := Lib.hid (HXc.out.done (HDL.out.trans HSS.out) hD6 hb6 hG6)
              have HOK6 := Lib.hid (doneN_ok (tkM k4) ss us HOK.out us.length (Nat.le_refl _))
              have HTX := Lib.hid (HXc.out.tx.grown hG6 (fun e => HXc.out.np _ e rfl))
              clear hD6 hb6 hG6 x0 x1 xl
              generalize doneN (tkM k4) ss us us.length = ss6 at *
              have x0 := HTX.out.1.1
              have x1 := HTX.out.1.2
              have xf0 := HTX.out.2.1
              have xf1 := HTX.out.2.2
              have xl := HTX.out.lt
              refine hK2 _ _ ?_
              clear hK2 K2
              unfold dvV
              refine wpAny_ready (rs := [6]) (by kernel_rfl) (by simp) ?_
              refine AllReady.cons rfl (fun K hK => ?_) AllReady.nil
              go_simp
              refine hK _ _ ?_
              clear hK K
              refine wpAny_done (by kernel_rfl) ?_ _
              clear x0 x1 xf0 xf1 xl HTX HXc HDL
              go_wp2
              go_roundg gq
              case measure => omega
              case rel => exact ⟨s5, p, c, _, _, ss6, [], by go_num, by omega, HXd, HOK6⟩
            | true =>
              refine wpAny_ready (rs := [5]) (by kernel_rfl) (by simp) ?_
              refine AllReady.cons rfl (fun K2 hK2 => ?_) AllReady.nil
              go_simp
              go_at_call 71
              refine (specDoneF_g p q c d ss us k4 (w.heap.size + 1) _ (HXc.out.own HSS.out) HSS.out HUS.out (by omega)).mono ?_
              rintro e w6 ⟨b6, rfl, hb6, hD6, hG6⟩
              have HDL := Lib.hid (doneN_len (fun _ => true) ss us us.length)
              have HXd := Lib.hid (HXc.out.done (HDL.out.trans HSS.out) hD6 hb6 hG6)
              have HOK6 := Lib.hid (doneN_ok (fun _ => true) ss us HOK.out us.length (Nat.le_refl _))
              have HTX := Lib.hid (HXc.out.tx.grown hG6 (fun e => HXc.out.np _ e rfl))
              clear hD6 hb6 hG6 x0 x1 xl
              generalize doneN (fun _ => true) ss us us.length = ss6 at *
              have x0 := HTX.out.1.1
              have x1 := HTX.out.1.2
              have xf0 := HTX.out.2.1
              have xf1 := HTX.out.2.2
              have xl := HTX.out.lt
              refine hK2 _ _ ?_
              clear hK2 K2
              unfold dvV
              refine wpAny_ready (rs := [6]) (by kernel_rfl) (by simp) ?_
              refine AllReady.cons rfl (fun K hK => ?_) AllReady.nil
              go_simp
              refine hK _ _ ?_
              clear hK K
              refine wpAny_done (by kernel_rfl) ?_ _
              clear x0 x1 xf0 xf1 xl HTX HXc HDL
              go_wp2
              go_roundg gq
              case measure => omega
              case rel => exact ⟨s5, p, c, _, _, ss6, [], by go_num, by omega, HXd, HOK6⟩
      | false =>
        go_wp2
        have HXa := Lib.hid HX3.out.drew
        clear HX3
        have x0 := HXa.out.tx.1.1
        have x1 := HXa.out.tx.1.2
        have xl := HXa.out.tx.lt
        refine wp_region_any (by kernel_rfl) ?_
        try (change wpAny _ _ _ _ _ _ _ (World.drew _))
        refine wpAny_take (i := 1) (v := ?_) rfl (by kernel_rfl) (by kernel_rfl) (by kernel_rfl) (fun _ _ _ h => h) (Or.inl ⟨by rfl, ?hy⟩) ?_; (case hy => (intro w; go_simp; try with_reducible rfl))
        refine wpAny_ready (rs := [0, 2]) (by kernel_rfl) (by simp) ?_
        refine AllReady.cons rfl (fun K2 hK2 => ?_) (AllReady.cons rfl (fun K2 hK2 => ?_) AllReady.nil)
        · go_simp
          refine hK2 _ _ ?_
          clear hK2 K2
          refine wpAny_ready (rs := [2]) (by kernel_rfl) (by simp) ?_
          refine AllReady.cons rfl (fun K2 hK2 => ?_) AllReady.nil
          go_simp
          go_at_call 112
          refine (l8Write_any a n cap bs g s3 _ HXa.out.cu).mono ?_
          rintro e w4 ⟨⟨xz, xt⟩, s4, rfl, ho, hs4, hC4, hG4⟩
          have HXb := Lib.hid (HXa.out.step hC4 hG4)
          clear hC4 hG4 HXa x0 x1 xl
          simp only at ho hs4
          have x0 := HXb.out.tx.1.1
          have x1 := HXb.out.tx.1.2
          have xl := HXb.out.tx.lt
          refine hK2 _ _ ?_
          clear hK2 K2
          unfold wrV
          refine wpAny_ready (rs := [3]) (by kernel_rfl) (by simp) ?_
          refine AllReady.cons rfl (fun K2 hK2 => ?_) AllReady.nil
          go_simp
          refine hK2 _ _ ?_
          clear hK2 K2
          have HXc := Lib.hid (HXb.out.alloc (.cells #[.int .i64 xz, .string xt] 53))
          have HLI : Hid (Rd (w4.alloc (.cells #[.int .i64 xz, .string xt] 53)) (some ⟨w4.heap.size, 0, none⟩) 1 1 2 (wrs [(xz, xt)])) := Lib.hid (lit_rd (news := (wrs [(xz, xt)]).toArray) rfl (by decide))
          clear HXb x0 x1 xl
          have x0 := HXc.out.tx.1.1
          have x1 := HXc.out.tx.1.2
          have xl := HXc.out.tx.lt
          refine wpAny_ready (rs := [4]) (by kernel_rfl) (by simp) ?_
          refine AllReady.cons rfl (fun K2 hK2 => ?_) AllReady.nil
          go_simp
          have hPP := specPut_any p q c d ss us (xz, xt) w4.heap.size _ (by rw [HSS.out]; exact HXc.out.op.rd) HXc.out.oq.rd HLI.out HOK.out
          rw [HSS.out] at hPP
          go_at_call 111
          refine hPP.mono ?_
          rintro e w6 ⟨v6, ok6, us6, rfl, hD6, hok6, hb6⟩
          obtain ⟨p6, c6, q6, d6, rfl, hP6, hQ6, -⟩ := hD6.ex
          rw [HSS.out] at hP6 ⊢
          have HXd := Lib.hid (HXc.out.news hb6 hP6 hQ6)
          have HOK6 := Lib.hid hok6
          have HTX := Lib.hid (HXc.out.tx.grown (grown_of_below none hb6) (fun e => by cases e))
          clear hD6 hb6 hP6 hQ6 hok6 x0 x1 xl hPP
          have x0 := HTX.out.1.1
          have x1 := HTX.out.1.2
          have xf0 := HTX.out.2.1
          have xf1 := HTX.out.2.2
          have xl := HTX.out.lt
          refine hK2 _ _ ?_
          clear hK2 K2
          unfold dvV
          refine wpAny_take (i := 5) (v := ?_) rfl (by kernel_rfl) (by kernel_rfl) (by kernel_rfl) (fun _ _ _ h => h) (Or.inl ⟨by rfl, ?hy⟩) ?_; (case hy => (intro w; go_simp; try with_reducible rfl))
          refine wpAny_take (i := 6) (v := ?_) rfl (by kernel_rfl) (by kernel_rfl) (by kernel_rfl) (fun _ _ _ h => h) (Or.inl ⟨by rfl, ?hy⟩) ?_; (case hy => (intro w; go_simp; try with_reducible rfl))
          refine wpAny_take (i := 7) (v := ?_) rfl (by kernel_rfl) (by kernel_rfl) (by kernel_rfl) (fun _ _ _ h => h) (Or.inl ⟨by rfl, ?hy⟩) ?_; (case hy => (intro w; go_simp; try with_reducible rfl))
          refine wpAny_ready (rs := [8]) (by kernel_rfl) (by simp) ?_
          refine AllReady.cons rfl (fun K hK => ?_) AllReady.nil
          go_simp
          refine hK _ _ ?_
          clear hK K
          refine wpAny_done (by kernel_rfl) ?_ _
          clear x0 x1 xf0 xf1 xl HTX HXc HLI
          go_wp2
          go_roundg gq
          case measure => omega
          case rel => exact ⟨s4, p6, c6, q6, d6, ss, us6, by go_num, by omega, HXd, HOK6⟩
        · go_simp
          go_at_call 112
          refine (l8Write_any a n cap bs g s3 _ HXa.out.cu).mono ?_
          rintro e w4 ⟨⟨xz, xt⟩, s4, rfl, ho, hs4, hC4, hG4⟩
          have HXb := Lib.hid (HXa.out.step hC4 hG4)
          clear hC4 hG4 HXa x0 x1 xl
          simp only at ho hs4
          have x0 := HXb.out.tx.1.1
          have x1 := HXb.out.tx.1.2
          have xl := HXb.out.tx.lt
          refine hK2 _ _ ?_
          clear hK2 K2
          unfold wrV
          refine wpAny_ready (rs := [0, 3]) (by kernel_rfl) (by simp) ?_
          refine AllReady.cons rfl (fun K2 hK2 => ?_) (AllReady.cons rfl (fun K2 hK2 => ?_) AllReady.nil)
          · go_simp
            refine hK2 _ _ ?_
            clear hK2 K2
            refine wpAny_ready (rs := [3]) (by kernel_rfl) (by simp) ?_
            refine AllReady.cons rfl (fun K2 hK2 => ?_) AllReady.nil
            go_simp
            refine hK2 _ _ ?_
            clear hK2 K2
            have HXc := Lib.hid (HXb.out.alloc (.cells #[.int .i64 xz, .string xt] 53))
            have HLI : Hid (Rd (w4.alloc (.cells #[.int .i64 xz, .string xt] 53)) (some ⟨w4.heap.size, 0, none⟩) 1 1 2 (wrs [(xz, xt)])) := Lib.hid (lit_rd (news := (wrs [(xz, xt)]).toArray) rfl (by decide))
            clear HXb x0 x1 xl
            have x0 := HXc.out.tx.1.1
            have x1 := HXc.out.tx.1.2
            have xl := HXc.out.tx.lt
            refine wpAny_ready (rs := [4]) (by kernel_rfl) (by simp) ?_
            refine AllReady.cons rfl (fun K2 hK2 => ?_) AllReady.nil
            go_simp
            have hPP := specPut_any p q c d ss us (xz, xt) w4.heap.size _ (by rw [HSS.out]; exact HXc.out.op.rd) HXc.out.oq.rd HLI.out HOK.out
            rw [HSS.out] at hPP
            go_at_call 111
            refine hPP.mono ?_
            rintro e w6 ⟨v6, ok6, us6, rfl, hD6, hok6, hb6⟩
            obtain ⟨p6, c6, q6, d6, rfl, hP6, hQ6, -⟩ := hD6.ex
            rw [HSS.out] at hP6 ⊢
            have HXd := Lib.hid (HXc.out.news hb6 hP6 hQ6)
            have HOK6 := Lib.hid hok6
            have HTX := Lib.hid (HXc.out.tx.grown (grown_of_below none hb6) (fun e => by cases e))
            clear hD6 hb6 hP6 hQ6 hok6 x0 x1 xl hPP
            have x0 := HTX.out.1.1
            have x1 := HTX.out.1.2
            have xf0 := HTX.out.2.1
            have xf1 := HTX.out.2.2
            have xl := HTX.out.lt
            refine hK2 _ _ ?_
            clear hK2 K2
            unfold dvV
            refine wpAny_take (i := 5) (v := ?_) rfl (by kernel_rfl) (by kernel_rfl) (by kernel_rfl) (fun _ _ _ h => h) (Or.inl ⟨by rfl, ?hy⟩) ?_; (case hy => (intro w; go_simp; try with_reducible rfl))
            refine wpAny_take (i := 6) (v := ?_) rfl (by kernel_rfl) (by kernel_rfl) (by kernel_rfl) (fun _ _ _ h => h) (Or.inl ⟨by rfl, ?hy⟩) ?_; (case hy => (intro w; go_simp; try with_reducible rfl))
            refine wpAny_take (i := 7) (v := ?_) rfl (by kernel_rfl) (by kernel_rfl) (by kernel_rfl) (fun _ _ _ h => h) (Or.inl ⟨by rfl, ?hy⟩) ?_; (case hy => (intro w; go_simp; try with_reducible rfl))
            refine wpAny_ready (rs := [8]) (by kernel_rfl) (by simp) ?_
            refine AllReady.cons rfl (fun K hK => ?_) AllReady.nil
            go_simp
            refine hK _ _ ?_
            clear hK K
            refine wpAny_done (by kernel_rfl) ?_ _
            clear x0 x1 xf0 xf1 xl HTX HXc HLI
            go_wp2
            go_roundg gq
            case measure => omega
            case rel => exact ⟨s4, p6, c6, q6, d6, ss, us6, by go_num, by omega, HXd, HOK6⟩
          · go_simp
            refine hK2 _ _ ?_
            clear hK2 K2
            have HXc := Lib.hid (HXb.out.alloc (.cells #[.int .i64 xz, .string xt] 53))
            have HLI : Hid (Rd (w4.alloc (.cells #[.int .i64 xz, .string xt] 53)) (some ⟨w4.heap.size, 0, none⟩) 1 1 2 (wrs [(xz, xt)])) := Lib.hid (lit_rd (news := (wrs [(xz, xt)]).toArray) rfl (by decide))
            clear HXb x0 x1 xl
            have x0 := HXc.out.tx.1.1
            have x1 := HXc.out.tx.1.2
            have xl := HXc.out.tx.lt
            refine wpAny_ready (rs := [0]) (by kernel_rfl) (by simp) ?_
            refine AllReady.cons rfl (fun K2 hK2 => ?_) AllReady.nil
            go_simp
            refine hK2 _ _ ?_
            clear hK2 K2
            refine wpAny_ready (rs := [4]) (by kernel_rfl) (by simp) ?_
            refine AllReady.cons rfl (fun K2 hK2 => ?_) AllReady.nil
            go_simp
            have hPP := specPut_any p q c d ss us (xz, xt) w4.heap.size _ (by rw [HSS.out]; exact HXc.out.op.rd) HXc.out.oq.rd HLI.out HOK.out
            rw [HSS.out] at hPP
            go_at_call 111
            refine hPP.mono ?_
            rintro e w6 ⟨v6, ok6, us6, rfl, hD6, hok6, hb6⟩
            obtain ⟨p6, c6, q6, d6, rfl, hP6, hQ6, -⟩ := hD6.ex
            rw [HSS.out] at hP6 ⊢
            have HXd := Lib.hid (HXc.out.news hb6 hP6 hQ6)
            have HOK6 := Lib.hid hok6
            have HTX := Lib.hid (HXc.out.tx.grown (grown_of_below none hb6) (fun e => by cases e))
            clear hD6 hb6 hP6 hQ6 hok6 x0 x1 xl hPP
            have x0 := HTX.out.1.1
            have x1 := HTX.out.1.2
            have xf0 := HTX.out.2.1
            have xf1 := HTX.out.2.2
            have xl := HTX.out.lt
            refine hK2 _ _ ?_
            clear hK2 K2
            unfold dvV
            refine wpAny_take (i := 5) (v := ?_) rfl (by kernel_rfl) (by kernel_rfl) (by kernel_rfl) (fun _ _ _ h => h) (Or.inl ⟨by rfl, ?hy⟩) ?_; (case hy => (intro w; go_simp; try with_reducible rfl))
            refine wpAny_take (i := 6) (v := ?_) rfl (by kernel_rfl) (by kernel_rfl) (by kernel_rfl) (fun _ _ _ h => h) (Or.inl ⟨by rfl, ?hy⟩) ?_; (case hy => (intro w; go_simp; try with_reducible rfl))
            refine wpAny_take (i := 7) (v := ?_) rfl (by kernel_rfl) (by kernel_rfl) (by kernel_rfl) (fun _ _ _ h => h) (Or.inl ⟨by rfl, ?hy⟩) ?_; (case hy => (intro w; go_simp; try with_reducible rfl))
            refine wpAny_ready (rs := [8]) (by kernel_rfl) (by simp) ?_
            refine AllReady.cons rfl (fun K hK => ?_) AllReady.nil
            go_simp
            refine hK _ _ ?_
            clear hK K
            refine wpAny_done (by kernel_rfl) ?_ _
            clear x0 x1 xf0 xf1 xl HTX HXc HLI
            go_wp2
            go_roundg gq
            case measure => omega
            case rel => exact ⟨s4, p6, c6, q6, d6, ss, us6, by go_num, by omega, HXd, HOK6⟩
    | zero =>
      clear HUS HOK
      go_wp2_with fail
      refine (l1Once_any a n cap bs g sk 12 _ HX.out.cu (by omega)).mono ?_
      rintro e w3 ⟨rfl, hC1, hG1⟩
      have HX3 := Lib.hid (HX.out.step hC1 hG1)
      clear hC1 hG1 HX
      simp only at HX3 ⊢
      generalize (belowF bs 12 sk).2 = s3 at *
      generalize ((belowF bs 12 sk).1 == 0) = t3 at *
      cases t3 with
      | false =>
        have x0 := HX3.out.tx.1.1
        have x1 := HX3.out.tx.1.2
        have xl := HX3.out.tx.lt
        have hq0 := HX3.out.rs.1.1
        have hq1 := HX3.out.rs.1.2
        have hf0 := HX3.out.rs.2.1
        have hf1 := HX3.out.rs.2.2
        have hRl := HX3.out.rs.lt
        go_wp2
        refine bodyPost_ret (v := .agg #[.slice p 18 c, .slice q us.length d]) (by simp [results, Try.results80, go_sem, hq0, hq1, hRl]) rfl ?_
        exact HX3.out.ret HSS.out (by decide)
      | true =>
        go_wp2_with fail
        refine (l1Below_any a n cap bs g _ 3 _ HX3.out.cu (by omega)).mono ?_
        rintro e w4 ⟨rfl, hC1, hG1⟩
        have hr4 := belowF_range bs 3 s3 (by omega)
        have HX4 := Lib.hid (HX3.out.step hC1 hG1)
        clear hC1 hG1 HX3
        simp only at HX4 ⊢
        generalize (belowF bs 3 s3).2 = s4 at *
        generalize (belowF bs 3 s3).1 = k4 at *
        obtain ⟨hk0, hk3⟩ := hr4
        have hx0 := HX4.out.tx.1.1
        have hx1 := HX4.out.tx.1.2
        have hxl := HX4.out.tx.lt
        have hxf0 := HX4.out.tx.2.1
        have hxf1 := HX4.out.tx.2.2
        rcases (show k4 = 0 ∨ k4 = 1 ∨ k4 = 2 by omega) with rfl | rfl | rfl
        · have HX5 := Lib.hid (HX4.out.cut 9)
          have hc18 := HX4.out.op.rd.le
          have hc9 : 9 ≤ c := by omega
          go_upto_region 17 with (fail)
          clear hx0 hx1 hxl hxf0 hxf1 HX4
          generalize w4.setCell ⟨X, 0, none⟩ (.slice p 9 c) = w5 at *
          have x0 := HX5.out.tx.1.1
          have x1 := HX5.out.tx.1.2
          have xl := HX5.out.tx.lt
          have hq0 := HX5.out.rs.1.1
          have hq1 := HX5.out.rs.1.2
          have hf0 := HX5.out.rs.2.1
          have hf1 := HX5.out.rs.2.2
          have hRl := HX5.out.rs.lt
          go_wp2
          refine bodyPost_ret (v := .agg #[.slice p 9 c, .slice q us.length d]) (by simp [results, Try.results80, go_sem, hq0, hq1, hRl]) rfl ?_
          exact HX5.out.ret HSS.out (by decide)
        · have HA := Lib.hid (HX4.out.alloc (.cells #[.int .i64 (-1), .string ByteArray.empty] 53))
          go_wp2_with (at_builtin; go_loud (refine wp_appn rfl _ _ 30 rfl 53 (.agg #[.int .i64 0, .string ByteArray.empty]) 2 24 Try.underlying30 info_wr rfl (by decide) _ _ _ _ _ (by rfl) (by exact HA.out.oq) _ 1 1 _ (by rfl) (by exact lit_rd rfl (by decide)) (by intro u hu; simp at hu; rcases hu with rfl | rfl <;> rfl) (by omega) (by unfold maxLen; omega) ?_); intro a9 c9 w9 hO9 hG9 hN9; have HAP := Lib.hid (HA.out.app (us' := us ++ [((-1), ByteArray.empty)]) (by simp) (by rw [wrs_append]; exact hO9) rfl hG9 hN9); have y0 := HAP.out.1.1.1.1; have y1 := HAP.out.1.1.1.2; have v1 := HAP.out.1.1.2.2; have hzT := HAP.out.1.1.lt; have hq0 := HAP.out.1.2.1.1; have hq1 := HAP.out.1.2.1.2; have hf0 := HAP.out.1.2.2.1; have hf1 := HAP.out.1.2.2.2; have hRl := HAP.out.1.2.lt; clear hO9 hG9 hN9; skip)
          have HX5 := Lib.hid HAP.out.2
          refine bodyPost_ret (v := .agg #[.slice p 18 c, .slice a9 (us.length + 1) c9]) (by simp [results, Try.results80, go_sem, hq0, hq1, hRl]) rfl ?_
          have h := HX5.out.ret HSS.out (by decide)
          have e9 : (us ++ [((-1 : Int), ByteArray.empty)]).length = us.length + 1 := by simp
          rw [e9] at h
          exact h
        · go_wp2_with fail
          refine (l1Below_any a n cap bs g _ 2 _ HX4.out.cu (by omega)).mono ?_
          rintro e w5 ⟨rfl, hC1, hG1⟩
          have hr5 := belowF_range bs 2 s4 (by omega)
          have HX5 := Lib.hid (HX4.out.step hC1 hG1)
          clear hC1 hG1 HX4 hx0 hx1 hxl hxf0 hxf1
          simp only at HX5 ⊢
          generalize (belowF bs 2 s4).2 = s5 at *
          generalize (belowF bs 2 s4).1 = k5 at *
          obtain ⟨hd0, hd1⟩ := hr5
          obtain ⟨M, hM⟩ := Int.eq_ofNat_of_zero_le (show 0 ≤ 40 + k5 by omega)
          have hMw : IntKind.i64.wrap (40 + k5) = (M : Int) := by rw [← hM]; exact IntWalk.i64_in _ ⟨by omega, by omega⟩
          have hM1 : M ≤ 41 := by omega
          have hM2 : us.length ≤ M := by omega
          clear hM hd0 hd1
          go_wp2
          clear hMw
          go_loopg [] (M - us.length) (fun gg wr2 => ∃ (q2 : Option Addr) (d2 : Nat) (us2 : List (Int × ByteArray)), us2.length + gg = M ∧ Hid (DvS a n cap bs g w X 18 p c q2 d2 ss us2 s5 wr2))
          case atStart => exact ⟨q, d, us, by omega, HX5⟩
          case round =>
            clear HX5
            rename World => wo
            obtain ⟨q2, d2, us2, hlen, HX6⟩ := hrel
            have hx0 := HX6.out.tx.1.1
            have hx1 := HX6.out.tx.1.2
            have hxl := HX6.out.tx.lt
            by_cases hlt : us2.length < M
            · have hi : (us2.length : Int) < (M : Int) := by omega
              have HA := Lib.hid (HX6.out.alloc (.cells #[.int .i64 0, .string ByteArray.empty] 53))
              go_wp2_with (at_builtin; go_loud (refine wp_appn rfl _ _ 30 rfl 53 (.agg #[.int .i64 0, .string ByteArray.empty]) 2 24 Try.underlying30 info_wr rfl (by decide) _ _ _ _ _ (by rfl) (by exact HA.out.oq) _ 1 1 _ (by rfl) (by exact lit_rd rfl (by decide)) (by intro u hu; simp at hu; rcases hu with rfl | rfl <;> rfl) (by omega) (by unfold maxLen; omega) ?_); intro a9 c9 w9 hO9 hG9 hN9; have HAP := Lib.hid (HA.out.app (us' := us2 ++ [(0, ByteArray.empty)]) (by simp) (by rw [wrs_append]; exact hO9) rfl hG9 hN9); have y0 := HAP.out.1.1.1.1; have y1 := HAP.out.1.1.1.2; have v1 := HAP.out.1.1.2.2; have hzT := HAP.out.1.1.lt; have hq0 := HAP.out.1.2.1.1; have hq1 := HAP.out.1.2.1.2; have hf0 := HAP.out.1.2.2.1; have hf1 := HAP.out.1.2.2.2; have hRl := HAP.out.1.2.lt; clear hO9 hG9 hN9; skip)
              have HX7 := Lib.hid HAP.out.2
              have HX8 : Hid (DvS a n cap bs g w X 18 p c a9 c9 ss (us2 ++ [(0, ByteArray.empty)]) s5 (w9.setCell ⟨X, 1, none⟩ (.slice a9 (us2.length + 1) c9))) := Lib.hid HX7.out
              clear HA HAP y0 y1 v1 hzT hq0 hq1 hf0 hf1 hRl hx0 hx1 hxl HX6 HX7
              go_roundg (gk - 1)
              case measure => omega
              case rel => exact ⟨a9, c9, us2 ++ [(0, ByteArray.empty)], by simp; omega, HX8⟩
            · have hi : ¬ (us2.length : Int) < (M : Int) := by omega
              clear hx0 hx1 hxl
              have x0 := HX6.out.tx.1.1
              have x1 := HX6.out.tx.1.2
              have xl := HX6.out.tx.lt
              have hq0 := HX6.out.rs.1.1
              have hq1 := HX6.out.rs.1.2
              have hf0 := HX6.out.rs.2.1
              have hf1 := HX6.out.rs.2.2
              have hRl := HX6.out.rs.lt
              go_wp2
              refine bodyPost_ret (v := .agg #[.slice p 18 c, .slice q2 us2.length d2]) (by simp [results, Try.results80, go_sem, hq0, hq1, hRl]) rfl ?_
              exact HX6.out.ret HSS.out (by decide)
theorem Two.drew {w : World} {b : Nat} {u v : Value} (h : Two w b u v) : Two w.drew b u v := h.grown (grown_of_below none (Below.refl _ _).drew) (fun e => by cases e)
def DrewCrash (w : World) (e : Ending) (w' : World) : Prop := ∃ (v : Value) (mask : Int) (ss : List ByteArray) (us : List (Int × ByteArray)), e = .returned (.tuple #[v, .int .i64 mask]) ∧ (-9223372036854775808 ≤ mask ∧ mask ≤ 9223372036854775807) ∧ DevRd w' v ss us ∧ Below w.heap.size w w'
end Go.Proofs.Ytbokgbbdjcpgbaa
