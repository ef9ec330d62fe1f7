/- Records of the journal that are drawn. (Printed by gen_txnd.py.) -/
import Derived.Test.YtbokgbbdjcpgbaaDraws
import Derived.Test.YtbokgbbdjcpgbaaRdTxn
import Derived.Test.YtbokgbbdjcpgbaaStep
namespace Go.Proofs.Ytbokgbbdjcpgbaa
open Go.RowKit

def outsOk (l : OutL) : Prop := ∀ x ∈ l, OkInt x.1 ∧ x.2.size ≤ 1000
theorem outsOk_snoc {l : OutL} {x : Int × ByteArray} (h : outsOk l) (hx : OkInt x.1 ∧ x.2.size ≤ 1000) : outsOk (l ++ [x]) := by
  intro y hy
  rcases List.mem_append.1 hy with h1 | h1
  · exact h y h1
  · rw [List.mem_singleton] at h1; subst h1; exact hx
def DrewTxn (a : Option Addr) (n cap : Nat) (bs : List Int) (g : Nat) (w : World) (e : Ending) (w' : World) : Prop :=
  ∃ (seq : Int) (l : OutL) (s : CS) (v : Value), e = .returned v ∧ TxnOwn w.heap.size w' v seq l ∧ OkInt seq ∧ l.length ≤ 10 ∧ outsOk l ∧ CurAt a n cap bs g s w' ∧ w.grownBy w' (some g)
/-- The record under way: its box T, its writes, the box of the result, the cursor. -/
structure TXS (a : Option Addr) (n cap : Nat) (bs : List Int) (g : Nat) (w0 : World) (T : Nat) (seq : Int) (l : OutL) (q : Option Addr) (c : Nat) (s : CS) (wr : World) : Prop where
  tw : Two wr T (.int .i64 seq) (.slice q l.length c)
  ow : Own 53 2 (w0.heap.size + 1) wr (.slice q l.length c) l.length (wrs l) wr
  ne : ∀ k, (Value.slice q l.length c).ownBlock = some k → k ≠ T
  rs : Two wr w0.heap.size (.int .i64 0) (.slice none 0 0)
  cu : CurAt a n cap bs g s wr
  gr : w0.grownBy wr (some g)
  gl : g < w0.heap.size
  tl : w0.heap.size < T
  ok : OkInt seq ∧ outsOk l
theorem TXS.step {a : Option Addr} {n cap : Nat} {bs : List Int} {g : Nat} {w0 : World} {T : Nat} {seq : Int} {l : OutL} {q : Option Addr} {c : Nat} {s s' : CS} {wr w' : World} (h : TXS a n cap bs g w0 T seq l q c s wr) (hC : CurAt a n cap bs g s' w') (hG : wr.grownBy w' (some g)) : TXS a n cap bs g w0 T seq l q c s' w' := by
  have gl := h.gl
  have tl := h.tl
  exact ⟨h.tw.grown hG (fun e => by have := Option.some.inj e; omega), h.ow.otherLow hG (fun k hk e => by have := (h.ow.blk k hk).1; have := Option.some.inj e; omega), h.ne, h.rs.grown hG (fun e => by have := Option.some.inj e; omega), hC, h.gr.trans hG, gl, tl, h.ok⟩
theorem TXS.low {a : Option Addr} {n cap : Nat} {bs : List Int} {g : Nat} {w0 : World} {T : Nat} {seq : Int} {l : OutL} {q : Option Addr} {c : Nat} {s : CS} {wr w' : World} (h : TXS a n cap bs g w0 T seq l q c s wr) (hb : Below wr.heap.size wr w') : TXS a n cap bs g w0 T seq l q c s w' :=
  h.step (h.cu.kept hb) (grown_of_below _ hb)
theorem TXS.alloc {a : Option Addr} {n cap : Nat} {bs : List Int} {g : Nat} {w0 : World} {T : Nat} {seq : Int} {l : OutL} {q : Option Addr} {c : Nat} {s : CS} {wr : World} (h : TXS a n cap bs g w0 T seq l q c s wr) (o : Obj) : TXS a n cap bs g w0 T seq l q c s (wr.alloc o) := h.low (box_alloc wr o)
theorem TXS.drew {a : Option Addr} {n cap : Nat} {bs : List Int} {g : Nat} {w0 : World} {T : Nat} {seq : Int} {l : OutL} {q : Option Addr} {c : Nat} {s : CS} {wr : World} (h : TXS a n cap bs g w0 T seq l q c s wr) : TXS a n cap bs g w0 T seq l q c s wr.drew := h.low (Below.refl _ _).drew
theorem Two.set0 {w : World} {b : Nat} {u v : Value} (h : Two w b u v) (x : Value) : Two (w.setCell ⟨b, 0, none⟩ x) b x v := by
  have hl := h.lt
  obtain ⟨⟨h0, h1⟩, f0, f1⟩ := h
  exact ⟨⟨by go_simp, by go_simp⟩, ⟨by go_simp, by go_simp⟩⟩
/-- Its number is written anew. -/
theorem TXS.seq {a : Option Addr} {n cap : Nat} {bs : List Int} {g : Nat} {w0 : World} {T : Nat} {seq : Int} {l : OutL} {q : Option Addr} {c : Nat} {s : CS} {wr : World} (h : TXS a n cap bs g w0 T seq l q c s wr) (z : Int) (hz : OkInt z) : TXS a n cap bs g w0 T z l q c s (wr.setCell ⟨T, 0, none⟩ (.int .i64 z)) := by
  have gl := h.gl
  have tl := h.tl
  exact ⟨h.tw.set0 _, h.ow.setFar T 0 _ h.ne, h.ne, h.rs.far (by omega), h.cu.grown (scan_set _ _ _ _) (fun k hk => by have := Option.some.inj hk; omega), grown_trans h.gr (scan_set _ _ _ _) (fun k hk => by have := Option.some.inj hk; exact .inr (by omega)), gl, tl, ⟨hz, h.ok.2⟩⟩
/-- Its writes are other ones now. -/
theorem TXS.outs {a : Option Addr} {n cap : Nat} {bs : List Int} {g : Nat} {w0 : World} {T : Nat} {seq : Int} {l l' : OutL} {q q' : Option Addr} {c c' : Nat} {s : CS} {wr w' : World} (h : TXS a n cap bs g w0 T seq l q c s wr) (hO : Own 53 2 (w0.heap.size + 1) w' (.slice q' l'.length c') l'.length (wrs l') w')
    (hne : ∀ k, (Value.slice q' l'.length c').ownBlock = some k → k ≠ T) (hG : wr.grownBy w' (Value.slice q l.length c).ownBlock) (hl : outsOk l') : TXS a n cap bs g w0 T seq l' q' c' s (w'.setCell ⟨T, 1, none⟩ (.slice q' l'.length c')) := by
  have gl := h.gl
  have tl := h.tl
  have hb := h.ow.blk
  exact ⟨(h.tw.grown hG (fun e => h.ne _ e rfl)).set1 _, hO.setFar T 1 _ hne, hne, (h.rs.grown hG (fun e => by have := (hb _ e).1; omega)).far (by omega),
    (h.cu.grown hG (fun k hk => by have := (hb k hk).1; omega)).grown (scan_set _ _ _ _) (fun k hk => by have := Option.some.inj hk; omega),
    grown_trans (grown_trans h.gr hG (fun k hk => .inr (by have := (hb k hk).1; omega))) (scan_set _ _ _ _) (fun k hk => by have := Option.some.inj hk; exact .inr (by omega)), gl, tl, ⟨h.ok.1, hl⟩⟩
/-- It is returned. -/
theorem TXS.ret {a : Option Addr} {n cap : Nat} {bs : List Int} {g : Nat} {w0 : World} {T : Nat} {seq : Int} {l : OutL} {q : Option Addr} {c : Nat} {s : CS} {wr : World} (h : TXS a n cap bs g w0 T seq l q c s wr) (hl : l.length ≤ 10) : DrewTxn a n cap bs g w0 (.returned (.agg #[.int .i64 seq, .slice q l.length c])) ((wr.setCell ⟨w0.heap.size, 0, none⟩ (.int .i64 seq)).setCell ⟨w0.heap.size, 1, none⟩ (.slice q l.length c)) := by
  have gl := h.gl
  have hb := h.ow.blk
  have hn : ∀ k, (Value.slice q l.length c).ownBlock = some k → k ≠ w0.heap.size := fun k hk => by have := (hb k hk).1; omega
  have hO := (h.ow.setFar w0.heap.size 0 (.int .i64 seq) hn).setFar w0.heap.size 1 (.slice q l.length c) hn
  have hG := (scan_set wr w0.heap.size 0 (.int .i64 seq)).trans (scan_set _ w0.heap.size 1 (.slice q l.length c))
  exact ⟨seq, l, s, _, rfl, ⟨q, c, rfl, ⟨row_mono1 hO.row (by omega), Below.refl _ _, Nat.le_trans (by omega) hO.base⟩⟩, h.ok.1, hl, h.ok.2, h.cu.grown hG (fun k hk => by have := Option.some.inj hk; omega), grown_trans h.gr hG (fun k hk => by have := Option.some.inj hk; exact .inr (by omega))⟩
theorem wrs_set0 (l : OutL) (h : 0 < l.length) (t : ByteArray) : (wrs l).set 1 (.string t) = wrs (l.set 0 (l[0].1, t)) := by
  cases l with
  | nil => simp at h
  | cons x l => simp [wrs, wr1]
/-- The first write's text is another one now. -/
theorem TXS.text {a : Option Addr} {n cap : Nat} {bs : List Int} {g : Nat} {w0 : World} {T : Nat} {seq : Int} {l : OutL} {q : Option Addr} {c : Nat} {s : CS} {wr : World} (h : TXS a n cap bs g w0 T seq l q c s wr) (hl : 0 < l.length) (t : ByteArray) (ht : t.size ≤ 1000) :
    ∃ g2, q = some ⟨g2, 0, none⟩ ∧ (∃ u, wr.cell? ⟨g2, 1, none⟩ = some u) ∧ wr.frozen? ⟨g2, 1, none⟩ = false ∧ g2 < wr.heap.size ∧ TXS a n cap bs g w0 T seq (l.set 0 (l[0].1, t)) q c s (wr.setCell ⟨g2, 1, none⟩ (.string t)) := by
  have gl := h.gl
  have tl := h.tl
  obtain ⟨g2, c2, he, hB⟩ := h.ow.shape1 hl
  obtain ⟨rfl, rfl⟩ : q = some ⟨g2, 0, none⟩ ∧ c = c2 := by simpa using he
  have hgT := h.ne g2 rfl
  have hgl := (h.ow.blk g2 rfl).2
  have hlen : (l.set 0 (l[0].1, t)).length = l.length := by simp
  have hO := h.ow.set 1 (.string t)
  rw [wrs_set0 l hl t] at hO
  refine ⟨g2, rfl, ⟨_, h.ow.cell 1 (by simp; omega)⟩, h.ow.free 1, hgl, ?_⟩
  exact ⟨by rw [hlen]; exact h.tw.far (fun e => hgT e.symm), by rw [hlen]; exact hO.self, by rw [hlen]; exact h.ne, h.rs.far (by omega), h.cu.grown (scan_set _ _ _ _) (fun k hk => by have := Option.some.inj hk; omega),
    grown_trans h.gr (scan_set _ _ _ _) (fun k hk => by have := Option.some.inj hk; exact .inr (by omega)), gl, tl, ⟨h.ok.1, fun x hx => by
      rcases List.mem_or_eq_of_mem_set hx with h1 | h1
      · exact h.ok.2 x h1
      · subst h1; exact ⟨(h.ok.2 _ (List.getElem_mem hl)).1, ht⟩⟩⟩
theorem own_ne {w : World} {v v' : Value} {T : Nat} (h : v'.ownBlock = v.ownBlock ∨ ∃ k, v'.ownBlock = some k ∧ w.heap.size ≤ k) (hn : ∀ k, v.ownBlock = some k → k ≠ T) (hT : T < w.heap.size) : ∀ k, v'.ownBlock = some k → k ≠ T := by
  intro k hk
  rcases h with h | ⟨k', h, hle⟩
  · exact hn k (h ▸ hk)
  · rw [hk] at h; have := Option.some.inj h; omega


set_option maxRecDepth 1000000 in
set_option maxHeartbeats 6000000 in
theorem l9Txn_any (a : Option Addr) (n cap : Nat) (bs : List Int) (g : Nat) (s : CS) (w : World) (hC : CurAt a n cap bs g s w) :
    Calls Try.prog 105 #[.pointer (some ⟨g, 0, none⟩)] w (DrewTxn a n cap bs g w) := by
  have hg := hC.lt
  have HC0 := Lib.hid (hC.alloc (.cells #[.int .i64 0, .slice none 0 0] 72))
  have HR0 := Lib.hid (two_new w 72 (.int .i64 0) (.slice none 0 0))
  have HG0 := Lib.hid (World.grownBy_alloc w (.cells #[.int .i64 0, .slice none 0 0] 72) (some g))
  clear hC
  go_enter Try.func105, Try.ntmps105
  go_wp2_with fail
  refine (l1Below_any a n cap bs g _ 300 _ HC0.out (by omega)).mono ?_
  rintro e w1 ⟨rfl, hC1, hG1⟩
  have hr1 := belowF_range bs 300 s (by omega)
  have HC1 := Lib.hid hC1
  have HR1 := Lib.hid (HR0.out.grown hG1 (fun e => by have := Option.some.inj e; omega))
  have HG1 := Lib.hid (HG0.out.trans hG1)
  clear hC1 hG1 HC0 HR0 HG0
  generalize (belowF bs 300 s).2 = s1 at *
  generalize (belowF bs 300 s).1 = k1 at *
  obtain ⟨ha0, ha1⟩ := hr1
  have hkw1 : IntKind.i64.wrap (1 + k1) = 1 + k1 := IntWalk.i64_in _ ⟨by omega, by omega⟩
  have hz1 := HR1.out.lt
  have HX0 : Hid (TXS a n cap bs g w w1.heap.size (1 + k1) [] none 0 s1 (w1.alloc (.cells #[.int .i64 (1 + k1), .slice none 0 0] 72))) := Lib.hid ⟨two_new _ _ _ _, ⟨World.ownsRow_nil _ _ _ _, Below.refl _ _, by simp; omega⟩, (fun k hk => by cases hk), HR1.out.alloc _, HC1.out.alloc _, HG1.out.trans (World.grownBy_alloc _ _ _), hg, hz1, ⟨⟨by omega, by omega⟩, fun x hx => by cases hx⟩⟩
  simp only at HC1 ⊢
  go_wp2_with fail
  refine (l1Below_any a n cap bs g _ 4 _ HX0.out.cu (by omega)).mono ?_
  rintro e w2 ⟨rfl, hC1, hG1⟩
  have hr2 := belowF_range bs 4 s1 (by omega)
  have HX2 := Lib.hid (HX0.out.step hC1 hG1)
  clear hC1 hG1 HX0 HC1 HR1 HG1
  generalize (belowF bs 4 s1).2 = s2 at *
  generalize (belowF bs 4 s1).1 = k2 at *
  obtain ⟨hb0, hb1⟩ := hr2
  generalize 1 + k1 = seq at *
  clear hkw1
  generalize w1.heap.size = T at *
  go_wp2_with fail
  refine (l1Below_any a n cap bs g _ 4 _ HX2.out.cu (by omega)).mono ?_
  rintro e w3 ⟨rfl, hC1, hG1⟩
  have hr3 := belowF_range bs 4 s2 (by omega)
  have HX3 := Lib.hid (HX2.out.step hC1 hG1)
  clear hC1 hG1 HX2
  generalize (belowF bs 4 s2).2 = s3 at *
  generalize (belowF bs 4 s2).1 = k3 at *
  obtain ⟨hc0, hc1⟩ := hr3
  have hkw3 : IntKind.i64.wrap (1 + k3) = 1 + k3 := IntWalk.i64_in _ ⟨by omega, by omega⟩
  obtain ⟨K, hK⟩ := Int.eq_ofNat_of_zero_le (show 0 ≤ 1 + k3 by omega)
  have hK1 : 1 ≤ K ∧ K ≤ 4 := by omega
  rw [hK] at hkw3
  simp only at HX3 ⊢
  go_wp2
  clear hkw3 hK hc0 hc1
  go_loopg [4, 5] K (fun gg b i wr => ∃ (l : OutL) (y : Int) (sk : CS) (q : Option Addr) (c : Nat), i = .int .i64 (gg : Nat) ∧ b = .int .i64 y ∧ 0 ≤ y ∧ y ≤ 3 + 5 * l.length ∧ l.length + gg = K ∧ Hid (TXS a n cap bs g w T seq l q c sk wr))
  case atStart => exact ⟨[], k2, s3, none, 0, rfl, rfl, hb0, by simp; omega, by simp, HX3⟩
  case round =>
    obtain ⟨l, y, sk, q, c, rfl, rfl, hy0, hy1, hlen, HX⟩ := hrel
    by_cases hgo : 0 < gk ∧ y < 17
    · obtain ⟨hg0, hy17⟩ := hgo
      have hgi : (0 : Int) < (gk : Int) := by omega
      have hll : l.length ≤ 3 := by omega
      have ht1 := HX.out.tw.1.2
      have hTl := HX.out.tw.lt
      have hts := textF_size bs 9 sk (by omega)
      have hyw : ∀ d : Int, 0 ≤ d → d < 5 → IntKind.i64.wrap (y + 1) = y + 1 ∧ IntKind.i64.wrap (y + 1 + d) = y + 1 + d := fun d h0 h1 => ⟨IntWalk.i64_in _ ⟨by omega, by omega⟩, IntWalk.i64_in _ ⟨by omega, by omega⟩⟩
      have HYW := Lib.hid hyw
      clear hyw
      go_wp2
      refine wp_region_any (by kernel_rfl) ?_
      try (change wpAny _ _ _ _ _ _ _ (World.drew _))
      refine wpAny_take (i := 0) (v := ?_) rfl (by kernel_rfl) (by kernel_rfl) (by kernel_rfl) (fun _ _ _ h => h) (Or.inl ⟨by rfl, ?hy⟩) ?_; (case hy => (intro w; go_simp; try with_reducible rfl))
      refine wpAny_take (i := 2) (v := ?_) rfl (by kernel_rfl) (by kernel_rfl) (by kernel_rfl) (fun _ _ _ h => h) (Or.inl ⟨by rfl, ?hy⟩) ?_; (case hy => (intro w; go_simp; try with_reducible rfl))
      refine wpAny_take (i := 3) (v := ?_) rfl (by kernel_rfl) (by kernel_rfl) (by kernel_rfl) (fun _ _ _ h => h) (Or.inl ⟨by rfl, ?hy⟩) ?_; (case hy => (intro w; go_simp; try with_reducible rfl))
      refine wpAny_ready (rs := [1, 4]) (by kernel_rfl) (by simp) ?_
      refine AllReady.cons rfl (fun K2 hK2 => ?_) (AllReady.cons rfl (fun K2 hK2 => ?_) AllReady.nil)
      · go_simp
        refine hK2 _ _ ?_
        clear hK2 K2
        refine wpAny_ready (rs := [4]) (by kernel_rfl) (by simp) ?_
        refine AllReady.cons rfl (fun K2 hK2 => ?_) AllReady.nil
        go_simp
        go_at_call 120
        refine (l1Text_any a n cap bs g sk 9 _ HX.out.drew.cu (by omega) (by omega)).mono ?_
        rintro e w4 ⟨rfl, hC4, hG4⟩
        have HX4 := Lib.hid (HX.out.drew.step hC4 hG4)
        have t4 := HX4.out.tw.1.2
        clear hC4 hG4
        refine hK2 _ _ ?_
        clear hK2 K2
        generalize (textF bs 9 sk).2 = s4 at *
        generalize (textF bs 9 sk).1 = tx at *
        try simp only at HX4
        refine wpAny_take (i := 5) (v := ?_) rfl (by kernel_rfl) (by kernel_rfl) (by kernel_rfl) (fun _ _ _ h => h) (Or.inl ⟨by rfl, ?hy⟩) ?_; (case hy => (intro w; go_simp; try with_reducible rfl))
        refine wpAny_ready (rs := [6]) (by kernel_rfl) (by simp) ?_
        refine AllReady.cons rfl (fun K hK => ?_) AllReady.nil
        go_simp
        refine hK _ _ ?_
        clear hK K
        refine wpAny_ready (rs := [7]) (by kernel_rfl) (by simp) ?_
        refine AllReady.cons rfl (fun K hK => ?_) AllReady.nil
        refine step_appn rfl _ _ 30 rfl 53 (.agg #[.int .i64 0, .string ByteArray.empty]) 2 24 Try.underlying30 info_wr rfl (by decide) _ _ _ _ _ (by rfl) (by exact (HX4.out.ow.alloc _)) _ 1 1 _ (by rfl) (by exact lit_rd rfl (by decide)) (by intro u hu; simp at hu; rcases hu with rfl | rfl <;> rfl) (by omega) (by unfold maxLen; omega) ?_; intro a9 c9 w9 hO9 hG9 hN9
        refine hK _ _ ?_
        clear hK K
        have HNE := Lib.hid (own_ne hN9 HX4.out.ne (by have := HX4.out.tw.lt; simp; omega))
        have HTA := Lib.hid (HX4.out.alloc (.cells #[.int .i64 y, .string tx] 53))
        have HT9 := Lib.hid (HTA.out.tw.grown hG9 (fun e => HTA.out.ne _ e rfl))
        have HXN : Hid (TXS a n cap bs g w T seq (l ++ [(y, tx)]) a9 c9 s4 (w9.setCell ⟨T, 1, none⟩ (.slice a9 (l.length + 1) c9))) := Lib.hid (by
          have hw : wrs (l ++ [(y, tx)]) = wrs l ++ [.int .i64 y, .string tx] := by rw [wrs_append]; rfl
          have := HTA.out.outs (l' := l ++ [(y, tx)]) (q' := a9) (c' := c9) (by rw [hw, List.length_append]; exact hO9.self) (by rw [List.length_append]; exact HNE.out) hG9 (outsOk_snoc HX4.out.ok.2 ⟨⟨by omega, by omega⟩, by dsimp only; omega⟩)
          rw [List.length_append] at this
          exact this)
        have y0 := HT9.out.1.1
        have y1 := HT9.out.1.2
        have v1 := HT9.out.2.2
        have hzT := HT9.out.lt
        clear hO9 hG9 hN9 HNE HTA HX4 t4
        refine wpAny_take (i := 8) (v := ?_) rfl (by kernel_rfl) (by kernel_rfl) (by kernel_rfl) (fun _ _ _ h => h) (Or.inl ⟨by rfl, ?hy⟩) ?_; (case hy => (intro w; go_simp; try with_reducible rfl))
        refine wpAny_ready (rs := [9]) (by kernel_rfl) (by simp) ?_
        refine AllReady.cons rfl (fun K hK => ?_) AllReady.nil
        go_simp
        refine hK _ _ ?_
        clear hK K
        refine wpAny_done (by kernel_rfl) ?_ _
        clear y0 y1 v1 hzT
        go_wp2_with fail
        refine (l1Below_any a n cap bs g _ 5 _ HXN.out.cu (by omega)).mono ?_
        rintro e w5 ⟨rfl, hC5, hG5⟩
        have hr5 := belowF_range bs 5 s4 (by omega)
        have HX5 := Lib.hid (HXN.out.step hC5 hG5)
        clear hC5 hG5 HXN
        generalize (belowF bs 5 s4).2 = s5 at *
        generalize (belowF bs 5 s4).1 = k5 at *
        obtain ⟨hd0, hd1⟩ := hr5
        obtain ⟨hw1, hw2⟩ := HYW.out k5 hd0 hd1
        have hw3 : IntKind.i64.wrap ((gk : Int) - 1) = (gk : Int) - 1 := IntWalk.i64_in _ ⟨by omega, by omega⟩
        go_wp2
        go_roundg (gk - 1)
        case measure => omega
        case rel => exact ⟨l ++ [(y, tx)], y + 1 + k5, s5, a9, c9, by go_num, rfl, by omega, by rw [List.length_append]; simp; omega, by rw [List.length_append]; simp; omega, HX5⟩
      · go_simp
        go_at_call 120
        refine (l1Text_any a n cap bs g sk 9 _ HX.out.drew.cu (by omega) (by omega)).mono ?_
        rintro e w4 ⟨rfl, hC4, hG4⟩
        have HX4 := Lib.hid (HX.out.drew.step hC4 hG4)
        have t4 := HX4.out.tw.1.2
        clear hC4 hG4
        refine hK2 _ _ ?_
        clear hK2 K2
        generalize (textF bs 9 sk).2 = s4 at *
        generalize (textF bs 9 sk).1 = tx at *
        try simp only at HX4
        refine wpAny_take (i := 5) (v := ?_) rfl (by kernel_rfl) (by kernel_rfl) (by kernel_rfl) (fun _ _ _ h => h) (Or.inl ⟨by rfl, ?hy⟩) ?_; (case hy => (intro w; go_simp; try with_reducible rfl))
        refine wpAny_ready (rs := [1, 6]) (by kernel_rfl) (by simp) ?_
        refine AllReady.cons rfl (fun K2 hK2 => ?_) (AllReady.cons rfl (fun K2 hK2 => ?_) AllReady.nil)
        · go_simp
          refine hK2 _ _ ?_
          clear hK2 K2
          refine wpAny_ready (rs := [6]) (by kernel_rfl) (by simp) ?_
          refine AllReady.cons rfl (fun K hK => ?_) AllReady.nil
          go_simp
          refine hK _ _ ?_
          clear hK K
          refine wpAny_ready (rs := [7]) (by kernel_rfl) (by simp) ?_
          refine AllReady.cons rfl (fun K hK => ?_) AllReady.nil
          refine step_appn rfl _ _ 30 rfl 53 (.agg #[.int .i64 0, .string ByteArray.empty]) 2 24 Try.underlying30 info_wr rfl (by decide) _ _ _ _ _ (by rfl) (by exact (HX4.out.ow.alloc _)) _ 1 1 _ (by rfl) (by exact lit_rd rfl (by decide)) (by intro u hu; simp at hu; rcases hu with rfl | rfl <;> rfl) (by omega) (by unfold maxLen; omega) ?_; intro a9 c9 w9 hO9 hG9 hN9
          refine hK _ _ ?_
          clear hK K
          have HNE := Lib.hid (own_ne hN9 HX4.out.ne (by have := HX4.out.tw.lt; simp; omega))
          have HTA := Lib.hid (HX4.out.alloc (.cells #[.int .i64 y, .string tx] 53))
          have HT9 := Lib.hid (HTA.out.tw.grown hG9 (fun e => HTA.out.ne _ e rfl))
          have HXN : Hid (TXS a n cap bs g w T seq (l ++ [(y, tx)]) a9 c9 s4 (w9.setCell ⟨T, 1, none⟩ (.slice a9 (l.length + 1) c9))) := Lib.hid (by
            have hw : wrs (l ++ [(y, tx)]) = wrs l ++ [.int .i64 y, .string tx] := by rw [wrs_append]; rfl
            have := HTA.out.outs (l' := l ++ [(y, tx)]) (q' := a9) (c' := c9) (by rw [hw, List.length_append]; exact hO9.self) (by rw [List.length_append]; exact HNE.out) hG9 (outsOk_snoc HX4.out.ok.2 ⟨⟨by omega, by omega⟩, by dsimp only; omega⟩)
            rw [List.length_append] at this
            exact this)
          have y0 := HT9.out.1.1
          have y1 := HT9.out.1.2
          have v1 := HT9.out.2.2
          have hzT := HT9.out.lt
          clear hO9 hG9 hN9 HNE HTA HX4 t4
          refine wpAny_take (i := 8) (v := ?_) rfl (by kernel_rfl) (by kernel_rfl) (by kernel_rfl) (fun _ _ _ h => h) (Or.inl ⟨by rfl, ?hy⟩) ?_; (case hy => (intro w; go_simp; try with_reducible rfl))
          refine wpAny_ready (rs := [9]) (by kernel_rfl) (by simp) ?_
          refine AllReady.cons rfl (fun K hK => ?_) AllReady.nil
          go_simp
          refine hK _ _ ?_
          clear hK K
          refine wpAny_done (by kernel_rfl) ?_ _
          clear y0 y1 v1 hzT
          go_wp2_with fail
          refine (l1Below_any a n cap bs g _ 5 _ HXN.out.cu (by omega)).mono ?_
          rintro e w5 ⟨rfl, hC5, hG5⟩
          have hr5 := belowF_range bs 5 s4 (by omega)
          have HX5 := Lib.hid (HXN.out.step hC5 hG5)
          clear hC5 hG5 HXN
          generalize (belowF bs 5 s4).2 = s5 at *
          generalize (belowF bs 5 s4).1 = k5 at *
          obtain ⟨hd0, hd1⟩ := hr5
          obtain ⟨hw1, hw2⟩ := HYW.out k5 hd0 hd1
          have hw3 : IntKind.i64.wrap ((gk : Int) - 1) = (gk : Int) - 1 := IntWalk.i64_in _ ⟨by omega, by omega⟩
          go_wp2
          go_roundg (gk - 1)
          case measure => omega
          case rel => exact ⟨l ++ [(y, tx)], y + 1 + k5, s5, a9, c9, by go_num, rfl, by omega, by rw [List.length_append]; simp; omega, by rw [List.length_append]; simp; omega, HX5⟩
        · have htl4 := HX4.out.tw.lt
          go_simp
          refine hK2 _ _ ?_
          clear hK2 K2
          refine wpAny_ready (rs := [1]) (by kernel_rfl) (by simp) ?_
          refine AllReady.cons rfl (fun K hK => ?_) AllReady.nil
          go_simp
          refine hK _ _ ?_
          clear hK K
          clear htl4
          refine wpAny_ready (rs := [7]) (by kernel_rfl) (by simp) ?_
          refine AllReady.cons rfl (fun K hK => ?_) AllReady.nil
          refine step_appn rfl _ _ 30 rfl 53 (.agg #[.int .i64 0, .string ByteArray.empty]) 2 24 Try.underlying30 info_wr rfl (by decide) _ _ _ _ _ (by rfl) (by exact (HX4.out.ow.alloc _)) _ 1 1 _ (by rfl) (by exact lit_rd rfl (by decide)) (by intro u hu; simp at hu; rcases hu with rfl | rfl <;> rfl) (by omega) (by unfold maxLen; omega) ?_; intro a9 c9 w9 hO9 hG9 hN9
          refine hK _ _ ?_
          clear hK K
          have HNE := Lib.hid (own_ne hN9 HX4.out.ne (by have := HX4.out.tw.lt; simp; omega))
          have HTA := Lib.hid (HX4.out.alloc (.cells #[.int .i64 y, .string tx] 53))
          have HT9 := Lib.hid (HTA.out.tw.grown hG9 (fun e => HTA.out.ne _ e rfl))
          have HXN : Hid (TXS a n cap bs g w T seq (l ++ [(y, tx)]) a9 c9 s4 (w9.setCell ⟨T, 1, none⟩ (.slice a9 (l.length + 1) c9))) := Lib.hid (by
            have hw : wrs (l ++ [(y, tx)]) = wrs l ++ [.int .i64 y, .string tx] := by rw [wrs_append]; rfl
            have := HTA.out.outs (l' := l ++ [(y, tx)]) (q' := a9) (c' := c9) (by rw [hw, List.length_append]; exact hO9.self) (by rw [List.length_append]; exact HNE.out) hG9 (outsOk_snoc HX4.out.ok.2 ⟨⟨by omega, by omega⟩, by dsimp only; omega⟩)
            rw [List.length_append] at this
            exact this)
          have y0 := HT9.out.1.1
          have y1 := HT9.out.1.2
          have v1 := HT9.out.2.2
          have hzT := HT9.out.lt
          clear hO9 hG9 hN9 HNE HTA HX4 t4
          refine wpAny_take (i := 8) (v := ?_) rfl (by kernel_rfl) (by kernel_rfl) (by kernel_rfl) (fun _ _ _ h => h) (Or.inl ⟨by rfl, ?hy⟩) ?_; (case hy => (intro w; go_simp; try with_reducible rfl))
          refine wpAny_ready (rs := [9]) (by kernel_rfl) (by simp) ?_
          refine AllReady.cons rfl (fun K hK => ?_) AllReady.nil
          go_simp
          refine hK _ _ ?_
          clear hK K
          refine wpAny_done (by kernel_rfl) ?_ _
          clear y0 y1 v1 hzT
          go_wp2_with fail
          refine (l1Below_any a n cap bs g _ 5 _ HXN.out.cu (by omega)).mono ?_
          rintro e w5 ⟨rfl, hC5, hG5⟩
          have hr5 := belowF_range bs 5 s4 (by omega)
          have HX5 := Lib.hid (HXN.out.step hC5 hG5)
          clear hC5 hG5 HXN
          generalize (belowF bs 5 s4).2 = s5 at *
          generalize (belowF bs 5 s4).1 = k5 at *
          obtain ⟨hd0, hd1⟩ := hr5
          obtain ⟨hw1, hw2⟩ := HYW.out k5 hd0 hd1
          have hw3 : IntKind.i64.wrap ((gk : Int) - 1) = (gk : Int) - 1 := IntWalk.i64_in _ ⟨by omega, by omega⟩
          go_wp2
          go_roundg (gk - 1)
          case measure => omega
          case rel => exact ⟨l ++ [(y, tx)], y + 1 + k5, s5, a9, c9, by go_num, rfl, by omega, by rw [List.length_append]; simp; omega, by rw [List.length_append]; simp; omega, HX5⟩
    · have hcase : gk = 0 ∨ (0 < gk ∧ ¬ y < 17) := by omega
      have hll : l.length ≤ 4 := by omega
      have HLN : Hid (0 < l.length) := Lib.hid (by omega)
      rcases hcase with h0 | ⟨h0, h17⟩
      · have hgi : ¬ (0 : Int) < (gk : Int) := by omega
        go_wp2_with fail
        refine (l1Once_any a n cap bs g sk 10 _ HX.out.cu (by omega)).mono ?_
        rintro e w4 ⟨rfl, hC1, hG1⟩
        have HX4 := Lib.hid (HX.out.step hC1 hG1)
        clear hC1 hG1 HX
        simp only at HX4 ⊢
        generalize (belowF bs 10 sk).2 = s4 at *
        generalize ((belowF bs 10 sk).1 == 0) = t4 at *
        cases t4 with
        | false =>
          have hTl := HX4.out.tw.lt
          have hRl := HX4.out.rs.lt
          have ht0 := HX4.out.tw.1.1
          have ht1 := HX4.out.tw.1.2
          have hq0 := HX4.out.rs.1.1
          have hq1 := HX4.out.rs.1.2
          have hf0 := HX4.out.rs.2.1
          have hf1 := HX4.out.rs.2.2
          go_wp2
          refine bodyPost_ret (v := .agg #[.int .i64 seq, .slice q l.length c]) (by simp [results, Try.results105, go_sem, hq0, hq1, hRl]) rfl ?_
          exact HX4.out.ret (by first | omega | (simp; done) | (simp; omega))
        | true =>
          go_wp2_with fail
          refine (l1Below_any a n cap bs g _ 4 _ HX4.out.cu (by omega)).mono ?_
          rintro e w5 ⟨rfl, hC1, hG1⟩
          have HX5 := Lib.hid (HX4.out.step hC1 hG1)
          clear hC1 hG1 HX4
          simp only at HX5 ⊢
          generalize (belowF bs 4 s4).2 = s5 at *
          generalize (belowF bs 4 s4).1 = m at *
          by_cases m0 : m = 0
          · subst m0
            go_wp2_with fail
            refine (l1PickInt_any a n cap bs g s5 _ 4 4 [-1, 0, 1000000, 1000001] _ (HX5.out.cu.alloc _) (by exact lit_rd (news := (ints [-1, 0, 1000000, 1000001]).toArray) rfl (by decide)) (fun x hx => by cases hx; have := HX5.out.cu.lt; show w5.heap.size ≠ g; omega) (by omega) (by omega)).mono ?_
            rintro e w6 ⟨rfl, hC1, hG1⟩
            have hk6 := getD_range [-1, 0, 1000000, 1000001] (-1) 1000001 (by decide) (by decide) (belowF bs 4 s5).1.toNat
            have HX6 := Lib.hid ((HX5.out.alloc (.cells #[.int .i64 (-1), .int .i64 0, .int .i64 1000000, .int .i64 1000001] 3)).step hC1 hG1)
            clear hC1 hG1 HX5
            simp only at HX6 ⊢
            generalize List.getD [-1, 0, 1000000, 1000001] (belowF bs 4 s5).1.toNat 0 = z at *
            have HX7 := Lib.hid (HX6.out.seq z ⟨by omega, by omega⟩)
            have hu0 := HX6.out.tw.1.1
            have hu1 := HX6.out.tw.1.2
            have huf := HX6.out.tw.2.1
            have hul := HX6.out.tw.lt
            have hTl := HX7.out.tw.lt
            have hRl := HX7.out.rs.lt
            have ht0 := HX7.out.tw.1.1
            have ht1 := HX7.out.tw.1.2
            have hq0 := HX7.out.rs.1.1
            have hq1 := HX7.out.rs.1.2
            have hf0 := HX7.out.rs.2.1
            have hf1 := HX7.out.rs.2.2
            go_wp2
            refine bodyPost_ret (v := .agg #[.int .i64 z, .slice q l.length c]) (by simp [results, Try.results105, go_sem, hq0, hq1, hRl]) rfl ?_
            exact HX7.out.ret (by first | omega | (simp; done) | (simp; omega))
          · by_cases m1 : m = 1
            · subst m1
              have hu0 := HX5.out.tw.1.1
              have hu1 := HX5.out.tw.1.2
              have huf := HX5.out.tw.2.2
              have hul := HX5.out.tw.lt
              have HX7 : Hid (TXS a n cap bs g w T seq [] (some ⟨w5.heap.size, 0, none⟩) 0 s5 ((w5.alloc (.cells #[] 53)).setCell ⟨T, 1, none⟩ (.slice (some ⟨w5.heap.size, 0, none⟩) 0 0))) := Lib.hid (by
                have hwl : w.heap.size < w5.heap.size := HX5.out.rs.lt
                exact (HX5.out).outs (l' := []) (q' := some ⟨w5.heap.size, 0, none⟩) (c' := 0) (Own.lit (n := 0) (Below.refl _ _) (by omega) #[] (by simp) (by decide)).self (fun k hk => by cases hk; dsimp only; omega) (World.grownBy_alloc _ _ _) (fun x hx => by cases hx))
              clear m0
              have e7 : (w5.alloc (.cells #[] 53)).setCell ⟨T, 1, none⟩ (.slice (some ⟨w5.heap.size, 0, none⟩) 0 0) = (w5.setCell ⟨T, 1, none⟩ (.slice (some ⟨w5.heap.size, 0, none⟩) 0 0)).alloc (.cells #[] 53) := by go_simp
              rw [e7] at HX7
              clear e7
              go_upto_region 21 with (fail)
              refine wp_gens (fun W => TXS a n cap bs g w T seq [] (some ⟨w5.heap.size, 0, none⟩) 0 s5 W) (by exact HX7.out) ?_
              intro W9 hX9
              have HX9 := Lib.hid hX9
              clear hX9 HX7 hu0 hu1 huf
              have hTl := HX9.out.tw.lt
              have hRl := HX9.out.rs.lt
              have ht0 := HX9.out.tw.1.1
              have ht1 := HX9.out.tw.1.2
              have hq0 := HX9.out.rs.1.1
              have hq1 := HX9.out.rs.1.2
              have hf0 := HX9.out.rs.2.1
              have hf1 := HX9.out.rs.2.2
              go_wp2
              refine bodyPost_ret (v := .agg #[.int .i64 seq, .slice (some ⟨w5.heap.size, 0, none⟩) 0 0]) (by simp [results, Try.results105, go_sem, hq0, hq1, hRl]) rfl ?_
              exact HX9.out.ret (by first | omega | (simp; done) | (simp; omega))
            · by_cases m2 : m = 2
              · subst m2
                clear m0 m1
                have ht1 := HX5.out.tw.1.2
                have hTl := HX5.out.tw.lt
                go_wp2
                refine wp_region_any (by kernel_rfl) ?_
                try (change wpAny _ _ _ _ _ _ _ (World.drew _))
                refine wpAny_take (i := 0) (v := ?_) rfl (by kernel_rfl) (by kernel_rfl) (by kernel_rfl) (fun _ _ _ h => h) (Or.inl ⟨by rfl, ?hy⟩) ?_; (case hy => (intro w; go_simp; try with_reducible rfl))
                refine wpAny_take (i := 2) (v := ?_) rfl (by kernel_rfl) (by kernel_rfl) (by kernel_rfl) (fun _ _ _ h => h) (Or.inl ⟨by rfl, ?hy⟩) ?_; (case hy => (intro w; go_simp; try with_reducible rfl))
                refine wpAny_ready (rs := [1, 3]) (by kernel_rfl) (by simp) ?_
                refine AllReady.cons rfl (fun K2 hK2 => ?_) (AllReady.cons rfl (fun K2 hK2 => ?_) AllReady.nil)
                · go_simp
                  refine hK2 _ _ ?_
                  clear hK2 K2
                  refine wpAny_ready (rs := [3]) (by kernel_rfl) (by simp) ?_
                  refine AllReady.cons rfl (fun K hK => ?_) AllReady.nil
                  go_simp
                  refine hK _ _ ?_
                  clear hK K
                  refine wpAny_ready (rs := [4]) (by kernel_rfl) (by simp) ?_
                  refine AllReady.cons rfl (fun K2 hK2 => ?_) AllReady.nil
                  go_simp
                  go_at_call 79
                  refine (l1PickInt_any a n cap bs g s5 _ 3 3 [0, 16, 17] _ (HX5.out.drew.cu.alloc _) (by exact lit_rd (news := (ints [0, 16, 17]).toArray) rfl (by decide)) (fun x hx => by cases hx; have := HX5.out.cu.lt; show w5.heap.size ≠ g; omega) (by omega) (by omega)).mono ?_
                  rintro e w6 ⟨rfl, hC1, hG1⟩
                  have hk6 := getD_range ([0, 16, 17] : List Int) 0 17 (by decide) (by decide) (belowF bs 3 s5).1.toNat
                  have HX6 := Lib.hid ((HX5.out.drew.alloc (.cells #[.int .i64 0, .int .i64 16, .int .i64 17] 3)).step hC1 hG1)
                  clear hC1 hG1
                  simp only at HX6 ⊢
                  generalize List.getD ([0, 16, 17] : List Int) (belowF bs 3 s5).1.toNat 0 = z at *
                  have hTl6 := HX6.out.tw.lt
                  have t6 := HX6.out.tw.1.2
                  refine hK2 _ _ ?_
                  clear hK2 K2
                  refine wpAny_take (i := 5) (v := ?_) rfl (by kernel_rfl) (by kernel_rfl) (by kernel_rfl) (fun _ _ _ h => h) (Or.inl ⟨by rfl, ?hy⟩) ?_; (case hy => (intro w; go_simp; try with_reducible rfl))
                  refine wpAny_ready (rs := [6]) (by kernel_rfl) (by simp) ?_
                  refine AllReady.cons rfl (fun K hK => ?_) AllReady.nil
                  go_simp
                  refine hK _ _ ?_
                  clear hK K
                  refine wpAny_ready (rs := [7]) (by kernel_rfl) (by simp) ?_
                  refine AllReady.cons rfl (fun K hK => ?_) AllReady.nil
                  refine step_appn rfl _ _ 30 rfl 53 (.agg #[.int .i64 0, .string ByteArray.empty]) 2 24 Try.underlying30 info_wr rfl (by decide) _ _ _ _ _ (by rfl) (by exact (HX6.out.ow.alloc _)) _ 1 1 _ (by rfl) (by exact lit_rd rfl (by decide)) (by intro u hu; simp at hu; rcases hu with rfl | rfl <;> rfl) (by omega) (by unfold maxLen; omega) ?_; intro a9 c9 w9 hO9 hG9 hN9
                  refine hK _ _ ?_
                  clear hK K
                  have HNE := Lib.hid (own_ne hN9 HX6.out.ne (by have := HX6.out.tw.lt; simp; omega))
                  have HTA := Lib.hid (HX6.out.alloc (.cells #[.int .i64 z, .string ByteArray.empty] 53))
                  have HT9 := Lib.hid (HTA.out.tw.grown hG9 (fun e => HTA.out.ne _ e rfl))
                  have HXN : Hid (TXS a n cap bs g w T seq (l ++ [(z, ByteArray.empty)]) a9 c9 (belowF bs 3 s5).2 (w9.setCell ⟨T, 1, none⟩ (.slice a9 (l.length + 1) c9))) := Lib.hid (by
                    have hw : wrs (l ++ [(z, ByteArray.empty)]) = wrs l ++ [.int .i64 z, .string ByteArray.empty] := by rw [wrs_append]; rfl
                    have := HTA.out.outs (l' := l ++ [(z, ByteArray.empty)]) (q' := a9) (c' := c9) (by rw [hw, List.length_append]; exact hO9.self) (by rw [List.length_append]; exact HNE.out) hG9 (outsOk_snoc HX6.out.ok.2 ⟨⟨by omega, by omega⟩, by show (0 : Nat) ≤ 1000; omega⟩)
                    rw [List.length_append] at this
                    exact this)
                  have HLL : Hid ((l ++ [(z, ByteArray.empty)]).length = l.length + 1) := Lib.hid (by simp)
                  have y0 := HT9.out.1.1
                  have y1 := HT9.out.1.2
                  have v1 := HT9.out.2.2
                  have hzT := HT9.out.lt
                  clear hO9 hG9 hN9 HNE HTA HX6 t6 ht1 hTl hTl6
                  refine wpAny_take (i := 8) (v := ?_) rfl (by kernel_rfl) (by kernel_rfl) (by kernel_rfl) (fun _ _ _ h => h) (Or.inl ⟨by rfl, ?hy⟩) ?_; (case hy => (intro w; go_simp; try with_reducible rfl))
                  refine wpAny_ready (rs := [9]) (by kernel_rfl) (by simp) ?_
                  refine AllReady.cons rfl (fun K hK => ?_) AllReady.nil
                  go_simp
                  refine hK _ _ ?_
                  clear hK K
                  refine wpAny_done (by kernel_rfl) ?_ _
                  clear y0 y1 v1 hzT
                  have hTl := HXN.out.tw.lt
                  have hRl := HXN.out.rs.lt
                  have ht0 := HXN.out.tw.1.1
                  have ht1 := HXN.out.tw.1.2
                  have hq0 := HXN.out.rs.1.1
                  have hq1 := HXN.out.rs.1.2
                  have hf0 := HXN.out.rs.2.1
                  have hf1 := HXN.out.rs.2.2
                  rw [HLL.out] at ht1
                  go_wp2
                  refine bodyPost_ret (v := .agg #[.int .i64 seq, .slice a9 (l.length + 1) c9]) (by simp [results, Try.results105, go_sem, hq0, hq1, hRl]) rfl ?_
                  have hre := HXN.out.ret (by rw [HLL.out]; omega)
                  rw [HLL.out] at hre
                  exact hre
                · go_simp
                  refine hK2 _ _ ?_
                  clear hK2 K2
                  refine wpAny_ready (rs := [1, 4]) (by kernel_rfl) (by simp) ?_
                  refine AllReady.cons rfl (fun K2 hK2 => ?_) (AllReady.cons rfl (fun K2 hK2 => ?_) AllReady.nil)
                  · go_simp
                    refine hK2 _ _ ?_
                    clear hK2 K2
                    refine wpAny_ready (rs := [4]) (by kernel_rfl) (by simp) ?_
                    refine AllReady.cons rfl (fun K2 hK2 => ?_) AllReady.nil
                    go_simp
                    go_at_call 79
                    refine (l1PickInt_any a n cap bs g s5 _ 3 3 [0, 16, 17] _ (HX5.out.drew.cu.alloc _) (by exact lit_rd (news := (ints [0, 16, 17]).toArray) rfl (by decide)) (fun x hx => by cases hx; have := HX5.out.cu.lt; show w5.heap.size ≠ g; omega) (by omega) (by omega)).mono ?_
                    rintro e w6 ⟨rfl, hC1, hG1⟩
                    have hk6 := getD_range ([0, 16, 17] : List Int) 0 17 (by decide) (by decide) (belowF bs 3 s5).1.toNat
                    have HX6 := Lib.hid ((HX5.out.drew.alloc (.cells #[.int .i64 0, .int .i64 16, .int .i64 17] 3)).step hC1 hG1)
                    clear hC1 hG1
                    simp only at HX6 ⊢
                    generalize List.getD ([0, 16, 17] : List Int) (belowF bs 3 s5).1.toNat 0 = z at *
                    have hTl6 := HX6.out.tw.lt
                    have t6 := HX6.out.tw.1.2
                    refine hK2 _ _ ?_
                    clear hK2 K2
                    refine wpAny_take (i := 5) (v := ?_) rfl (by kernel_rfl) (by kernel_rfl) (by kernel_rfl) (fun _ _ _ h => h) (Or.inl ⟨by rfl, ?hy⟩) ?_; (case hy => (intro w; go_simp; try with_reducible rfl))
                    refine wpAny_ready (rs := [6]) (by kernel_rfl) (by simp) ?_
                    refine AllReady.cons rfl (fun K hK => ?_) AllReady.nil
                    go_simp
                    refine hK _ _ ?_
                    clear hK K
                    refine wpAny_ready (rs := [7]) (by kernel_rfl) (by simp) ?_
                    refine AllReady.cons rfl (fun K hK => ?_) AllReady.nil
                    refine step_appn rfl _ _ 30 rfl 53 (.agg #[.int .i64 0, .string ByteArray.empty]) 2 24 Try.underlying30 info_wr rfl (by decide) _ _ _ _ _ (by rfl) (by exact (HX6.out.ow.alloc _)) _ 1 1 _ (by rfl) (by exact lit_rd rfl (by decide)) (by intro u hu; simp at hu; rcases hu with rfl | rfl <;> rfl) (by omega) (by unfold maxLen; omega) ?_; intro a9 c9 w9 hO9 hG9 hN9
                    refine hK _ _ ?_
                    clear hK K
                    have HNE := Lib.hid (own_ne hN9 HX6.out.ne (by have := HX6.out.tw.lt; simp; omega))
                    have HTA := Lib.hid (HX6.out.alloc (.cells #[.int .i64 z, .string ByteArray.empty] 53))
                    have HT9 := Lib.hid (HTA.out.tw.grown hG9 (fun e => HTA.out.ne _ e rfl))
                    have HXN : Hid (TXS a n cap bs g w T seq (l ++ [(z, ByteArray.empty)]) a9 c9 (belowF bs 3 s5).2 (w9.setCell ⟨T, 1, none⟩ (.slice a9 (l.length + 1) c9))) := Lib.hid (by
                      have hw : wrs (l ++ [(z, ByteArray.empty)]) = wrs l ++ [.int .i64 z, .string ByteArray.empty] := by rw [wrs_append]; rfl
                      have := HTA.out.outs (l' := l ++ [(z, ByteArray.empty)]) (q' := a9) (c' := c9) (by rw [hw, List.length_append]; exact hO9.self) (by rw [List.length_append]; exact HNE.out) hG9 (outsOk_snoc HX6.out.ok.2 ⟨⟨by omega, by omega⟩, by show (0 : Nat) ≤ 1000; omega⟩)
                      rw [List.length_append] at this
                      exact this)
                    have HLL : Hid ((l ++ [(z, ByteArray.empty)]).length = l.length + 1) := Lib.hid (by simp)
                    have y0 := HT9.out.1.1
                    have y1 := HT9.out.1.2
                    have v1 := HT9.out.2.2
                    have hzT := HT9.out.lt
                    clear hO9 hG9 hN9 HNE HTA HX6 t6 ht1 hTl hTl6
                    refine wpAny_take (i := 8) (v := ?_) rfl (by kernel_rfl) (by kernel_rfl) (by kernel_rfl) (fun _ _ _ h => h) (Or.inl ⟨by rfl, ?hy⟩) ?_; (case hy => (intro w; go_simp; try with_reducible rfl))
                    refine wpAny_ready (rs := [9]) (by kernel_rfl) (by simp) ?_
                    refine AllReady.cons rfl (fun K hK => ?_) AllReady.nil
                    go_simp
                    refine hK _ _ ?_
                    clear hK K
                    refine wpAny_done (by kernel_rfl) ?_ _
                    clear y0 y1 v1 hzT
                    have hTl := HXN.out.tw.lt
                    have hRl := HXN.out.rs.lt
                    have ht0 := HXN.out.tw.1.1
                    have ht1 := HXN.out.tw.1.2
                    have hq0 := HXN.out.rs.1.1
                    have hq1 := HXN.out.rs.1.2
                    have hf0 := HXN.out.rs.2.1
                    have hf1 := HXN.out.rs.2.2
                    rw [HLL.out] at ht1
                    go_wp2
                    refine bodyPost_ret (v := .agg #[.int .i64 seq, .slice a9 (l.length + 1) c9]) (by simp [results, Try.results105, go_sem, hq0, hq1, hRl]) rfl ?_
                    have hre := HXN.out.ret (by rw [HLL.out]; omega)
                    rw [HLL.out] at hre
                    exact hre
                  · go_simp
                    go_at_call 79
                    refine (l1PickInt_any a n cap bs g s5 _ 3 3 [0, 16, 17] _ (HX5.out.drew.cu.alloc _) (by exact lit_rd (news := (ints [0, 16, 17]).toArray) rfl (by decide)) (fun x hx => by cases hx; have := HX5.out.cu.lt; show w5.heap.size ≠ g; omega) (by omega) (by omega)).mono ?_
                    rintro e w6 ⟨rfl, hC1, hG1⟩
                    have hk6 := getD_range ([0, 16, 17] : List Int) 0 17 (by decide) (by decide) (belowF bs 3 s5).1.toNat
                    have HX6 := Lib.hid ((HX5.out.drew.alloc (.cells #[.int .i64 0, .int .i64 16, .int .i64 17] 3)).step hC1 hG1)
                    clear hC1 hG1
                    simp only at HX6 ⊢
                    generalize List.getD ([0, 16, 17] : List Int) (belowF bs 3 s5).1.toNat 0 = z at *
                    have hTl6 := HX6.out.tw.lt
                    have t6 := HX6.out.tw.1.2
                    refine hK2 _ _ ?_
                    clear hK2 K2
                    refine wpAny_take (i := 5) (v := ?_) rfl (by kernel_rfl) (by kernel_rfl) (by kernel_rfl) (fun _ _ _ h => h) (Or.inl ⟨by rfl, ?hy⟩) ?_; (case hy => (intro w; go_simp; try with_reducible rfl))
                    refine wpAny_ready (rs := [1, 6]) (by kernel_rfl) (by simp) ?_
                    refine AllReady.cons rfl (fun K2 hK2 => ?_) (AllReady.cons rfl (fun K2 hK2 => ?_) AllReady.nil)
                    · go_simp
                      refine hK2 _ _ ?_
                      clear hK2 K2
                      refine wpAny_ready (rs := [6]) (by kernel_rfl) (by simp) ?_
                      refine AllReady.cons rfl (fun K hK => ?_) AllReady.nil
                      go_simp
                      refine hK _ _ ?_
                      clear hK K
                      refine wpAny_ready (rs := [7]) (by kernel_rfl) (by simp) ?_
                      refine AllReady.cons rfl (fun K hK => ?_) AllReady.nil
                      refine step_appn rfl _ _ 30 rfl 53 (.agg #[.int .i64 0, .string ByteArray.empty]) 2 24 Try.underlying30 info_wr rfl (by decide) _ _ _ _ _ (by rfl) (by exact (HX6.out.ow.alloc _)) _ 1 1 _ (by rfl) (by exact lit_rd rfl (by decide)) (by intro u hu; simp at hu; rcases hu with rfl | rfl <;> rfl) (by omega) (by unfold maxLen; omega) ?_; intro a9 c9 w9 hO9 hG9 hN9
                      refine hK _ _ ?_
                      clear hK K
                      have HNE := Lib.hid (own_ne hN9 HX6.out.ne (by have := HX6.out.tw.lt; simp; omega))
                      have HTA := Lib.hid (HX6.out.alloc (.cells #[.int .i64 z, .string ByteArray.empty] 53))
                      have HT9 := Lib.hid (HTA.out.tw.grown hG9 (fun e => HTA.out.ne _ e rfl))
                      have HXN : Hid (TXS a n cap bs g w T seq (l ++ [(z, ByteArray.empty)]) a9 c9 (belowF bs 3 s5).2 (w9.setCell ⟨T, 1, none⟩ (.slice a9 (l.length + 1) c9))) := Lib.hid (by
                        have hw : wrs (l ++ [(z, ByteArray.empty)]) = wrs l ++ [.int .i64 z, .string ByteArray.empty] := by rw [wrs_append]; rfl
                        have := HTA.out.outs (l' := l ++ [(z, ByteArray.empty)]) (q' := a9) (c' := c9) (by rw [hw, List.length_append]; exact hO9.self) (by rw [List.length_append]; exact HNE.out) hG9 (outsOk_snoc HX6.out.ok.2 ⟨⟨by omega, by omega⟩, by show (0 : Nat) ≤ 1000; omega⟩)
                        rw [List.length_append] at this
                        exact this)
                      have HLL : Hid ((l ++ [(z, ByteArray.empty)]).length = l.length + 1) := Lib.hid (by simp)
                      have y0 := HT9.out.1.1
                      have y1 := HT9.out.1.2
                      have v1 := HT9.out.2.2
                      have hzT := HT9.out.lt
                      clear hO9 hG9 hN9 HNE HTA HX6 t6 ht1 hTl hTl6
                      refine wpAny_take (i := 8) (v := ?_) rfl (by kernel_rfl) (by kernel_rfl) (by kernel_rfl) (fun _ _ _ h => h) (Or.inl ⟨by rfl, ?hy⟩) ?_; (case hy => (intro w; go_simp; try with_reducible rfl))
                      refine wpAny_ready (rs := [9]) (by kernel_rfl) (by simp) ?_
                      refine AllReady.cons rfl (fun K hK => ?_) AllReady.nil
                      go_simp
                      refine hK _ _ ?_
                      clear hK K
                      refine wpAny_done (by kernel_rfl) ?_ _
                      clear y0 y1 v1 hzT
                      have hTl := HXN.out.tw.lt
                      have hRl := HXN.out.rs.lt
                      have ht0 := HXN.out.tw.1.1
                      have ht1 := HXN.out.tw.1.2
                      have hq0 := HXN.out.rs.1.1
                      have hq1 := HXN.out.rs.1.2
                      have hf0 := HXN.out.rs.2.1
                      have hf1 := HXN.out.rs.2.2
                      rw [HLL.out] at ht1
                      go_wp2
                      refine bodyPost_ret (v := .agg #[.int .i64 seq, .slice a9 (l.length + 1) c9]) (by simp [results, Try.results105, go_sem, hq0, hq1, hRl]) rfl ?_
                      have hre := HXN.out.ret (by rw [HLL.out]; omega)
                      rw [HLL.out] at hre
                      exact hre
                    · go_simp
                      refine hK2 _ _ ?_
                      clear hK2 K2
                      refine wpAny_ready (rs := [1]) (by kernel_rfl) (by simp) ?_
                      refine AllReady.cons rfl (fun K hK => ?_) AllReady.nil
                      go_simp
                      refine hK _ _ ?_
                      clear hK K
                      refine wpAny_ready (rs := [7]) (by kernel_rfl) (by simp) ?_
                      refine AllReady.cons rfl (fun K hK => ?_) AllReady.nil
                      refine step_appn rfl _ _ 30 rfl 53 (.agg #[.int .i64 0, .string ByteArray.empty]) 2 24 Try.underlying30 info_wr rfl (by decide) _ _ _ _ _ (by rfl) (by exact (HX6.out.ow.alloc _)) _ 1 1 _ (by rfl) (by exact lit_rd rfl (by decide)) (by intro u hu; simp at hu; rcases hu with rfl | rfl <;> rfl) (by omega) (by unfold maxLen; omega) ?_; intro a9 c9 w9 hO9 hG9 hN9
                      refine hK _ _ ?_
                      clear hK K
                      have HNE := Lib.hid (own_ne hN9 HX6.out.ne (by have := HX6.out.tw.lt; simp; omega))
                      have HTA := Lib.hid (HX6.out.alloc (.cells #[.int .i64 z, .string ByteArray.empty] 53))
                      have HT9 := Lib.hid (HTA.out.tw.grown hG9 (fun e => HTA.out.ne _ e rfl))
                      have HXN : Hid (TXS a n cap bs g w T seq (l ++ [(z, ByteArray.empty)]) a9 c9 (belowF bs 3 s5).2 (w9.setCell ⟨T, 1, none⟩ (.slice a9 (l.length + 1) c9))) := Lib.hid (by
                        have hw : wrs (l ++ [(z, ByteArray.empty)]) = wrs l ++ [.int .i64 z, .string ByteArray.empty] := by rw [wrs_append]; rfl
                        have := HTA.out.outs (l' := l ++ [(z, ByteArray.empty)]) (q' := a9) (c' := c9) (by rw [hw, List.length_append]; exact hO9.self) (by rw [List.length_append]; exact HNE.out) hG9 (outsOk_snoc HX6.out.ok.2 ⟨⟨by omega, by omega⟩, by show (0 : Nat) ≤ 1000; omega⟩)
                        rw [List.length_append] at this
                        exact this)
                      have HLL : Hid ((l ++ [(z, ByteArray.empty)]).length = l.length + 1) := Lib.hid (by simp)
                      have y0 := HT9.out.1.1
                      have y1 := HT9.out.1.2
                      have v1 := HT9.out.2.2
                      have hzT := HT9.out.lt
                      clear hO9 hG9 hN9 HNE HTA HX6 t6 ht1 hTl hTl6
                      refine wpAny_take (i := 8) (v := ?_) rfl (by kernel_rfl) (by kernel_rfl) (by kernel_rfl) (fun _ _ _ h => h) (Or.inl ⟨by rfl, ?hy⟩) ?_; (case hy => (intro w; go_simp; try with_reducible rfl))
                      refine wpAny_ready (rs := [9]) (by kernel_rfl) (by simp) ?_
                      refine AllReady.cons rfl (fun K hK => ?_) AllReady.nil
                      go_simp
                      refine hK _ _ ?_
                      clear hK K
                      refine wpAny_done (by kernel_rfl) ?_ _
                      clear y0 y1 v1 hzT
                      have hTl := HXN.out.tw.lt
                      have hRl := HXN.out.rs.lt
                      have ht0 := HXN.out.tw.1.1
                      have ht1 := HXN.out.tw.1.2
                      have hq0 := HXN.out.rs.1.1
                      have hq1 := HXN.out.rs.1.2
                      have hf0 := HXN.out.rs.2.1
                      have hf1 := HXN.out.rs.2.2
                      rw [HLL.out] at ht1
                      go_wp2
                      refine bodyPost_ret (v := .agg #[.int .i64 seq, .slice a9 (l.length + 1) c9]) (by simp [results, Try.results105, go_sem, hq0, hq1, hRl]) rfl ?_
                      have hre := HXN.out.ret (by rw [HLL.out]; omega)
                      rw [HLL.out] at hre
                      exact hre
              · have e0 : (m == 0) = false := by simp [m0]
                have e1 : (m == 1) = false := by simp [m1]
                have e2 : (m == 2) = false := by simp [m2]
                clear m0 m1 m2
                go_wp2_with fail
                refine (l1Below_any a n cap bs g _ 2 _ HX5.out.cu (by omega)).mono ?_
                rintro e w6 ⟨rfl, hC1, hG1⟩
                have hr6 := belowF_range bs 2 s5 (by omega)
                have HX6 := Lib.hid (HX5.out.step hC1 hG1)
                clear hC1 hG1 HX5
                simp only at HX6 ⊢
                generalize (belowF bs 2 s5).2 = s6 at *
                generalize (belowF bs 2 s5).1 = k6 at *
                obtain ⟨hd0, hd1⟩ := hr6
                obtain ⟨M, hM⟩ := Int.eq_ofNat_of_zero_le (show 0 ≤ 400 + k6 by omega)
                have hMw : IntKind.i64.wrap (400 + k6) = (M : Int) := by rw [← hM]; exact IntWalk.i64_in _ ⟨by omega, by omega⟩
                have hM1 : M ≤ 401 := by omega
                have HXL := Lib.hid (HX6.out.alloc (.cells #[] 5))
                have HL0 : Hid (Own 5 1 w6.heap.size w6 (.slice (some ⟨w6.heap.size, 0, none⟩) 0 0) 0 [] (w6.alloc (.cells #[] 5))) := Lib.hid (Own.lit (n := 0) (Below.refl _ _) (Nat.le_refl _) #[] (by simp) (by decide))
                have hlT : w.heap.size < w6.heap.size ∧ T < w6.heap.size := ⟨HX6.out.rs.lt, HX6.out.tw.lt⟩
                go_wp2
                go_loopg [7] M (fun gg o wr2 => ∃ (k : Nat), k + gg = M ∧ Own 5 1 w6.heap.size w6 o k (u8s (List.replicate k 66)) wr2)
                case atStart => exact ⟨0, by omega, HL0.out⟩
                case round =>
                  obtain ⟨k, hk, hO⟩ := hrel
                  obtain ⟨av, cv, rfl, _, _⟩ := hO.shape
                  by_cases hlt : k < M
                  · have hi : (k : Int) < (M : Int) := by omega
                    have HO := Lib.hid hO
                    clear hO
                    go_wp2_with (at_builtin; go_loud (refine wp_app1g rfl _ _ 47 rfl 5 (.int .u8 0) 1 1 Try.underlying47 info_u8 rfl (by decide) _ _ _ _ _ (by rfl) (by exact HO.out) _ _ (by rfl) (by rfl) (by intro u hu; simp at hu; first | (subst hu; rfl) | (rcases hu with rfl | rfl <;> rfl) | (rcases hu with rfl | rfl | rfl <;> rfl) | (rcases hu with rfl | rfl | rfl | rfl <;> rfl)) (by omega) (by unfold maxLen; omega) ?_); intro a7 c7 w7 hO7 hG7 hN7)
                    have HO8 := Lib.hid hO7
                    clear hO7 hG7 hN7
                    go_roundg (gk - 1)
                    case measure => omega
                    case rel => exact ⟨k + 1, by omega, by rw [List.replicate_succ', u8s_append]; exact HO8.out⟩
                  · have hi : ¬ (k : Int) < (M : Int) := by omega
                    have HO := Lib.hid hO
                    have HX7 := Lib.hid (HX6.out.low hO.below)
                    have hcv := run_str (P := Try.prog) 47 9 5 Try.underlying47 Try.underlying5 Try.underlying9 HO.out.rd
                    clear hO
                    obtain ⟨t8, ht8, ht8s⟩ : ∃ t8 : ByteArray, t8 = ⟨(List.replicate k (66 : UInt8)).toArray⟩ ∧ t8.size ≤ 1000 := ⟨_, rfl, by simp [ByteArray.size]; omega⟩
                    rw [← ht8] at hcv
                    clear ht8 HO HX6 HXL HL0
                    have ht1 := HX7.out.tw.1.2
                    have hTl := HX7.out.tw.lt
                    have hl0 := HLN.out
                    have hl0i : (0 : Int) < (l.length : Int) := by omega
                    obtain ⟨g2, rfl, ⟨u, hu⟩, huf, hul, hX8⟩ := HX7.out.text hl0 t8 ht8s
                    have HX8 := Lib.hid hX8
                    have HLL : Hid ((l.set 0 (l[0].1, t8)).length = l.length) := Lib.hid (by simp)
                    have hTl8 := HX8.out.tw.lt
                    have hRl := HX8.out.rs.lt
                    have k0 := HX8.out.tw.1.1
                    have k1 := HX8.out.tw.1.2
                    have hq0 := HX8.out.rs.1.1
                    have hq1 := HX8.out.rs.1.2
                    have hf0 := HX8.out.rs.2.1
                    have hf1 := HX8.out.rs.2.2
                    rw [HLL.out] at k1
                    clear hX8
                    go_wp2
                    refine bodyPost_ret (v := .agg #[.int .i64 seq, .slice (some ⟨g2, 0, none⟩) l.length c]) (by simp [results, Try.results105, go_sem, hq0, hq1, hRl]) rfl ?_
                    have hre := HX8.out.ret (by rw [HLL.out]; omega)
                    rw [HLL.out] at hre
                    exact hre
      · have hgi : (0 : Int) < (gk : Int) := by omega
        go_wp2_with fail
        refine (l1Once_any a n cap bs g sk 10 _ HX.out.cu (by omega)).mono ?_
        rintro e w4 ⟨rfl, hC1, hG1⟩
        have HX4 := Lib.hid (HX.out.step hC1 hG1)
        clear hC1 hG1 HX
        simp only at HX4 ⊢
        generalize (belowF bs 10 sk).2 = s4 at *
        generalize ((belowF bs 10 sk).1 == 0) = t4 at *
        cases t4 with
        | false =>
          have hTl := HX4.out.tw.lt
          have hRl := HX4.out.rs.lt
          have ht0 := HX4.out.tw.1.1
          have ht1 := HX4.out.tw.1.2
          have hq0 := HX4.out.rs.1.1
          have hq1 := HX4.out.rs.1.2
          have hf0 := HX4.out.rs.2.1
          have hf1 := HX4.out.rs.2.2
          go_wp2
          refine bodyPost_ret (v := .agg #[.int .i64 seq, .slice q l.length c]) (by simp [results, Try.results105, go_sem, hq0, hq1, hRl]) rfl ?_
          exact HX4.out.ret (by first | omega | (simp; done) | (simp; omega))
        | true =>
          go_wp2_with fail
          refine (l1Below_any a n cap bs g _ 4 _ HX4.out.cu (by omega)).mono ?_
          rintro e w5 ⟨rfl, hC1, hG1⟩
          have HX5 := Lib.hid (HX4.out.step hC1 hG1)
          clear hC1 hG1 HX4
          simp only at HX5 ⊢
          generalize (belowF bs 4 s4).2 = s5 at *
          generalize (belowF bs 4 s4).1 = m at *
          by_cases m0 : m = 0
          · subst m0
            go_wp2_with fail
            refine (l1PickInt_any a n cap bs g s5 _ 4 4 [-1, 0, 1000000, 1000001] _ (HX5.out.cu.alloc _) (by exact lit_rd (news := (ints [-1, 0, 1000000, 1000001]).toArray) rfl (by decide)) (fun x hx => by cases hx; have := HX5.out.cu.lt; show w5.heap.size ≠ g; omega) (by omega) (by omega)).mono ?_
            rintro e w6 ⟨rfl, hC1, hG1⟩
            have hk6 := getD_range [-1, 0, 1000000, 1000001] (-1) 1000001 (by decide) (by decide) (belowF bs 4 s5).1.toNat
            have HX6 := Lib.hid ((HX5.out.alloc (.cells #[.int .i64 (-1), .int .i64 0, .int .i64 1000000, .int .i64 1000001] 3)).step hC1 hG1)
            clear hC1 hG1 HX5
            simp only at HX6 ⊢
            generalize List.getD [-1, 0, 1000000, 1000001] (belowF bs 4 s5).1.toNat 0 = z at *
            have HX7 := Lib.hid (HX6.out.seq z ⟨by omega, by omega⟩)
            have hu0 := HX6.out.tw.1.1
            have hu1 := HX6.out.tw.1.2
            have huf := HX6.out.tw.2.1
            have hul := HX6.out.tw.lt
            have hTl := HX7.out.tw.lt
            have hRl := HX7.out.rs.lt
            have ht0 := HX7.out.tw.1.1
            have ht1 := HX7.out.tw.1.2
            have hq0 := HX7.out.rs.1.1
            have hq1 := HX7.out.rs.1.2
            have hf0 := HX7.out.rs.2.1
            have hf1 := HX7.out.rs.2.2
            go_wp2
            refine bodyPost_ret (v := .agg #[.int .i64 z, .slice q l.length c]) (by simp [results, Try.results105, go_sem, hq0, hq1, hRl]) rfl ?_
            exact HX7.out.ret (by first | omega | (simp; done) | (simp; omega))
          · by_cases m1 : m = 1
            · subst m1
              have hu0 := HX5.out.tw.1.1
              have hu1 := HX5.out.tw.1.2
              have huf := HX5.out.tw.2.2
              have hul := HX5.out.tw.lt
              have HX7 : Hid (TXS a n cap bs g w T seq [] (some ⟨w5.heap.size, 0, none⟩) 0 s5 ((w5.alloc (.cells #[] 53)).setCell ⟨T, 1, none⟩ (.slice (some ⟨w5.heap.size, 0, none⟩) 0 0))) := Lib.hid (by
                have hwl : w.heap.size < w5.heap.size := HX5.out.rs.lt
                exact (HX5.out).outs (l' := []) (q' := some ⟨w5.heap.size, 0, none⟩) (c' := 0) (Own.lit (n := 0) (Below.refl _ _) (by omega) #[] (by simp) (by decide)).self (fun k hk => by cases hk; dsimp only; omega) (World.grownBy_alloc _ _ _) (fun x hx => by cases hx))
              clear m0
              have e7 : (w5.alloc (.cells #[] 53)).setCell ⟨T, 1, none⟩ (.slice (some ⟨w5.heap.size, 0, none⟩) 0 0) = (w5.setCell ⟨T, 1, none⟩ (.slice (some ⟨w5.heap.size, 0, none⟩) 0 0)).alloc (.cells #[] 53) := by go_simp
              rw [e7] at HX7
              clear e7
              go_upto_region 21 with (fail)
              refine wp_gens (fun W => TXS a n cap bs g w T seq [] (some ⟨w5.heap.size, 0, none⟩) 0 s5 W) (by exact HX7.out) ?_
              intro W9 hX9
              have HX9 := Lib.hid hX9
              clear hX9 HX7 hu0 hu1 huf
              have hTl := HX9.out.tw.lt
              have hRl := HX9.out.rs.lt
              have ht0 := HX9.out.tw.1.1
              have ht1 := HX9.out.tw.1.2
              have hq0 := HX9.out.rs.1.1
              have hq1 := HX9.out.rs.1.2
              have hf0 := HX9.out.rs.2.1
              have hf1 := HX9.out.rs.2.2
              go_wp2
              refine bodyPost_ret (v := .agg #[.int .i64 seq, .slice (some ⟨w5.heap.size, 0, none⟩) 0 0]) (by simp [results, Try.results105, go_sem, hq0, hq1, hRl]) rfl ?_
              exact HX9.out.ret (by first | omega | (simp; done) | (simp; omega))
            · by_cases m2 : m = 2
              · subst m2
                clear m0 m1
                have ht1 := HX5.out.tw.1.2
                have hTl := HX5.out.tw.lt
                go_wp2
                refine wp_region_any (by kernel_rfl) ?_
                try (change wpAny _ _ _ _ _ _ _ (World.drew _))
                refine wpAny_take (i := 0) (v := ?_) rfl (by kernel_rfl) (by kernel_rfl) (by kernel_rfl) (fun _ _ _ h => h) (Or.inl ⟨by rfl, ?hy⟩) ?_; (case hy => (intro w; go_simp; try with_reducible rfl))
                refine wpAny_take (i := 2) (v := ?_) rfl (by kernel_rfl) (by kernel_rfl) (by kernel_rfl) (fun _ _ _ h => h) (Or.inl ⟨by rfl, ?hy⟩) ?_; (case hy => (intro w; go_simp; try with_reducible rfl))
                refine wpAny_ready (rs := [1, 3]) (by kernel_rfl) (by simp) ?_
                refine AllReady.cons rfl (fun K2 hK2 => ?_) (AllReady.cons rfl (fun K2 hK2 => ?_) AllReady.nil)
                · go_simp
                  refine hK2 _ _ ?_
                  clear hK2 K2
                  refine wpAny_ready (rs := [3]) (by kernel_rfl) (by simp) ?_
                  refine AllReady.cons rfl (fun K hK => ?_) AllReady.nil
                  go_simp
                  refine hK _ _ ?_
                  clear hK K
                  refine wpAny_ready (rs := [4]) (by kernel_rfl) (by simp) ?_
                  refine AllReady.cons rfl (fun K2 hK2 => ?_) AllReady.nil
                  go_simp
                  go_at_call 79
                  refine (l1PickInt_any a n cap bs g s5 _ 3 3 [0, 16, 17] _ (HX5.out.drew.cu.alloc _) (by exact lit_rd (news := (ints [0, 16, 17]).toArray) rfl (by decide)) (fun x hx => by cases hx; have := HX5.out.cu.lt; show w5.heap.size ≠ g; omega) (by omega) (by omega)).mono ?_
                  rintro e w6 ⟨rfl, hC1, hG1⟩
                  have hk6 := getD_range ([0, 16, 17] : List Int) 0 17 (by decide) (by decide) (belowF bs 3 s5).1.toNat
                  have HX6 := Lib.hid ((HX5.out.drew.alloc (.cells #[.int .i64 0, .int .i64 16, .int .i64 17] 3)).step hC1 hG1)
                  clear hC1 hG1
                  simp only at HX6 ⊢
                  generalize List.getD ([0, 16, 17] : List Int) (belowF bs 3 s5).1.toNat 0 = z at *
                  have hTl6 := HX6.out.tw.lt
                  have t6 := HX6.out.tw.1.2
                  refine hK2 _ _ ?_
                  clear hK2 K2
                  refine wpAny_take (i := 5) (v := ?_) rfl (by kernel_rfl) (by kernel_rfl) (by kernel_rfl) (fun _ _ _ h => h) (Or.inl ⟨by rfl, ?hy⟩) ?_; (case hy => (intro w; go_simp; try with_reducible rfl))
                  refine wpAny_ready (rs := [6]) (by kernel_rfl) (by simp) ?_
                  refine AllReady.cons rfl (fun K hK => ?_) AllReady.nil
                  go_simp
                  refine hK _ _ ?_
                  clear hK K
                  refine wpAny_ready (rs := [7]) (by kernel_rfl) (by simp) ?_
                  refine AllReady.cons rfl (fun K hK => ?_) AllReady.nil
                  refine step_appn rfl _ _ 30 rfl 53 (.agg #[.int .i64 0, .string ByteArray.empty]) 2 24 Try.underlying30 info_wr rfl (by decide) _ _ _ _ _ (by rfl) (by exact (HX6.out.ow.alloc _)) _ 1 1 _ (by rfl) (by exact lit_rd rfl (by decide)) (by intro u hu; simp at hu; rcases hu with rfl | rfl <;> rfl) (by omega) (by unfold maxLen; omega) ?_; intro a9 c9 w9 hO9 hG9 hN9
                  refine hK _ _ ?_
                  clear hK K
                  have HNE := Lib.hid (own_ne hN9 HX6.out.ne (by have := HX6.out.tw.lt; simp; omega))
                  have HTA := Lib.hid (HX6.out.alloc (.cells #[.int .i64 z, .string ByteArray.empty] 53))
                  have HT9 := Lib.hid (HTA.out.tw.grown hG9 (fun e => HTA.out.ne _ e rfl))
                  have HXN : Hid (TXS a n cap bs g w T seq (l ++ [(z, ByteArray.empty)]) a9 c9 (belowF bs 3 s5).2 (w9.setCell ⟨T, 1, none⟩ (.slice a9 (l.length + 1) c9))) := Lib.hid (by
                    have hw : wrs (l ++ [(z, ByteArray.empty)]) = wrs l ++ [.int .i64 z, .string ByteArray.empty] := by rw [wrs_append]; rfl
                    have := HTA.out.outs (l' := l ++ [(z, ByteArray.empty)]) (q' := a9) (c' := c9) (by rw [hw, List.length_append]; exact hO9.self) (by rw [List.length_append]; exact HNE.out) hG9 (outsOk_snoc HX6.out.ok.2 ⟨⟨by omega, by omega⟩, by show (0 : Nat) ≤ 1000; omega⟩)
                    rw [List.length_append] at this
                    exact this)
                  have HLL : Hid ((l ++ [(z, ByteArray.empty)]).length = l.length + 1) := Lib.hid (by simp)
                  have y0 := HT9.out.1.1
                  have y1 := HT9.out.1.2
                  have v1 := HT9.out.2.2
                  have hzT := HT9.out.lt
                  clear hO9 hG9 hN9 HNE HTA HX6 t6 ht1 hTl hTl6
                  refine wpAny_take (i := 8) (v := ?_) rfl (by kernel_rfl) (by kernel_rfl) (by kernel_rfl) (fun _ _ _ h => h) (Or.inl ⟨by rfl, ?hy⟩) ?_; (case hy => (intro w; go_simp; try with_reducible rfl))
                  refine wpAny_ready (rs := [9]) (by kernel_rfl) (by simp) ?_
                  refine AllReady.cons rfl (fun K hK => ?_) AllReady.nil
                  go_simp
                  refine hK _ _ ?_
                  clear hK K
                  refine wpAny_done (by kernel_rfl) ?_ _
                  clear y0 y1 v1 hzT
                  have hTl := HXN.out.tw.lt
                  have hRl := HXN.out.rs.lt
                  have ht0 := HXN.out.tw.1.1
                  have ht1 := HXN.out.tw.1.2
                  have hq0 := HXN.out.rs.1.1
                  have hq1 := HXN.out.rs.1.2
                  have hf0 := HXN.out.rs.2.1
                  have hf1 := HXN.out.rs.2.2
                  rw [HLL.out] at ht1
                  go_wp2
                  refine bodyPost_ret (v := .agg #[.int .i64 seq, .slice a9 (l.length + 1) c9]) (by simp [results, Try.results105, go_sem, hq0, hq1, hRl]) rfl ?_
                  have hre := HXN.out.ret (by rw [HLL.out]; omega)
                  rw [HLL.out] at hre
                  exact hre
                · go_simp
                  refine hK2 _ _ ?_
                  clear hK2 K2
                  refine wpAny_ready (rs := [1, 4]) (by kernel_rfl) (by simp) ?_
                  refine AllReady.cons rfl (fun K2 hK2 => ?_) (AllReady.cons rfl (fun K2 hK2 => ?_) AllReady.nil)
                  · go_simp
                    refine hK2 _ _ ?_
                    clear hK2 K2
                    refine wpAny_ready (rs := [4]) (by kernel_rfl) (by simp) ?_
                    refine AllReady.cons rfl (fun K2 hK2 => ?_) AllReady.nil
                    go_simp
                    go_at_call 79
                    refine (l1PickInt_any a n cap bs g s5 _ 3 3 [0, 16, 17] _ (HX5.out.drew.cu.alloc _) (by exact lit_rd (news := (ints [0, 16, 17]).toArray) rfl (by decide)) (fun x hx => by cases hx; have := HX5.out.cu.lt; show w5.heap.size ≠ g; omega) (by omega) (by omega)).mono ?_
                    rintro e w6 ⟨rfl, hC1, hG1⟩
                    have hk6 := getD_range ([0, 16, 17] : List Int) 0 17 (by decide) (by decide) (belowF bs 3 s5).1.toNat
                    have HX6 := Lib.hid ((HX5.out.drew.alloc (.cells #[.int .i64 0, .int .i64 16, .int .i64 17] 3)).step hC1 hG1)
                    clear hC1 hG1
                    simp only at HX6 ⊢
                    generalize List.getD ([0, 16, 17] : List Int) (belowF bs 3 s5).1.toNat 0 = z at *
                    have hTl6 := HX6.out.tw.lt
                    have t6 := HX6.out.tw.1.2
                    refine hK2 _ _ ?_
                    clear hK2 K2
                    refine wpAny_take (i := 5) (v := ?_) rfl (by kernel_rfl) (by kernel_rfl) (by kernel_rfl) (fun _ _ _ h => h) (Or.inl ⟨by rfl, ?hy⟩) ?_; (case hy => (intro w; go_simp; try with_reducible rfl))
                    refine wpAny_ready (rs := [6]) (by kernel_rfl) (by simp) ?_
                    refine AllReady.cons rfl (fun K hK => ?_) AllReady.nil
                    go_simp
                    refine hK _ _ ?_
                    clear hK K
                    refine wpAny_ready (rs := [7]) (by kernel_rfl) (by simp) ?_
                    refine AllReady.cons rfl (fun K hK => ?_) AllReady.nil
                    refine step_appn rfl _ _ 30 rfl 53 (.agg #[.int .i64 0, .string ByteArray.empty]) 2 24 Try.underlying30 info_wr rfl (by decide) _ _ _ _ _ (by rfl) (by exact (HX6.out.ow.alloc _)) _ 1 1 _ (by rfl) (by exact lit_rd rfl (by decide)) (by intro u hu; simp at hu; rcases hu with rfl | rfl <;> rfl) (by omega) (by unfold maxLen; omega) ?_; intro a9 c9 w9 hO9 hG9 hN9
                    refine hK _ _ ?_
                    clear hK K
                    have HNE := Lib.hid (own_ne hN9 HX6.out.ne (by have := HX6.out.tw.lt; simp; omega))
                    have HTA := Lib.hid (HX6.out.alloc (.cells #[.int .i64 z, .string ByteArray.empty] 53))
                    have HT9 := Lib.hid (HTA.out.tw.grown hG9 (fun e => HTA.out.ne _ e rfl))
                    have HXN : Hid (TXS a n cap bs g w T seq (l ++ [(z, ByteArray.empty)]) a9 c9 (belowF bs 3 s5).2 (w9.setCell ⟨T, 1, none⟩ (.slice a9 (l.length + 1) c9))) := Lib.hid (by
                      have hw : wrs (l ++ [(z, ByteArray.empty)]) = wrs l ++ [.int .i64 z, .string ByteArray.empty] := by rw [wrs_append]; rfl
                      have := HTA.out.outs (l' := l ++ [(z, ByteArray.empty)]) (q' := a9) (c' := c9) (by rw [hw, List.length_append]; exact hO9.self) (by rw [List.length_append]; exact HNE.out) hG9 (outsOk_snoc HX6.out.ok.2 ⟨⟨by omega, by omega⟩, by show (0 : Nat) ≤ 1000; omega⟩)
                      rw [List.length_append] at this
                      exact this)
                    have HLL : Hid ((l ++ [(z, ByteArray.empty)]).length = l.length + 1) := Lib.hid (by simp)
                    have y0 := HT9.out.1.1
                    have y1 := HT9.out.1.2
                    have v1 := HT9.out.2.2
                    have hzT := HT9.out.lt
                    clear hO9 hG9 hN9 HNE HTA HX6 t6 ht1 hTl hTl6
                    refine wpAny_take (i := 8) (v := ?_) rfl (by kernel_rfl) (by kernel_rfl) (by kernel_rfl) (fun _ _ _ h => h) (Or.inl ⟨by rfl, ?hy⟩) ?_; (case hy => (intro w; go_simp; try with_reducible rfl))
                    refine wpAny_ready (rs := [9]) (by kernel_rfl) (by simp) ?_
                    refine AllReady.cons rfl (fun K hK => ?_) AllReady.nil
                    go_simp
                    refine hK _ _ ?_
                    clear hK K
                    refine wpAny_done (by kernel_rfl) ?_ _
                    clear y0 y1 v1 hzT
                    have hTl := HXN.out.tw.lt
                    have hRl := HXN.out.rs.lt
                    have ht0 := HXN.out.tw.1.1
                    have ht1 := HXN.out.tw.1.2
                    have hq0 := HXN.out.rs.1.1
                    have hq1 := HXN.out.rs.1.2
                    have hf0 := HXN.out.rs.2.1
                    have hf1 := HXN.out.rs.2.2
                    rw [HLL.out] at ht1
                    go_wp2
                    refine bodyPost_ret (v := .agg #[.int .i64 seq, .slice a9 (l.length + 1) c9]) (by simp [results, Try.results105, go_sem, hq0, hq1, hRl]) rfl ?_
                    have hre := HXN.out.ret (by rw [HLL.out]; omega)
                    rw [HLL.out] at hre
                    exact hre
                  · go_simp
                    go_at_call 79
                    refine (l1PickInt_any a n cap bs g s5 _ 3 3 [0, 16, 17] _ (HX5.out.drew.cu.alloc _) (by exact lit_rd (news := (ints [0, 16, 17]).toArray) rfl (by decide)) (fun x hx => by cases hx; have := HX5.out.cu.lt; show w5.heap.size ≠ g; omega) (by omega) (by omega)).mono ?_
                    rintro e w6 ⟨rfl, hC1, hG1⟩
                    have hk6 := getD_range ([0, 16, 17] : List Int) 0 17 (by decide) (by decide) (belowF bs 3 s5).1.toNat
                    have HX6 := Lib.hid ((HX5.out.drew.alloc (.cells #[.int .i64 0, .int .i64 16, .int .i64 17] 3)).step hC1 hG1)
                    clear hC1 hG1
                    simp only at HX6 ⊢
                    generalize List.getD ([0, 16, 17] : List Int) (belowF bs 3 s5).1.toNat 0 = z at *
                    have hTl6 := HX6.out.tw.lt
                    have t6 := HX6.out.tw.1.2
                    refine hK2 _ _ ?_
                    clear hK2 K2
                    refine wpAny_take (i := 5) (v := ?_) rfl (by kernel_rfl) (by kernel_rfl) (by kernel_rfl) (fun _ _ _ h => h) (Or.inl ⟨by rfl, ?hy⟩) ?_; (case hy => (intro w; go_simp; try with_reducible rfl))
                    refine wpAny_ready (rs := [1, 6]) (by kernel_rfl) (by simp) ?_
                    refine AllReady.cons rfl (fun K2 hK2 => ?_) (AllReady.cons rfl (fun K2 hK2 => ?_) AllReady.nil)
                    · go_simp
                      refine hK2 _ _ ?_
                      clear hK2 K2
                      refine wpAny_ready (rs := [6]) (by kernel_rfl) (by simp) ?_
                      refine AllReady.cons rfl (fun K hK => ?_) AllReady.nil
                      go_simp
                      refine hK _ _ ?_
                      clear hK K
                      refine wpAny_ready (rs := [7]) (by kernel_rfl) (by simp) ?_
                      refine AllReady.cons rfl (fun K hK => ?_) AllReady.nil
                      refine step_appn rfl _ _ 30 rfl 53 (.agg #[.int .i64 0, .string ByteArray.empty]) 2 24 Try.underlying30 info_wr rfl (by decide) _ _ _ _ _ (by rfl) (by exact (HX6.out.ow.alloc _)) _ 1 1 _ (by rfl) (by exact lit_rd rfl (by decide)) (by intro u hu; simp at hu; rcases hu with rfl | rfl <;> rfl) (by omega) (by unfold maxLen; omega) ?_; intro a9 c9 w9 hO9 hG9 hN9
                      refine hK _ _ ?_
                      clear hK K
                      have HNE := Lib.hid (own_ne hN9 HX6.out.ne (by have := HX6.out.tw.lt; simp; omega))
                      have HTA := Lib.hid (HX6.out.alloc (.cells #[.int .i64 z, .string ByteArray.empty] 53))
                      have HT9 := Lib.hid (HTA.out.tw.grown hG9 (fun e => HTA.out.ne _ e rfl))
                      have HXN : Hid (TXS a n cap bs g w T seq (l ++ [(z, ByteArray.empty)]) a9 c9 (belowF bs 3 s5).2 (w9.setCell ⟨T, 1, none⟩ (.slice a9 (l.length + 1) c9))) := Lib.hid (by
                        have hw : wrs (l ++ [(z, ByteArray.empty)]) = wrs l ++ [.int .i64 z, .string ByteArray.empty] := by rw [wrs_append]; rfl
                        have := HTA.out.outs (l' := l ++ [(z, ByteArray.empty)]) (q' := a9) (c' := c9) (by rw [hw, List.length_append]; exact hO9.self) (by rw [List.length_append]; exact HNE.out) hG9 (outsOk_snoc HX6.out.ok.2 ⟨⟨by omega, by omega⟩, by show (0 : Nat) ≤ 1000; omega⟩)
                        rw [List.length_append] at this
                        exact this)
                      have HLL : Hid ((l ++ [(z, ByteArray.empty)]).length = l.length + 1) := Lib.hid (by simp)
                      have y0 := HT9.out.1.1
                      have y1 := HT9.out.1.2
                      have v1 := HT9.out.2.2
                      have hzT := HT9.out.lt
                      clear hO9 hG9 hN9 HNE HTA HX6 t6 ht1 hTl hTl6
                      refine wpAny_take (i := 8) (v := ?_) rfl (by kernel_rfl) (by kernel_rfl) (by kernel_rfl) (fun _ _ _ h => h) (Or.inl ⟨by rfl, ?hy⟩) ?_; (case hy => (intro w; go_simp; try with_reducible rfl))
                      refine wpAny_ready (rs := [9]) (by kernel_rfl) (by simp) ?_
                      refine AllReady.cons rfl (fun K hK => ?_) AllReady.nil
                      go_simp
                      refine hK _ _ ?_
                      clear hK K
                      refine wpAny_done (by kernel_rfl) ?_ _
                      clear y0 y1 v1 hzT
                      have hTl := HXN.out.tw.lt
                      have hRl := HXN.out.rs.lt
                      have ht0 := HXN.out.tw.1.1
                      have ht1 := HXN.out.tw.1.2
                      have hq0 := HXN.out.rs.1.1
                      have hq1 := HXN.out.rs.1.2
                      have hf0 := HXN.out.rs.2.1
                      have hf1 := HXN.out.rs.2.2
                      rw [HLL.out] at ht1
                      go_wp2
                      refine bodyPost_ret (v := .agg #[.int .i64 seq, .slice a9 (l.length + 1) c9]) (by simp [results, Try.results105, go_sem, hq0, hq1, hRl]) rfl ?_
                      have hre := HXN.out.ret (by rw [HLL.out]; omega)
                      rw [HLL.out] at hre
                      exact hre
                    · go_simp
                      refine hK2 _ _ ?_
                      clear hK2 K2
                      refine wpAny_ready (rs := [1]) (by kernel_rfl) (by simp) ?_
                      refine AllReady.cons rfl (fun K hK => ?_) AllReady.nil
                      go_simp
                      refine hK _ _ ?_
                      clear hK K
                      refine wpAny_ready (rs := [7]) (by kernel_rfl) (by simp) ?_
                      refine AllReady.cons rfl (fun K hK => ?_) AllReady.nil
                      refine step_appn rfl _ _ 30 rfl 53 (.agg #[.int .i64 0, .string ByteArray.empty]) 2 24 Try.underlying30 info_wr rfl (by decide) _ _ _ _ _ (by rfl) (by exact (HX6.out.ow.alloc _)) _ 1 1 _ (by rfl) (by exact lit_rd rfl (by decide)) (by intro u hu; simp at hu; rcases hu with rfl | rfl <;> rfl) (by omega) (by unfold maxLen; omega) ?_; intro a9 c9 w9 hO9 hG9 hN9
                      refine hK _ _ ?_
                      clear hK K
                      have HNE := Lib.hid (own_ne hN9 HX6.out.ne (by have := HX6.out.tw.lt; simp; omega))
                      have HTA := Lib.hid (HX6.out.alloc (.cells #[.int .i64 z, .string ByteArray.empty] 53))
                      have HT9 := Lib.hid (HTA.out.tw.grown hG9 (fun e => HTA.out.ne _ e rfl))
                      have HXN : Hid (TXS a n cap bs g w T seq (l ++ [(z, ByteArray.empty)]) a9 c9 (belowF bs 3 s5).2 (w9.setCell ⟨T, 1, none⟩ (.slice a9 (l.length + 1) c9))) := Lib.hid (by
                        have hw : wrs (l ++ [(z, ByteArray.empty)]) = wrs l ++ [.int .i64 z, .string ByteArray.empty] := by rw [wrs_append]; rfl
                        have := HTA.out.outs (l' := l ++ [(z, ByteArray.empty)]) (q' := a9) (c' := c9) (by rw [hw, List.length_append]; exact hO9.self) (by rw [List.length_append]; exact HNE.out) hG9 (outsOk_snoc HX6.out.ok.2 ⟨⟨by omega, by omega⟩, by show (0 : Nat) ≤ 1000; omega⟩)
                        rw [List.length_append] at this
                        exact this)
                      have HLL : Hid ((l ++ [(z, ByteArray.empty)]).length = l.length + 1) := Lib.hid (by simp)
                      have y0 := HT9.out.1.1
                      have y1 := HT9.out.1.2
                      have v1 := HT9.out.2.2
                      have hzT := HT9.out.lt
                      clear hO9 hG9 hN9 HNE HTA HX6 t6 ht1 hTl hTl6
                      refine wpAny_take (i := 8) (v := ?_) rfl (by kernel_rfl) (by kernel_rfl) (by kernel_rfl) (fun _ _ _ h => h) (Or.inl ⟨by rfl, ?hy⟩) ?_; (case hy => (intro w; go_simp; try with_reducible rfl))
                      refine wpAny_ready (rs := [9]) (by kernel_rfl) (by simp) ?_
                      refine AllReady.cons rfl (fun K hK => ?_) AllReady.nil
                      go_simp
                      refine hK _ _ ?_
                      clear hK K
                      refine wpAny_done (by kernel_rfl) ?_ _
                      clear y0 y1 v1 hzT
                      have hTl := HXN.out.tw.lt
                      have hRl := HXN.out.rs.lt
                      have ht0 := HXN.out.tw.1.1
                      have ht1 := HXN.out.tw.1.2
                      have hq0 := HXN.out.rs.1.1
                      have hq1 := HXN.out.rs.1.2
                      have hf0 := HXN.out.rs.2.1
                      have hf1 := HXN.out.rs.2.2
                      rw [HLL.out] at ht1
                      go_wp2
                      refine bodyPost_ret (v := .agg #[.int .i64 seq, .slice a9 (l.length + 1) c9]) (by simp [results, Try.results105, go_sem, hq0, hq1, hRl]) rfl ?_
                      have hre := HXN.out.ret (by rw [HLL.out]; omega)
                      rw [HLL.out] at hre
                      exact hre
              · have e0 : (m == 0) = false := by simp [m0]
                have e1 : (m == 1) = false := by simp [m1]
                have e2 : (m == 2) = false := by simp [m2]
                clear m0 m1 m2
                go_wp2_with fail
                refine (l1Below_any a n cap bs g _ 2 _ HX5.out.cu (by omega)).mono ?_
                rintro e w6 ⟨rfl, hC1, hG1⟩
                have hr6 := belowF_range bs 2 s5 (by omega)
                have HX6 := Lib.hid (HX5.out.step hC1 hG1)
                clear hC1 hG1 HX5
                simp only at HX6 ⊢
                generalize (belowF bs 2 s5).2 = s6 at *
                generalize (belowF bs 2 s5).1 = k6 at *
                obtain ⟨hd0, hd1⟩ := hr6
                obtain ⟨M, hM⟩ := Int.eq_ofNat_of_zero_le (show 0 ≤ 400 + k6 by omega)
                have hMw : IntKind.i64.wrap (400 + k6) = (M : Int) := by rw [← hM]; exact IntWalk.i64_in _ ⟨by omega, by omega⟩
                have hM1 : M ≤ 401 := by omega
                have HXL := Lib.hid (HX6.out.alloc (.cells #[] 5))
                have HL0 : Hid (Own 5 1 w6.heap.size w6 (.slice (some ⟨w6.heap.size, 0, none⟩) 0 0) 0 [] (w6.alloc (.cells #[] 5))) := Lib.hid (Own.lit (n := 0) (Below.refl _ _) (Nat.le_refl _) #[] (by simp) (by decide))
                have hlT : w.heap.size < w6.heap.size ∧ T < w6.heap.size := ⟨HX6.out.rs.lt, HX6.out.tw.lt⟩
                go_wp2
                go_loopg [7] M (fun gg o wr2 => ∃ (k : Nat), k + gg = M ∧ Own 5 1 w6.heap.size w6 o k (u8s (List.replicate k 66)) wr2)
                case atStart => exact ⟨0, by omega, HL0.out⟩
                case round =>
                  obtain ⟨k, hk, hO⟩ := hrel
                  obtain ⟨av, cv, rfl, _, _⟩ := hO.shape
                  by_cases hlt : k < M
                  · have hi : (k : Int) < (M : Int) := by omega
                    have HO := Lib.hid hO
                    clear hO
                    go_wp2_with (at_builtin; go_loud (refine wp_app1g rfl _ _ 47 rfl 5 (.int .u8 0) 1 1 Try.underlying47 info_u8 rfl (by decide) _ _ _ _ _ (by rfl) (by exact HO.out) _ _ (by rfl) (by rfl) (by intro u hu; simp at hu; first | (subst hu; rfl) | (rcases hu with rfl | rfl <;> rfl) | (rcases hu with rfl | rfl | rfl <;> rfl) | (rcases hu with rfl | rfl | rfl | rfl <;> rfl)) (by omega) (by unfold maxLen; omega) ?_); intro a7 c7 w7 hO7 hG7 hN7)
                    have HO8 := Lib.hid hO7
                    clear hO7 hG7 hN7
                    go_roundg (gk - 1)
                    case measure => omega
                    case rel => exact ⟨k + 1, by omega, by rw [List.replicate_succ', u8s_append]; exact HO8.out⟩
                  · have hi : ¬ (k : Int) < (M : Int) := by omega
                    have HO := Lib.hid hO
                    have HX7 := Lib.hid (HX6.out.low hO.below)
                    have hcv := run_str (P := Try.prog) 47 9 5 Try.underlying47 Try.underlying5 Try.underlying9 HO.out.rd
                    clear hO
                    obtain ⟨t8, ht8, ht8s⟩ : ∃ t8 : ByteArray, t8 = ⟨(List.replicate k (66 : UInt8)).toArray⟩ ∧ t8.size ≤ 1000 := ⟨_, rfl, by simp [ByteArray.size]; omega⟩
                    rw [← ht8] at hcv
                    clear ht8 HO HX6 HXL HL0
                    have ht1 := HX7.out.tw.1.2
                    have hTl := HX7.out.tw.lt
                    have hl0 := HLN.out
                    have hl0i : (0 : Int) < (l.length : Int) := by omega
                    obtain ⟨g2, rfl, ⟨u, hu⟩, huf, hul, hX8⟩ := HX7.out.text hl0 t8 ht8s
                    have HX8 := Lib.hid hX8
                    have HLL : Hid ((l.set 0 (l[0].1, t8)).length = l.length) := Lib.hid (by simp)
                    have hTl8 := HX8.out.tw.lt
                    have hRl := HX8.out.rs.lt
                    have k0 := HX8.out.tw.1.1
                    have k1 := HX8.out.tw.1.2
                    have hq0 := HX8.out.rs.1.1
                    have hq1 := HX8.out.rs.1.2
                    have hf0 := HX8.out.rs.2.1
                    have hf1 := HX8.out.rs.2.2
                    rw [HLL.out] at k1
                    clear hX8
                    go_wp2
                    refine bodyPost_ret (v := .agg #[.int .i64 seq, .slice (some ⟨g2, 0, none⟩) l.length c]) (by simp [results, Try.results105, go_sem, hq0, hq1, hRl]) rfl ?_
                    have hre := HX8.out.ret (by rw [HLL.out]; omega)
                    rw [HLL.out] at hre
                    exact hre
end Go.Proofs.Ytbokgbbdjcpgbaa
