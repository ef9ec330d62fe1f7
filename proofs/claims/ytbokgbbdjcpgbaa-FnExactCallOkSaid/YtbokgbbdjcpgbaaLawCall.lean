/- FnExactCallOk: for every input the law's function returns true, and what came in reads as it did. No condition. -/
import Derived.Test.YtbokgbbdjcpgbaaRows
import Derived.Test.YtbokgbbdjcpgbaaLcall
import Derived.Test.YtbokgbbdjcpgbaaShape
import Derived.ProofKit
import Derived.OpenShut
import Derived.ShutString
import Derived.ChangeOld
import Derived.Below
namespace Go.Proofs.Ytbokgbbdjcpgbaa.fnExactCallOk
open Go.ChangeShapes Go.WideShapes Go.ChangeAt Go.RowKit
open Go.ChangeMaps (open_string shut_string)
set_option linter.unusedVariables false

theorem own : ownKnob Try.prog.godebug = none := by kernel_rfl
theorem laidOut : laidOutB Try.prog = true := by kernel_rfl

set_option maxRecDepth 100000 in
theorem lifted (os : Os) (started : os.Started) (H : Type) (enc : TypeId × Value → H) :
    ReturnsInHanded {} Try.checked os 3 .any (Rows.fnExactCallOkSpec.pre6 enc Try.prog Try.f3 Rows.fnExactCallOkRow.domain false) (Rows.fnExactCallOkSpec.post enc Try.prog Try.f3 false true false false) := by
  refine returnsInHanded_of_change (C := Try.checked) own started (by kernel_rfl) Try.func3
    (ChangeSpec.witness6 (enc := enc) (C := Try.checked) false ⟨#[], #[.agg #[.int .i64 0, .int .i64 0, .string ByteArray.empty, .int .i64 0, .string ByteArray.empty, .string ByteArray.empty]], []⟩ 8 (by kernel_rfl) (by kernel_rfl) (by kernel_rfl) (by kernel_rfl)) ?_
  intro W base args ds gs before hval0 hW hcnd _
  have hval : ∀ (j : Nat) t v, Try.f3.params[j]? = some t → args[j]? = some v → Value.okWide Try.prog W .any base t v := hval0
  have hW' := hW
  obtain ⟨p, q, hA0, hV, rfl, hfz, hnd⟩ := hW
  have hA : DataW.TrodAll enc Try.prog W 0 (fun _ => true) true Try.f3.params.toList args.toList ds p := hA0
  rw [Try.params3] at hA hval
  obtain ⟨v0, vs0, d0, ds0, p0, q0, hargs, rfl, rfl, h0, r0⟩ := trodAll_cons hA
  obtain ⟨rfl, rfl, rfl⟩ := trodAll_nil r0
  obtain rfl : args = #[v0] := by cases args; simp_all
  obtain ⟨rfl, rfl⟩ := trodVars_none hV
  have k0 := h0
  have lt0 : ∀ x ∈ p0, x.block < W.heap.size := by obtain ⟨m, hm⟩ := k0; exact DataW.trod_lt m _ _ _ hm
  obtain ⟨cs0, n0, rfl, hsz0, hcs0⟩ := open_aggs Try.underlying23 (by kernel_rfl) (by kernel_rfl) (hval 0 23 v0 rfl rfl) h0
  obtain ⟨c0, c1, c2, c3, c4, c5, rfl⟩ := array6 hsz0
  obtain ⟨t0, j0⟩ := hcs0 0 _ c0 rfl rfl
  obtain ⟨u0, rfl, wf0⟩ := int_of Try.underlying3 j0
  obtain ⟨t1, j1⟩ := hcs0 1 _ c1 rfl rfl
  obtain ⟨u1, rfl, wf1⟩ := int_of Try.underlying3 j1
  obtain ⟨t2, j2⟩ := hcs0 2 _ c2 rfl rfl
  obtain ⟨u2, rfl, wf2⟩ := string_of Try.underlying9 j2
  obtain ⟨t3, j3⟩ := hcs0 3 _ c3 rfl rfl
  obtain ⟨u3, rfl, wf3⟩ := int_of Try.underlying3 j3
  obtain ⟨t4, j4⟩ := hcs0 4 _ c4 rfl rfl
  obtain ⟨u4, rfl, wf4⟩ := string_of Try.underlying9 j4
  obtain ⟨t5, j5⟩ := hcs0 5 _ c5 rfl rfl
  obtain ⟨u5, rfl, wf5⟩ := string_of Try.underlying9 j5
  clear hA0 hval0
  refine (lawCallOk_walk u0 u1 u3 u2 u4 u5 wf2 wf4 wf5 W).mono fun e W' ⟨he, bel⟩ => ?_
  subst he
  exact ⟨_, rfl, _, _, _, [], _, [], hW', trodAll_mk1 (shut_bool Try.underlying4 _), (trodAll_cons_mk (Below.trod laidOut (by kernel_rfl) (of_decide_eq_true (by kernel_rfl)) k0 bel lt0) trodAll_mk0), rfl, bel.frame _, fun h => by cases h⟩

theorem proved : Rows.FnExactCallOkSaid :=
  OpenClaim.holds_of_wide 3 Try.f3 rfl rfl rfl rfl rfl rfl rfl ⟨rfl, rfl, rfl, rfl, rfl⟩ rfl rfl rfl rfl rfl (by kernel_rfl) Try.func3 (by kernel_rfl)
    (of_decide_eq_true (by kernel_rfl)) (by unfold Func.isWrapper; first | (rw [if_pos (by decide +kernel)]; kernel_rfl) | (rw [if_neg (by decide +kernel)]; exact ⟨rfl, rfl⟩))
    (fun os started H enc _ => lifted os started H enc)
#print axioms proved
end Go.Proofs.Ytbokgbbdjcpgbaa.fnExactCallOk
