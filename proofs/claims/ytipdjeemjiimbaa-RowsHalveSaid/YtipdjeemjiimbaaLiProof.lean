/- The law RowsHalve: for every input the call returns true. No condition. -/
import Derived.Test.YtipdjeemjiimbaaRows
import Derived.Test.YtipdjeemjiimbaaX3
import Derived.Test.YtipdjeemjiimbaaLi
import Derived.OpenShut
import Derived.ShutString
import Derived.ChangeOld
namespace Go.Proofs.Ytipdjeemjiimbaa.lawRowsHalve
open Go Go.Fw Go.ChangeShapes Go.WideShapes Go.ChangeAt Go.RowKit
set_option linter.unusedVariables false
set_option linter.unusedSimpArgs false
set_option linter.unnecessarySimpa false

theorem own : ownKnob Try.prog.godebug = none := by kernel_rfl
theorem laidOut : laidOutB Try.prog = true := by kernel_rfl

set_option maxRecDepth 100000 in
theorem lifted (os : Os) (started : os.Started) (H : Type) (enc : TypeId × Value → H) :
    ReturnsInHanded {} Try.checked os 12 .any (Rows.rowsHalveSpec.pre6 enc Try.prog Try.f12 Rows.rowsHalveRow.domain false) (Rows.rowsHalveSpec.post enc Try.prog Try.f12 false true false false) := by
  refine returnsInHanded_of_change_sized (C := Try.checked) own started (by kernel_rfl) Try.func12
    (ChangeSpec.witness6 (enc := enc) (C := Try.checked) false ⟨#[], #[.slice none 0 0], []⟩ 12 (by kernel_rfl) (by kernel_rfl) (by kernel_rfl) (by kernel_rfl)) ?_
  intro W base args ds gs before hval0 hW hcnd hz _
  have hval : ∀ (j : Nat) t v, Try.f12.params[j]? = some t → args[j]? = some v → Value.okWide Try.prog W .any base t v := hval0
  have hW' := hW
  obtain ⟨p, q, hA0, hV, rfl, hfz, hnd⟩ := hW
  have hA : DataW.TrodAll enc Try.prog W 0 (fun _ => true) true Try.f12.params.toList args.toList ds p := hA0
  rw [Try.params12] at hA hval
  obtain ⟨v0, vs0, d0, ds0, p0, q0, hargs, rfl, rfl, h0, r0⟩ := trodAll_cons hA
  obtain ⟨rfl, rfl, rfl⟩ := trodAll_nil r0
  obtain rfl : args = #[v0] := by cases args; simp_all
  obtain ⟨rfl, rfl⟩ := trodVars_none hV
  have w0 : ∀ n ∈ d0.weights Try.prog 22, n ≤ 140737488351232 := fun n hn => by have := List.all_eq_true.1 hz n (DataW.weights_mem_each (j := 0) rfl rfl n hn); simpa [reachBytes] using of_decide_eq_true this
  have lt0 : ∀ x ∈ p0, x.block < W.heap.size := by obtain ⟨m, hm⟩ := h0; exact DataW.trod_lt m _ _ _ hm
  have k0 := h0
  obtain ⟨a0, s0⟩ := arg_slice sl22 (dec_slice sl22 (dec_pair (by kernel_rfl) st9 (by kernel_rfl)) (by kernel_rfl) (by decide) by112) (hval 0 22 v0 rfl rfl) h0 w0
  clear hA0 hval0
  refine ((rowsHalve_fc s0).law).mono fun e W' ⟨he, bel⟩ => ?_
  subst he
  exact ⟨_, rfl, _, _, _, [], _, [], hW', trodAll_mk1 (shut_bool Try.underlying4 _), (trodAll_cons_mk (Below.trod laidOut (by kernel_rfl) (of_decide_eq_true (by kernel_rfl)) k0 bel lt0) trodAll_mk0), rfl, bel.frame _, fun h => by cases h⟩

theorem c1 : Try.checked.prog.funcNamed Rows.rowsHalveRow.func = some 12 := by kernel_rfl
set_option maxHeartbeats 8000000 in
theorem c2 : joinedFacts Try.checked.prog 12 Try.f12 Rows.rowsHalveSpec Rows.rowsHalveRow = true := by
  unfold joinedFacts
  refine andI (andI (andI (andI (andI (andI (andI (andI (andI (andI (andI (andI (andI (andI (andI (andI (andI (andI (andI (andI (andI (andI (andI (andI (andI (andI (andI (andI (andI (andI (andI ?_ ?_) ?_) ?_) ?_) ?_) ?_) ?_) ?_) ?_) ?_) ?_) ?_) ?_) ?_) ?_) ?_) ?_) ?_) ?_) ?_) ?_) ?_) ?_) ?_) ?_) ?_) ?_) ?_) ?_) ?_) ?_
  all_goals as_aux_lemma => kernel_rfl
theorem c3 : Try.f12.isInstance Try.checked.prog Rows.rowsHalveRow.origin Rows.rowsHalveRow.targs := of_decide_eq_true (by kernel_rfl)
theorem c4 : ¬ Check.packageOf Try.f12.name = "main" := of_decide_eq_false (by kernel_rfl)
theorem c5 : Try.f12.isWrapper Try.checked.prog Rows.rowsHalveRow.wrapper Rows.rowsHalveRow.mainSum := by unfold Func.isWrapper; rw [if_neg c4]; exact ⟨rfl, rfl⟩
theorem over : Rows.rowsHalveRow.holds Try.pinned (OpenSpec.ofChange Rows.rowsHalveSpec) :=
  OpenClaim.holds_of_wide 12 Try.f12 rfl rfl rfl rfl rfl rfl rfl ⟨rfl, rfl, rfl, rfl, rfl⟩ rfl rfl rfl rfl rfl c1 Try.func12 c2 c3 c5
    (fun os started H enc _ => lifted os started H enc)

/-- The statement. -/
theorem proved : Rows.RowsHalveSaid := over
end Go.Proofs.Ytipdjeemjiimbaa.lawRowsHalve
