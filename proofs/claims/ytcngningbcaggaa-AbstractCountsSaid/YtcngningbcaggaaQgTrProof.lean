/- The law AbstractCounts: for every input the call returns true. No condition. -/
import Derived.Test.YtcngningbcaggaaRows
import Derived.OpenShut
import Derived.ShutString
import Derived.ChangeOld
import Derived.Test.YtcngningbcaggaaQgTr
set_option linter.unusedVariables false
set_option linter.unusedSimpArgs false
set_option linter.unnecessarySimpa false
namespace Go.Proofs.Ytcngningbcaggaa.lawAbstractCounts
open Go Go.Fw Go.ChangeShapes Go.WideShapes Go.ChangeAt Go.RowKit

theorem own : ownKnob Try.prog.godebug = none := by kernel_rfl
theorem laidOut : laidOutB Try.prog = true := by kernel_rfl

set_option maxRecDepth 100000 in
theorem lifted (os : Os) (started : os.Started) (H : Type) (enc : TypeId × Value → H) :
    ReturnsInHanded {} Try.checked os 5 .any (Rows.abstractCountsSpec.pre6 enc Try.prog Try.f5 Rows.abstractCountsRow.domain false) (Rows.abstractCountsSpec.post enc Try.prog Try.f5 false true false false) := by
  refine returnsInHanded_of_change_sized (C := Try.checked) own started (by kernel_rfl) Try.func5
    (ChangeSpec.witness6 (enc := enc) (C := Try.checked) false ⟨#[], #[.slice none 0 0, .string ⟨#[]⟩], []⟩ 12 (by kernel_rfl) (by kernel_rfl) (by kernel_rfl) (by kernel_rfl)) ?_
  intro W base args ds gs before hval0 hW hcnd hz _
  have hval : ∀ (j : Nat) t v, Try.f5.params[j]? = some t → args[j]? = some v → Value.okWide Try.prog W .any base t v := hval0
  have hW' := hW
  obtain ⟨p, q, hA0, hV, rfl, hfz, hnd⟩ := hW
  have hA : DataW.TrodAll enc Try.prog W 0 (fun _ => true) true Try.f5.params.toList args.toList ds p := hA0
  rw [Try.params5] at hA hval
  obtain ⟨v0, vs0, d0, ds0, p0, q0, hargs, rfl, rfl, h0, r0⟩ := trodAll_cons hA
  obtain ⟨v1, vs1, d1, ds1, p1, q1, rfl, rfl, rfl, h1, r1⟩ := trodAll_cons r0
  obtain ⟨rfl, rfl, rfl⟩ := trodAll_nil r1
  obtain rfl : args = #[v0, v1] := by cases args; simp_all
  obtain ⟨rfl, rfl⟩ := trodVars_none hV
  have w0 : ∀ n ∈ d0.weights Try.prog 24, n ≤ 140737488351232 := fun n hn => by have := List.all_eq_true.1 hz n (DataW.weights_mem_each (j := 0) rfl rfl n hn); simpa [reachBytes] using of_decide_eq_true this
  have lt0 : ∀ x ∈ p0, x.block < W.heap.size := by obtain ⟨m, hm⟩ := h0; exact DataW.trod_lt m _ _ _ hm
  have k0 := h0
  have w1 : ∀ n ∈ d1.weights Try.prog 9, n ≤ 140737488351232 := fun n hn => by have := List.all_eq_true.1 hz n (DataW.weights_mem_each (j := 1) rfl rfl n hn); simpa [reachBytes] using of_decide_eq_true this
  have lt1 : ∀ x ∈ p1, x.block < W.heap.size := by obtain ⟨m, hm⟩ := h1; exact DataW.trod_lt m _ _ _ hm
  have k1 := h1
  obtain ⟨a0, s0⟩ := arg_slice sl24 (dec_slice sl24 (dec_node (by kernel_rfl) Try.underlying3 st9 bo4 (dec_slice sl32 (dec_str st9) (by kernel_rfl) (by decide) by9) (dec_slice sl30 (dec_int Try.underlying3) (by kernel_rfl) (by decide) by3) (dec_slice sl33 (dec_msg (by kernel_rfl) Try.underlying3 st9 bo4 (by kernel_rfl)) (by kernel_rfl) (by decide) by90) (dec_slice sl31 (dec_pair (by kernel_rfl) st9 (by kernel_rfl)) (by kernel_rfl) (by decide) by68) (by kernel_rfl)) (by kernel_rfl) (by decide) by35) (hval 0 24 v0 rfl rfl) h0 w0
  obtain ⟨a1, rfl⟩ := arg_str Try.underlying9 (hval 1 9 v1 rfl rfl) h1 w1
  clear hA0 hval0
  refine ((abstractCounts_fc s0 a1).law).mono fun e W' ⟨he, bel⟩ => ?_
  subst he
  exact ⟨_, rfl, _, _, _, [], _, [], hW', trodAll_mk1 (shut_bool Try.underlying4 _), (trodAll_cons_mk (Below.trod laidOut (by kernel_rfl) (of_decide_eq_true (by kernel_rfl)) k0 bel lt0) (trodAll_cons_mk (Below.trod laidOut (by kernel_rfl) (of_decide_eq_true (by kernel_rfl)) k1 bel lt1) trodAll_mk0)), rfl, bel.frame _, fun h => by cases h⟩

theorem c1 : Try.checked.prog.funcNamed Rows.abstractCountsRow.func = some 5 := by kernel_rfl
set_option maxHeartbeats 8000000 in
theorem c2 : joinedFacts Try.checked.prog 5 Try.f5 Rows.abstractCountsSpec Rows.abstractCountsRow = true := by
  unfold joinedFacts
  refine andI (andI (andI (andI (andI (andI (andI (andI (andI (andI (andI (andI (andI (andI (andI (andI (andI (andI (andI (andI (andI (andI (andI (andI (andI (andI (andI (andI (andI (andI (andI ?_ ?_) ?_) ?_) ?_) ?_) ?_) ?_) ?_) ?_) ?_) ?_) ?_) ?_) ?_) ?_) ?_) ?_) ?_) ?_) ?_) ?_) ?_) ?_) ?_) ?_) ?_) ?_) ?_) ?_) ?_) ?_
  all_goals as_aux_lemma => kernel_rfl
theorem c3 : Try.f5.isInstance Try.checked.prog Rows.abstractCountsRow.origin Rows.abstractCountsRow.targs := of_decide_eq_true (by kernel_rfl)
theorem c4 : ¬ Check.packageOf Try.f5.name = "main" := of_decide_eq_false (by kernel_rfl)
theorem c5 : Try.f5.isWrapper Try.checked.prog Rows.abstractCountsRow.wrapper Rows.abstractCountsRow.mainSum := by unfold Func.isWrapper; rw [if_neg c4]; exact ⟨rfl, rfl⟩
theorem over : Rows.abstractCountsRow.holds Try.pinned (OpenSpec.ofChange Rows.abstractCountsSpec) :=
  OpenClaim.holds_of_wide 5 Try.f5 rfl rfl rfl rfl rfl rfl rfl ⟨rfl, rfl, rfl, rfl, rfl⟩ rfl rfl rfl rfl rfl c1 Try.func5 c2 c3 c5
    (fun os started H enc _ => lifted os started H enc)

theorem proved : Rows.AbstractCountsSaid := over
end Go.Proofs.Ytcngningbcaggaa.lawAbstractCounts
