/- The law CursorNobody: for every input the call returns true. No condition. -/
import Derived.Test.YtjfgkceiiofhpaaRows
import Derived.Test.YtjfgkceiiofhpaaDc
import Derived.Test.YtjfgkceiiofhpaaCu
import Derived.OpenShut
import Derived.ShutString
import Derived.ChangeOld
namespace Go.Proofs.Ytjfgkceiiofhpaa.lawCursorNobody
open Go Go.Fw Go.ChangeShapes Go.WideShapes Go.ChangeAt Go.RowKit
set_option linter.unusedVariables false

theorem own : ownKnob Try.prog.godebug = none := by kernel_rfl
theorem laidOut : laidOutB Try.prog = true := by kernel_rfl

set_option maxRecDepth 100000 in
theorem lifted (os : Os) (started : os.Started) (H : Type) (enc : TypeId × Value → H) :
    ReturnsInHanded {} Try.checked os 3 .any (Rows.cursorNobodySpec.pre6 enc Try.prog Try.f3 Rows.cursorNobodyRow.domain false) (Rows.cursorNobodySpec.post enc Try.prog Try.f3 false true false false) := by
  refine returnsInHanded_of_change_sized (C := Try.checked) own started (by kernel_rfl) Try.func3
    (ChangeSpec.witness6 (enc := enc) (C := Try.checked) false ⟨#[], #[.string ⟨#[]⟩, .int .i64 0], []⟩ 12 (by kernel_rfl) (by kernel_rfl) (by kernel_rfl) (by kernel_rfl)) ?_
  intro W base args ds gs before hval0 hW hcnd hz _
  have hval : ∀ (j : Nat) t v, Try.f3.params[j]? = some t → args[j]? = some v → Value.okWide Try.prog W .any base t v := hval0
  have hW' := hW
  obtain ⟨p, q, hA0, hV, rfl, hfz, hnd⟩ := hW
  have hA : DataW.TrodAll enc Try.prog W 0 (fun _ => true) true Try.f3.params.toList args.toList ds p := hA0
  rw [Try.params3] at hA hval
  obtain ⟨v0, vs0, d0, ds0, p0, q0, hargs, rfl, rfl, h0, r0⟩ := trodAll_cons hA
  obtain ⟨v1, vs1, d1, ds1, p1, q1, rfl, rfl, rfl, h1, r1⟩ := trodAll_cons r0
  obtain ⟨rfl, rfl, rfl⟩ := trodAll_nil r1
  obtain rfl : args = #[v0, v1] := by cases args; simp_all
  obtain ⟨rfl, rfl⟩ := trodVars_none hV
  have w0 : ∀ n ∈ d0.weights Try.prog 9, n ≤ 140737488351232 := fun n hn => by have := List.all_eq_true.1 hz n (DataW.weights_mem_each (j := 0) rfl rfl n hn); simpa [reachBytes] using of_decide_eq_true this
  have lt0 : ∀ x ∈ p0, x.block < W.heap.size := by obtain ⟨m, hm⟩ := h0; exact DataW.trod_lt m _ _ _ hm
  have k0 := h0
  have w1 : ∀ n ∈ d1.weights Try.prog 3, n ≤ 140737488351232 := fun n hn => by have := List.all_eq_true.1 hz n (DataW.weights_mem_each (j := 1) rfl rfl n hn); simpa [reachBytes] using of_decide_eq_true this
  have lt1 : ∀ x ∈ p1, x.block < W.heap.size := by obtain ⟨m, hm⟩ := h1; exact DataW.trod_lt m _ _ _ hm
  have k1 := h1
  obtain ⟨a0, rfl⟩ := arg_str Try.underlying9 (hval 0 9 v0 rfl rfl) h0 w0
  obtain ⟨a1, rfl, i1⟩ := arg_int Try.underlying3 (hval 1 3 v1 rfl rfl) h1
  clear hA0 hval0
  refine ((cu_fc a0 a1).law).mono fun e W' ⟨he, bel⟩ => ?_
  subst he
  exact ⟨_, rfl, _, _, _, [], _, [], hW', trodAll_mk1 (shut_bool Try.underlying4 _), (trodAll_cons_mk (Below.trod laidOut (by kernel_rfl) (of_decide_eq_true (by kernel_rfl)) k0 bel lt0) (trodAll_cons_mk (Below.trod laidOut (by kernel_rfl) (of_decide_eq_true (by kernel_rfl)) k1 bel lt1) trodAll_mk0)), rfl, bel.frame _, fun h => by cases h⟩

theorem c1 : Try.checked.prog.funcNamed Rows.cursorNobodyRow.func = some 3 := by kernel_rfl
theorem c2 : joinedFacts Try.checked.prog 3 Try.f3 Rows.cursorNobodySpec Rows.cursorNobodyRow = true := by kernel_rfl
theorem c3 : Try.f3.isInstance Try.checked.prog Rows.cursorNobodyRow.origin Rows.cursorNobodyRow.targs := of_decide_eq_true (by kernel_rfl)
theorem c4 : ¬ Check.packageOf Try.f3.name = "main" := of_decide_eq_false (by kernel_rfl)
theorem c5 : Try.f3.isWrapper Try.checked.prog Rows.cursorNobodyRow.wrapper Rows.cursorNobodyRow.mainSum := by unfold Func.isWrapper; rw [if_neg c4]; exact ⟨rfl, rfl⟩
theorem over : Rows.cursorNobodyRow.holds Try.pinned (OpenSpec.ofChange Rows.cursorNobodySpec) :=
  OpenClaim.holds_of_wide 3 Try.f3 rfl rfl rfl rfl rfl rfl rfl ⟨rfl, rfl, rfl, rfl, rfl⟩ rfl rfl rfl rfl rfl c1 Try.func3 c2 c3 c5
    (fun os started H enc _ => lifted os started H enc)

/-- The statement. -/
theorem proved : Rows.CursorNobodySaid := over
end Go.Proofs.Ytjfgkceiiofhpaa.lawCursorNobody
