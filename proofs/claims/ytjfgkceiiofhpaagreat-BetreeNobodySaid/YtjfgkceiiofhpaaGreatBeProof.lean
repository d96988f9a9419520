/- The law BetreeNobody: for every input the call returns true. No condition. -/
import Derived.Test.YtjfgkceiiofhpaaGreatRows
import Derived.Test.YtjfgkceiiofhpaaGreatDc
import Derived.Test.YtjfgkceiiofhpaaGreatBe
import Derived.OpenShut
import Derived.ShutString
import Derived.ChangeOld
namespace Go.Proofs.YtjfgkceiiofhpaaGreat.lawBetreeNobody
open Go Go.Fw Go.ChangeShapes Go.WideShapes Go.ChangeAt Go.RowKit
set_option linter.unusedVariables false

theorem own : ownKnob Tryz.prog.godebug = none := by kernel_rfl
theorem laidOut : laidOutB Tryz.prog = true := by kernel_rfl

set_option maxRecDepth 100000 in
theorem lifted (os : Os) (started : os.Started) (H : Type) (enc : TypeId × Value → H) :
    ReturnsInHanded {} Tryz.checked os 6 .any (Rows.betreeNobodySpec.pre6 enc Tryz.prog Tryz.f6 Rows.betreeNobodyRow.domain false) (Rows.betreeNobodySpec.post enc Tryz.prog Tryz.f6 false true false false) := by
  refine returnsInHanded_of_change_sized (C := Tryz.checked) own started (by kernel_rfl) Tryz.func6
    (ChangeSpec.witness6 (enc := enc) (C := Tryz.checked) false ⟨#[], #[.agg #[.int .i64 0, .string ⟨#[]⟩, .string ⟨#[]⟩, .bool false, .string ⟨#[]⟩, .int .i64 0]], []⟩ 12 (by kernel_rfl) (by kernel_rfl) (by kernel_rfl) (by kernel_rfl)) ?_
  intro W base args ds gs before hval0 hW hcnd hz _
  have hval : ∀ (j : Nat) t v, Tryz.f6.params[j]? = some t → args[j]? = some v → Value.okWide Tryz.prog W .any base t v := hval0
  have hW' := hW
  obtain ⟨p, q, hA0, hV, rfl, hfz, hnd⟩ := hW
  have hA : DataW.TrodAll enc Tryz.prog W 0 (fun _ => true) true Tryz.f6.params.toList args.toList ds p := hA0
  rw [Tryz.params6] at hA hval
  obtain ⟨v0, vs0, d0, ds0, p0, q0, hargs, rfl, rfl, h0, r0⟩ := trodAll_cons hA
  obtain ⟨rfl, rfl, rfl⟩ := trodAll_nil r0
  obtain rfl : args = #[v0] := by cases args; simp_all
  obtain ⟨rfl, rfl⟩ := trodVars_none hV
  have w0 : ∀ n ∈ d0.weights Tryz.prog 23, n ≤ 140737488351232 := fun n hn => by have := List.all_eq_true.1 hz n (DataW.weights_mem_each (j := 0) rfl rfl n hn); simpa [reachBytes] using of_decide_eq_true this
  have lt0 : ∀ x ∈ p0, x.block < W.heap.size := by obtain ⟨m, hm⟩ := h0; exact DataW.trod_lt m _ _ _ hm
  have k0 := h0
  obtain ⟨c0, rfl, l0, o0⟩ := arg_scal (n := 6) (by kernel_rfl) (hval 0 23 v0 rfl rfl) h0
  clear hA0 hval0
  refine ((be_fc l0 o0).law).mono fun e W' ⟨he, bel⟩ => ?_
  subst he
  exact ⟨_, rfl, _, _, _, [], _, [], hW', trodAll_mk1 (shut_bool Tryz.underlying4 _), (trodAll_cons_mk (Below.trod laidOut (by kernel_rfl) (of_decide_eq_true (by kernel_rfl)) k0 bel lt0) trodAll_mk0), rfl, bel.frame _, fun h => by cases h⟩

theorem c1 : Tryz.checked.prog.funcNamed Rows.betreeNobodyRow.func = some 6 := by kernel_rfl
theorem c2 : joinedFacts Tryz.checked.prog 6 Tryz.f6 Rows.betreeNobodySpec Rows.betreeNobodyRow = true := by kernel_rfl
theorem c3 : Tryz.f6.isInstance Tryz.checked.prog Rows.betreeNobodyRow.origin Rows.betreeNobodyRow.targs := of_decide_eq_true (by kernel_rfl)
theorem c4 : ¬ Check.packageOf Tryz.f6.name = "main" := of_decide_eq_false (by kernel_rfl)
theorem c5 : Tryz.f6.isWrapper Tryz.checked.prog Rows.betreeNobodyRow.wrapper Rows.betreeNobodyRow.mainSum := by unfold Func.isWrapper; rw [if_neg c4]; exact ⟨rfl, rfl⟩
theorem over : Rows.betreeNobodyRow.holds Tryz.pinned (OpenSpec.ofChange Rows.betreeNobodySpec) :=
  OpenClaim.holds_of_wide 6 Tryz.f6 rfl rfl rfl rfl rfl rfl rfl ⟨rfl, rfl, rfl, rfl, rfl⟩ rfl rfl rfl rfl rfl c1 Tryz.func6 c2 c3 c5
    (fun os started H enc _ => lifted os started H enc)

/-- The statement. -/
theorem proved : Rows.BetreeNobodySaid := over
end Go.Proofs.YtjfgkceiiofhpaaGreat.lawBetreeNobody
