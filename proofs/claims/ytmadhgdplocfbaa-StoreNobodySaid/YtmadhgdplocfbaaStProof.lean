/- The law StoreNobody: for every input the call returns true. No condition. -/
import Derived.Test.YtmadhgdplocfbaaRows
import Derived.Test.YtmadhgdplocfbaaDc
import Derived.Test.YtmadhgdplocfbaaSt
import Derived.OpenShut
import Derived.ShutString
import Derived.ChangeOld
namespace Go.Proofs.Ytmadhgdplocfbaa.lawStoreNobody
open Go Go.Fw Go.ChangeShapes Go.WideShapes Go.ChangeAt Go.RowKit
set_option linter.unusedVariables false

theorem own : ownKnob Try.prog.godebug = none := by kernel_rfl
theorem laidOut : laidOutB Try.prog = true := by kernel_rfl

set_option maxRecDepth 100000 in
theorem lifted (os : Os) (started : os.Started) (H : Type) (enc : TypeId × Value → H) :
    ReturnsInHanded {} Try.checked os 14 .any (Rows.storeNobodySpec.pre6 enc Try.prog Try.f14 Rows.storeNobodyRow.domain false) (Rows.storeNobodySpec.post enc Try.prog Try.f14 false true false false) := by
  refine returnsInHanded_of_change_sized (C := Try.checked) own started (by kernel_rfl) Try.func14
    (ChangeSpec.witness6 (enc := enc) (C := Try.checked) false ⟨#[], #[.int .i64 0], []⟩ 12 (by kernel_rfl) (by kernel_rfl) (by kernel_rfl) (by kernel_rfl)) ?_
  intro W base args ds gs before hval0 hW hcnd hz _
  have hval : ∀ (j : Nat) t v, Try.f14.params[j]? = some t → args[j]? = some v → Value.okWide Try.prog W .any base t v := hval0
  have hW' := hW
  obtain ⟨p, q, hA0, hV, rfl, hfz, hnd⟩ := hW
  have hA : DataW.TrodAll enc Try.prog W 0 (fun _ => true) true Try.f14.params.toList args.toList ds p := hA0
  rw [Try.params14] at hA hval
  obtain ⟨v0, vs0, d0, ds0, p0, q0, hargs, rfl, rfl, h0, r0⟩ := trodAll_cons hA
  obtain ⟨rfl, rfl, rfl⟩ := trodAll_nil r0
  obtain rfl : args = #[v0] := by cases args; simp_all
  obtain ⟨rfl, rfl⟩ := trodVars_none hV
  have w0 : ∀ n ∈ d0.weights Try.prog 3, n ≤ 140737488351232 := fun n hn => by have := List.all_eq_true.1 hz n (DataW.weights_mem_each (j := 0) rfl rfl n hn); simpa [reachBytes] using of_decide_eq_true this
  have lt0 : ∀ x ∈ p0, x.block < W.heap.size := by obtain ⟨m, hm⟩ := h0; exact DataW.trod_lt m _ _ _ hm
  have k0 := h0
  obtain ⟨a0, rfl, i0⟩ := arg_int Try.underlying3 (hval 0 3 v0 rfl rfl) h0
  clear hA0 hval0
  refine ((st_fc a0).law).mono fun e W' ⟨he, bel⟩ => ?_
  subst he
  exact ⟨_, rfl, _, _, _, [], _, [], hW', trodAll_mk1 (shut_bool Try.underlying4 _), (trodAll_cons_mk (Below.trod laidOut (by kernel_rfl) (of_decide_eq_true (by kernel_rfl)) k0 bel lt0) trodAll_mk0), rfl, bel.frame _, fun h => by cases h⟩

theorem c1 : Try.checked.prog.funcNamed Rows.storeNobodyRow.func = some 14 := by kernel_rfl
theorem c2 : joinedFacts Try.checked.prog 14 Try.f14 Rows.storeNobodySpec Rows.storeNobodyRow = true := by kernel_rfl
theorem c3 : Try.f14.isInstance Try.checked.prog Rows.storeNobodyRow.origin Rows.storeNobodyRow.targs := of_decide_eq_true (by kernel_rfl)
theorem c4 : ¬ Check.packageOf Try.f14.name = "main" := of_decide_eq_false (by kernel_rfl)
theorem c5 : Try.f14.isWrapper Try.checked.prog Rows.storeNobodyRow.wrapper Rows.storeNobodyRow.mainSum := by unfold Func.isWrapper; rw [if_neg c4]; exact ⟨rfl, rfl⟩
theorem over : Rows.storeNobodyRow.holds Try.pinned (OpenSpec.ofChange Rows.storeNobodySpec) :=
  OpenClaim.holds_of_wide 14 Try.f14 rfl rfl rfl rfl rfl rfl rfl ⟨rfl, rfl, rfl, rfl, rfl⟩ rfl rfl rfl rfl rfl c1 Try.func14 c2 c3 c5
    (fun os started H enc _ => lifted os started H enc)

/-- The statement. -/
theorem proved : Rows.StoreNobodySaid := over
end Go.Proofs.Ytmadhgdplocfbaa.lawStoreNobody
