/- The law AnswerLines: for every input the call returns true. No condition. -/
import Derived.Test.YthmkpaoolhcibaaDoorRows
import Derived.Test.YthmkpaoolhcibaaDoorCards
import Derived.Test.YthmkpaoolhcibaaDoorTie
import Derived.Test.YthmkpaoolhcibaaDoorX3
import Derived.Test.YthmkpaoolhcibaaDoorMl
import Derived.Test.YthmkpaoolhcibaaDoorSg
import Derived.OpenShut
import Derived.ShutString
import Derived.ChangeOld
import Derived.ProofKit
import Derived.LaidMore
import Derived.Stop.Joined
import Derived.SevenTiedAt
import Derived.Stop.LaidErr
namespace Go.Proofs.YthmkpaoolhcibaaDoor.lawAnswerLines
open Go Go.Fw Go.ChangeShapes Go.WideShapes Go.ChangeAt Go.RowKit
set_option linter.unusedVariables false
set_option linter.unusedSimpArgs false
set_option linter.unnecessarySimpa false

theorem own : ownKnob Tryd.prog.godebug = none := by kernel_rfl
theorem laidOut : laidOutB Tryd.prog = true := by kernel_rfl

theorem door_met (os : Os) (args : Array Value) : laidMetH Tryd.prog [("math/bits.deBruijn32tab", Rows.laid_math_bits_deBruijn32tab), ("math/bits.deBruijn64tab", Rows.laid_math_bits_deBruijn64tab), ("internal/strconv.uint64pow10", Rows.laid_internal_strconv_uint64pow10)] ((World.doorLaid Tryd.prog 400 os).forCall (fun _ _ => 0) ⟨#[], args, []⟩).memory :=
  laidMetH_of_parts3 (fuel := 8) (laidMet_of_run' 8 (by kernel_rfl) (by kernel_rfl)) (by kernel_rfl) (by kernel_rfl)

theorem tabG {W : World} (h : laidMetH Tryd.prog [("math/bits.deBruijn32tab", Rows.laid_math_bits_deBruijn32tab), ("math/bits.deBruijn64tab", Rows.laid_math_bits_deBruijn64tab), ("internal/strconv.uint64pow10", Rows.laid_internal_strconv_uint64pow10)] W) : TabG Tryd.prog (allG W) := by
  rw [MakeChecks.laidMetH_plain _ _ _ (by kernel_rfl)] at h
  have h3 := laidMet.tail (laidMet.tail h)
  have e : (Rows.laid_internal_strconv_uint64pow10 : DataW Unit) = Lib.tabData .u64 Lib.pow10Tab := by rfl
  rw [e] at h3
  exact TabG.of (Lib.tabIs_of_head (g := 0) (t := 112) (e := 105) (n := 20) (by kernel_rfl) (by kernel_rfl) (by kernel_rfl) (by kernel_rfl) (by kernel_rfl) (by kernel_rfl) h3)

set_option maxRecDepth 100000 in
theorem lifted (os : Os) (started : os.Started) (H : Type) (enc : TypeId × Value → H) :
    ReturnsInHanded {} Tryd.checked os 3 .any (fun w args => (Rows.answerLinesSpec.pre enc Tryd.prog Tryd.f3 Rows.answerLinesRow.domain false w args ∧ laidMetH Tryd.prog [("math/bits.deBruijn32tab", Rows.laid_math_bits_deBruijn32tab), ("math/bits.deBruijn64tab", Rows.laid_math_bits_deBruijn64tab), ("internal/strconv.uint64pow10", Rows.laid_internal_strconv_uint64pow10)] w) ∧ sizedMet enc Tryd.prog Tryd.f3 (OpenSpec.ofChange Rows.answerLinesSpec) false w args) (Rows.answerLinesSpec.post enc Tryd.prog Tryd.f3 false true false false) := by
  refine returnsInHanded_of_change_and (C := Tryd.checked) (X := fun w _ => laidMetH Tryd.prog [("math/bits.deBruijn32tab", Rows.laid_math_bits_deBruijn32tab), ("math/bits.deBruijn64tab", Rows.laid_math_bits_deBruijn64tab), ("internal/strconv.uint64pow10", Rows.laid_internal_strconv_uint64pow10)] w) (fun _ _ _ hh h => h.of_heap hh) own started (by kernel_rfl) Tryd.func3
    (ChangeSpec.witness_shaped (enc := enc) (C := Tryd.checked) (os := os) (X := fun w _ => laidMetH Tryd.prog [("math/bits.deBruijn32tab", Rows.laid_math_bits_deBruijn32tab), ("math/bits.deBruijn64tab", Rows.laid_math_bits_deBruijn64tab), ("internal/strconv.uint64pow10", Rows.laid_internal_strconv_uint64pow10)] w) false (World.doorLaid Tryd.prog 400 os) #[.agg #[.int .i64 0, .string ⟨#[]⟩, .string ⟨#[]⟩, .bool false, .string ⟨#[]⟩, .int .i64 0], .agg #[.int .i64 0, .bool false, .string ⟨#[]⟩, .slice none 0 0], .agg #[.int .i64 0, .bool false, .string ⟨#[]⟩, .slice none 0 0]] 12 rfl (World.shaped_of_RefB (by kernel_rfl) (by kernel_rfl)) (by kernel_rfl) (by kernel_rfl) (by kernel_rfl) (door_met os _)) ?_
  intro W base args ds gs before hval0 hW hcnd hz hL _
  have hval : ∀ (j : Nat) t v, Tryd.f3.params[j]? = some t → args[j]? = some v → Value.okWide Tryd.prog W .any base t v := hval0
  have hW' := hW
  obtain ⟨p, q, hA0, hV, rfl, hfz, hnd⟩ := hW
  have hA : DataW.TrodAll enc Tryd.prog W 0 (fun _ => true) true Tryd.f3.params.toList args.toList ds p := hA0
  rw [Tryd.params3] at hA hval
  obtain ⟨v0, vs0, d0, ds0, p0, q0, hargs, rfl, rfl, h0, r0⟩ := trodAll_cons hA
  obtain ⟨v1, vs1, d1, ds1, p1, q1, rfl, rfl, rfl, h1, r1⟩ := trodAll_cons r0
  obtain ⟨v2, vs2, d2, ds2, p2, q2, rfl, rfl, rfl, h2, r2⟩ := trodAll_cons r1
  obtain ⟨rfl, rfl, rfl⟩ := trodAll_nil r2
  obtain rfl : args = #[v0, v1, v2] := by cases args; simp_all
  obtain ⟨rfl, rfl⟩ := trodVars_none hV
  have w0 : ∀ n ∈ d0.weights Tryd.prog 23, n ≤ 140737488351232 := fun n hn => by have := List.all_eq_true.1 hz n (DataW.weights_mem_each (j := 0) rfl rfl n hn); simpa [reachBytes] using of_decide_eq_true this
  have lt0 : ∀ x ∈ p0, x.block < W.heap.size := by obtain ⟨m, hm⟩ := h0; exact DataW.trod_lt m _ _ _ hm
  have k0 := h0
  have w1 : ∀ n ∈ d1.weights Tryd.prog 27, n ≤ 140737488351232 := fun n hn => by have := List.all_eq_true.1 hz n (DataW.weights_mem_each (j := 1) rfl rfl n hn); simpa [reachBytes] using of_decide_eq_true this
  have lt1 : ∀ x ∈ p1, x.block < W.heap.size := by obtain ⟨m, hm⟩ := h1; exact DataW.trod_lt m _ _ _ hm
  have k1 := h1
  have w2 : ∀ n ∈ d2.weights Tryd.prog 27, n ≤ 140737488351232 := fun n hn => by have := List.all_eq_true.1 hz n (DataW.weights_mem_each (j := 2) rfl rfl n hn); simpa [reachBytes] using of_decide_eq_true this
  have lt2 : ∀ x ∈ p2, x.block < W.heap.size := by obtain ⟨m, hm⟩ := h2; exact DataW.trod_lt m _ _ _ hm
  have k2 := h2
  obtain ⟨c0, a0, rfl, s0⟩ := arg_struct (L := [(3, 0, 1), (9, 1, 1), (9, 2, 1), (4, 3, 1), (9, 4, 1), (3, 5, 1)]) (by kernel_rfl) (dec_op (by kernel_rfl) Tryd.underlying3 st9 bo4 (by kernel_rfl)) (hval 0 23 v0 rfl rfl) h0 w0
  obtain ⟨rfl, _⟩ := s0
  obtain ⟨c1, a1, rfl, s1⟩ := arg_struct (L := [(24, 0, 1), (4, 1, 1), (9, 2, 1), (25, 3, 1)]) (by kernel_rfl) (dec_ans (by kernel_rfl) Tryd.underlying24 st9 bo4 (dec_slice sl25 (dec_pair (by kernel_rfl) st9 (by kernel_rfl)) (by kernel_rfl) (by decide) by45) (by kernel_rfl)) (hval 1 27 v1 rfl rfl) h1 w1
  obtain ⟨c2, a2, rfl, s2⟩ := arg_struct (L := [(24, 0, 1), (4, 1, 1), (9, 2, 1), (25, 3, 1)]) (by kernel_rfl) (dec_ans (by kernel_rfl) Tryd.underlying24 st9 bo4 (dec_slice sl25 (dec_pair (by kernel_rfl) st9 (by kernel_rfl)) (by kernel_rfl) (by decide) by45) (by kernel_rfl)) (hval 2 27 v2 rfl rfl) h2 w2
  clear hA0 hval0
  refine ((answerLines_fc a0.kind a0.key a0.hi a0.opn a0.val a0.lim s1 s2 (tabG hL)).law).mono fun e W' ⟨he, bel⟩ => ?_
  subst he
  exact ⟨_, rfl, _, _, _, [], _, [], hW', trodAll_mk1 (shut_bool Tryd.underlying4 _), (trodAll_cons_mk (Below.trod laidOut (by kernel_rfl) (of_decide_eq_true (by kernel_rfl)) k0 bel lt0) (trodAll_cons_mk (Below.trod laidOut (by kernel_rfl) (of_decide_eq_true (by kernel_rfl)) k1 bel lt1) (trodAll_cons_mk (Below.trod laidOut (by kernel_rfl) (of_decide_eq_true (by kernel_rfl)) k2 bel lt2) trodAll_mk0))), rfl, bel.frame _, fun h => by cases h⟩

theorem c1 : Tryd.checked.prog.funcNamed Rows.answerLinesRow.func = some 3 := by kernel_rfl
set_option maxHeartbeats 8000000 in
theorem c2 : joinedFacts Tryd.checked.prog 3 Tryd.f3 Rows.answerLinesSpec Rows.answerLinesRow = true := by
  unfold joinedFacts
  refine andI (andI (andI (andI (andI (andI (andI (andI (andI (andI (andI (andI (andI (andI (andI (andI (andI (andI (andI (andI (andI (andI (andI (andI (andI (andI (andI (andI (andI (andI (andI ?_ ?_) ?_) ?_) ?_) ?_) ?_) ?_) ?_) ?_) ?_) ?_) ?_) ?_) ?_) ?_) ?_) ?_) ?_) ?_) ?_) ?_) ?_) ?_) ?_) ?_) ?_) ?_) ?_) ?_) ?_) ?_
  all_goals as_aux_lemma => kernel_rfl
theorem c3 : Tryd.f3.isInstance Tryd.checked.prog Rows.answerLinesRow.origin Rows.answerLinesRow.targs := of_decide_eq_true (by kernel_rfl)
theorem c4 : ¬ Check.packageOf Tryd.f3.name = "main" := of_decide_eq_false (by kernel_rfl)
theorem c5 : Tryd.f3.isWrapper Tryd.checked.prog Rows.answerLinesRow.wrapper Rows.answerLinesRow.mainSum := by unfold Func.isWrapper; rw [if_neg c4]; exact ⟨rfl, rfl⟩
theorem over : Rows.answerLinesRow.holds Tryd.pinned (OpenSpec.ofChange Rows.answerLinesSpec) :=
  OpenClaim.holds_of_wide 3 Tryd.f3 rfl rfl rfl rfl rfl rfl rfl ⟨rfl, rfl, rfl, rfl, rfl⟩ rfl rfl rfl rfl rfl c1 Tryd.func3 c2 c3 c5
    (fun os started H enc _ => lifted os started H enc)

set_option maxRecDepth 100000 in
theorem proved : Rows.AnswerLinesCardSaid :=
  Claim7.holds_tied_plain_at .later [] [.data, .data, .data] true (true, "b80de7a04c482fb8cbe9c5d6c95051a36a40f730897490ef19c695e174839f5a") false
    over (fun _ h => by cases h) (by kernel_rfl) (fun _ h => by cases h) answerLines_row_tie rfl ⟨rfl, rfl⟩ (by kernel_rfl) rfl
    (fun f fn hf hfn => by
      obtain rfl : f = 3 := Option.some.inj (c1.symm.trans hf) |>.symm
      obtain rfl : fn = Tryd.f3 := (Option.some.inj (Tryd.func3.symm.trans hfn)).symm
      exact ⟨by kernel_rfl, fun j t ht => by
        rw [Tryd.params3] at ht
        have hm : t ∈ [23, 27, 27] := by simpa using Array.mem_of_getElem? ht
        have hall : ([23, 27, 27].all fun u => !Tryd.prog.wantsStandIn u) = true := by kernel_rfl
        exact (show Tryd.prog.wantsStandIn t = false by simpa using List.all_eq_true.1 hall t hm)⟩)
    (by kernel_rfl)
end Go.Proofs.YthmkpaoolhcibaaDoor.lawAnswerLines
