/- The example of chapter 53 is run by the evaluator. -/
import Derived.Test.YtlkdcbmdihefpaaProg
import Derived.Test.YtlkdcbmdihefpaaX5
namespace Go.Proofs.Ytlkdcbmdihefpaa
open Go Go.Fw Go.RowKit
set_option maxRecDepth 1000000
set_option linter.unusedVariables false
set_option linter.unusedSimpArgs false
set_option linter.unnecessarySimpa false
theorem eawake53_6 : Callable Try.prog 6 := callable_of Try.func6 rfl (by decide)
theorem eawake53_7 : Callable Try.prog 7 := callable_of Try.func7 rfl (by decide)
theorem eawake53_8 : Callable Try.prog 8 := callable_of Try.func8 rfl (by decide)
theorem eawake53_15 : Callable Try.prog 15 := callable_of Try.func15 rfl (by decide)
theorem eawake53_16 : Callable Try.prog 16 := callable_of Try.func16 rfl (by decide)
theorem eawake53_17 : Callable Try.prog 17 := callable_of Try.func17 rfl (by decide)
theorem eawake53_23 : Callable Try.prog 23 := callable_of Try.func23 rfl (by decide)
theorem eawake53_24 : Callable Try.prog 24 := callable_of Try.func24 rfl (by decide)
def pawake53_8018 : Plan := .step 0 (.step 1 (.step 4 (.step 5 (.step 6 (.alts [2] (.alt 2 [1] (.alts [3] (.alt 3 [0, 2, 1] (.step 7 (.step 8 (.done))) (.stop))) (.stop)))))))
def pawake53_15006 : Plan := .step 0 (.step 1 (.step 2 (.step 3 (.step 4 (.step 5 (.step 6 (.step 7 (.step 8 (.step 9 (.alts [10] (.alt 10 [9, 4, 8, 3, 7, 2, 6, 1, 5] (.alts [11] (.alt 11 [0, 10, 9, 4, 8, 3, 7, 2, 6, 1, 5] (.step 12 (.done)) (.stop))) (.stop))))))))))))
def pawake53_15009 : Plan := .step 0 (.step 1 (.step 2 (.step 3 (.step 4 (.step 5 (.step 6 (.step 7 (.step 8 (.step 9 (.alts [10] (.alt 10 [9, 4, 8, 3, 7, 2, 6, 1, 5] (.alts [11] (.alt 11 [0, 10, 9, 4, 8, 3, 7, 2, 6, 1, 5] (.step 12 (.done)) (.stop))) (.stop))))))))))))
def pawake53_15003 : Plan := .step 0 (.step 1 (.step 2 (.step 3 (.step 4 (.step 5 (.step 6 (.step 7 (.step 8 (.step 9 (.step 10 (.step 11 (.step 12 (.step 13 (.alts [14] (.alt 14 [13, 4, 8, 12, 3, 7, 11, 2, 6, 10, 1, 5, 9] (.alts [15] (.alt 15 [0, 14, 13, 4, 8, 12, 3, 7, 11, 2, 6, 10, 1, 5, 9] (.step 16 (.done)) (.stop))) (.stop))))))))))))))))
theorem mawake53 : Try.prog.follows .mixedOrders = true := by kernel_rfl
theorem vawake53 : ∃ C : Ctx, C.P = Try.prog ∧ COk C ∧ evB C 1000000 6 [] = some true :=
  ⟨{ P := Try.prog, fn := FT.get (.n 16 Try.f16 (.n 8 Try.f8 (.n 7 Try.f7 (.n 6 Try.f6 (.e) (.e)) (.e)) (.n 15 Try.f15 (.e) (.e))) (.n 23 Try.f23 (.n 17 Try.f17 (.e) (.e)) (.n 24 Try.f24 (.e) (.e)))), plan := fun g r => PT.get (.n 15006 pawake53_15006 (.n 15003 pawake53_15003 (.n 8018 pawake53_8018 (.e) (.e)) (.e)) (.n 15009 pawake53_15009 (.e) (.e))) (g * 1000 + r), prim := fun _ => none }, rfl, COk.of ⟨⟨Try.func16, eawake53_16⟩, ⟨⟨Try.func8, eawake53_8⟩, ⟨⟨Try.func7, eawake53_7⟩, ⟨⟨Try.func6, eawake53_6⟩, trivial, trivial⟩, trivial⟩, ⟨⟨Try.func15, eawake53_15⟩, trivial, trivial⟩⟩, ⟨⟨Try.func23, eawake53_23⟩, ⟨⟨Try.func17, eawake53_17⟩, trivial, trivial⟩, ⟨⟨Try.func24, eawake53_24⟩, trivial, trivial⟩⟩⟩ mawake53, by kernel_rfl⟩
theorem awake53_fc {G : GH}  : Fc Try.prog 6 [] G [] (fun v _ _ => v = .bool true) := by
  obtain ⟨C, h1, h2, h3⟩ := vawake53
  rw [← h1]
  exact evB_ok h2 h3 (fun _ => .bool true) (fun _ => rfl) VRs.nil G
end Go.Proofs.Ytlkdcbmdihefpaa
