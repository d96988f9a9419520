/- The example of chapter 28 is run by the evaluator. -/
import Derived.Test.YtipdjeemjiimbaaProg
import Derived.Test.YtipdjeemjiimbaaEn
namespace Go.Proofs.Ytipdjeemjiimbaa
open Go Go.Fw Go.RowKit
set_option maxRecDepth 1000000
set_option linter.unusedVariables false
set_option linter.unusedSimpArgs false
set_option linter.unnecessarySimpa false
theorem eawake28_23 : Callable Try.prog 23 := callable_of Try.func23 rfl (by decide)
theorem eawake28_24 : Callable Try.prog 24 := callable_of Try.func24 rfl (by decide)
theorem eawake28_64 : Callable Try.prog 64 := callable_of Try.func64 rfl (by decide)
theorem eawake28_109 : Callable Try.prog 109 := callable_of Try.func109 rfl (by decide)
theorem eawake28_135 : Callable Try.prog 135 := callable_of Try.func135 rfl (by decide)
theorem eawake28_150 : Callable Try.prog 150 := callable_of Try.func150 rfl (by decide)
theorem eawake28_151 : Callable Try.prog 151 := callable_of Try.func151 rfl (by decide)
theorem eawake28_153 : Callable Try.prog 153 := callable_of Try.func153 rfl (by decide)
theorem eawake28_165 : Callable Try.prog 165 := callable_of Try.func165 rfl (by decide)
theorem eawake28_167 : Callable Try.prog 167 := callable_of Try.func167 rfl (by decide)
theorem eawake28_170 : Callable Try.prog 170 := callable_of Try.func170 rfl (by decide)
theorem eawake28_182 : Callable Try.prog 182 := callable_of Try.func182 rfl (by decide)
theorem eawake28_200 : Callable Try.prog 200 := callable_of Try.func200 rfl (by decide)
theorem eawake28_201 : Callable Try.prog 201 := callable_of Try.func201 rfl (by decide)
theorem eawake28_207 : Callable Try.prog 207 := callable_of Try.func207 rfl (by decide)
theorem eawake28_209 : Callable Try.prog 209 := callable_of Try.func209 rfl (by decide)
theorem eawake28_220 : Callable Try.prog 220 := callable_of Try.func220 rfl (by decide)
theorem eawake28_231 : Callable Try.prog 231 := callable_of Try.func231 rfl (by decide)
theorem eawake28_233 : Callable Try.prog 233 := callable_of Try.func233 rfl (by decide)
theorem eawake28_234 : Callable Try.prog 234 := callable_of Try.func234 rfl (by decide)
def pawake28_182004 : Plan := .step 0 (.step 1 (.step 2 (.alts [3] (.alt 3 [1] (.alts [4] (.alt 4 [0, 3, 1, 2] (.alts [5] (.alt 5 [0, 1] (.done) (.stop))) (.stop))) (.stop)))))
theorem mawake28 : Try.prog.follows .mixedOrders = true := by kernel_rfl
theorem vawake28 : ∃ C : Ctx, C.P = Try.prog ∧ COk C ∧ evB C 1000000 23 [] = some true :=
  ⟨{ P := Try.prog, fn := FT.get (.n 170 Try.f170 (.n 150 Try.f150 (.n 64 Try.f64 (.n 24 Try.f24 (.n 23 Try.f23 (.e) (.e)) (.e)) (.n 135 Try.f135 (.n 109 Try.f109 (.e) (.e)) (.e))) (.n 165 Try.f165 (.n 153 Try.f153 (.n 151 Try.f151 (.e) (.e)) (.e)) (.n 167 Try.f167 (.e) (.e)))) (.n 209 Try.f209 (.n 201 Try.f201 (.n 200 Try.f200 (.n 182 Try.f182 (.e) (.e)) (.e)) (.n 207 Try.f207 (.e) (.e))) (.n 233 Try.f233 (.n 231 Try.f231 (.n 220 Try.f220 (.e) (.e)) (.e)) (.n 234 Try.f234 (.e) (.e))))), plan := fun g r => PT.get (.n 182004 pawake28_182004 (.e) (.e)) (g * 1000 + r), prim := fun _ => none }, rfl, COk.of ⟨⟨Try.func170, eawake28_170⟩, ⟨⟨Try.func150, eawake28_150⟩, ⟨⟨Try.func64, eawake28_64⟩, ⟨⟨Try.func24, eawake28_24⟩, ⟨⟨Try.func23, eawake28_23⟩, trivial, trivial⟩, trivial⟩, ⟨⟨Try.func135, eawake28_135⟩, ⟨⟨Try.func109, eawake28_109⟩, trivial, trivial⟩, trivial⟩⟩, ⟨⟨Try.func165, eawake28_165⟩, ⟨⟨Try.func153, eawake28_153⟩, ⟨⟨Try.func151, eawake28_151⟩, trivial, trivial⟩, trivial⟩, ⟨⟨Try.func167, eawake28_167⟩, trivial, trivial⟩⟩⟩, ⟨⟨Try.func209, eawake28_209⟩, ⟨⟨Try.func201, eawake28_201⟩, ⟨⟨Try.func200, eawake28_200⟩, ⟨⟨Try.func182, eawake28_182⟩, trivial, trivial⟩, trivial⟩, ⟨⟨Try.func207, eawake28_207⟩, trivial, trivial⟩⟩, ⟨⟨Try.func233, eawake28_233⟩, ⟨⟨Try.func231, eawake28_231⟩, ⟨⟨Try.func220, eawake28_220⟩, trivial, trivial⟩, trivial⟩, ⟨⟨Try.func234, eawake28_234⟩, trivial, trivial⟩⟩⟩⟩ mawake28, by kernel_rfl⟩
theorem awake28_fc {G : GH}  : Fc Try.prog 23 [] G [] (fun v _ _ => v = .bool true) := by
  obtain ⟨C, h1, h2, h3⟩ := vawake28
  rw [← h1]
  exact evB_ok h2 h3 (fun _ => .bool true) (fun _ => rfl) VRs.nil G
end Go.Proofs.Ytipdjeemjiimbaa
