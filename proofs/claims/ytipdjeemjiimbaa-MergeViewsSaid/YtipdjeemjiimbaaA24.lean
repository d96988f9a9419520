/- The example of chapter 24 is run by the evaluator. -/
import Derived.Test.YtipdjeemjiimbaaProg
import Derived.Test.YtipdjeemjiimbaaX5
namespace Go.Proofs.Ytipdjeemjiimbaa
open Go Go.Fw Go.RowKit
set_option maxRecDepth 1000000
set_option linter.unusedVariables false
set_option linter.unusedSimpArgs false
set_option linter.unnecessarySimpa false
theorem eawake24_56 : Callable Try.prog 56 := callable_of Try.func56 rfl (by decide)
theorem eawake24_59 : Callable Try.prog 59 := callable_of Try.func59 rfl (by decide)
theorem eawake24_64 : Callable Try.prog 64 := callable_of Try.func64 rfl (by decide)
theorem eawake24_109 : Callable Try.prog 109 := callable_of Try.func109 rfl (by decide)
theorem eawake24_129 : Callable Try.prog 129 := callable_of Try.func129 rfl (by decide)
theorem eawake24_130 : Callable Try.prog 130 := callable_of Try.func130 rfl (by decide)
theorem eawake24_135 : Callable Try.prog 135 := callable_of Try.func135 rfl (by decide)
theorem eawake24_145 : Callable Try.prog 145 := callable_of Try.func145 rfl (by decide)
theorem eawake24_150 : Callable Try.prog 150 := callable_of Try.func150 rfl (by decide)
theorem eawake24_151 : Callable Try.prog 151 := callable_of Try.func151 rfl (by decide)
theorem eawake24_153 : Callable Try.prog 153 := callable_of Try.func153 rfl (by decide)
theorem eawake24_165 : Callable Try.prog 165 := callable_of Try.func165 rfl (by decide)
theorem eawake24_167 : Callable Try.prog 167 := callable_of Try.func167 rfl (by decide)
theorem eawake24_170 : Callable Try.prog 170 := callable_of Try.func170 rfl (by decide)
theorem eawake24_182 : Callable Try.prog 182 := callable_of Try.func182 rfl (by decide)
theorem eawake24_190 : Callable Try.prog 190 := callable_of Try.func190 rfl (by decide)
theorem eawake24_192 : Callable Try.prog 192 := callable_of Try.func192 rfl (by decide)
theorem eawake24_200 : Callable Try.prog 200 := callable_of Try.func200 rfl (by decide)
theorem eawake24_201 : Callable Try.prog 201 := callable_of Try.func201 rfl (by decide)
theorem eawake24_207 : Callable Try.prog 207 := callable_of Try.func207 rfl (by decide)
theorem eawake24_209 : Callable Try.prog 209 := callable_of Try.func209 rfl (by decide)
theorem eawake24_220 : Callable Try.prog 220 := callable_of Try.func220 rfl (by decide)
theorem eawake24_231 : Callable Try.prog 231 := callable_of Try.func231 rfl (by decide)
theorem eawake24_233 : Callable Try.prog 233 := callable_of Try.func233 rfl (by decide)
theorem eawake24_234 : Callable Try.prog 234 := callable_of Try.func234 rfl (by decide)
theorem eawake24_272 : Callable Try.prog 272 := callable_of Try.func272 rfl (by decide)
theorem eawake24_273 : Callable Try.prog 273 := callable_of Try.func273 rfl (by decide)
theorem eawake24_274 : Callable Try.prog 274 := callable_of Try.func274 rfl (by decide)
theorem eawake24_275 : Callable Try.prog 275 := callable_of Try.func275 rfl (by decide)
def pawake24_182004 : Plan := .step 0 (.step 1 (.step 2 (.alts [3] (.alt 3 [1] (.alts [4] (.alt 4 [0, 3, 1, 2] (.alts [5] (.alt 5 [0, 1] (.done) (.stop))) (.stop))) (.stop)))))
def pawake24_272001 : Plan := .step 0 (.step 1 (.step 2 (.step 3 (.step 4 (.step 5 (.step 6 (.step 7 (.alts [8, 9] (.alt 8 [] (.alts [9] (.alt 9 [] (.alts [10] (.alt 10 [3] (.alts [11] (.alt 11 [3, 7] (.done) (.stop))) (.stop))) (.stop))) (.alt 9 [] (.alts [8] (.alt 8 [] (.alts [10] (.alt 10 [3] (.alts [11] (.alt 11 [3, 7] (.done) (.stop))) (.stop))) (.stop))) (.stop)))))))))))
def pawake24_274000 : Plan := .step 0 (.step 1 (.step 2 (.step 3 (.step 4 (.step 5 (.alts [6] (.alt 6 [5, 4] (.alts [7] (.alt 7 [3, 6, 2, 5, 1, 4] (.step 8 (.alts [9] (.alt 9 [3] (.done) (.stop)))) (.stop))) (.stop))))))))
def pawake24_275000 : Plan := .step 0 (.step 1 (.step 2 (.step 3 (.step 4 (.step 5 (.step 6 (.step 7 (.step 8 (.step 9 (.step 10 (.step 11 (.step 12 (.alts [13] (.alt 13 [0, 1, 4, 5, 6, 7, 11, 12, 10, 8, 9] (.step 14 (.alts [15] (.alt 15 [7, 11] (.done) (.stop)))) (.stop)))))))))))))))
theorem mawake24 : Try.prog.follows .mixedOrders = true := by kernel_rfl
theorem vawake24 : ∃ C : Ctx, C.P = Try.prog ∧ COk C ∧ evB C 1000000 56 [] = some true :=
  ⟨{ P := Try.prog, fn := FT.get (.n 182 Try.f182 (.n 145 Try.f145 (.n 109 Try.f109 (.n 59 Try.f59 (.n 56 Try.f56 (.e) (.e)) (.n 64 Try.f64 (.e) (.e))) (.n 130 Try.f130 (.n 129 Try.f129 (.e) (.e)) (.n 135 Try.f135 (.e) (.e)))) (.n 165 Try.f165 (.n 151 Try.f151 (.n 150 Try.f150 (.e) (.e)) (.n 153 Try.f153 (.e) (.e))) (.n 170 Try.f170 (.n 167 Try.f167 (.e) (.e)) (.e)))) (.n 231 Try.f231 (.n 201 Try.f201 (.n 192 Try.f192 (.n 190 Try.f190 (.e) (.e)) (.n 200 Try.f200 (.e) (.e))) (.n 209 Try.f209 (.n 207 Try.f207 (.e) (.e)) (.n 220 Try.f220 (.e) (.e)))) (.n 273 Try.f273 (.n 234 Try.f234 (.n 233 Try.f233 (.e) (.e)) (.n 272 Try.f272 (.e) (.e))) (.n 275 Try.f275 (.n 274 Try.f274 (.e) (.e)) (.e))))), plan := fun g r => PT.get (.n 274000 pawake24_274000 (.n 272001 pawake24_272001 (.n 182004 pawake24_182004 (.e) (.e)) (.e)) (.n 275000 pawake24_275000 (.e) (.e))) (g * 1000 + r), prim := fun _ => none }, rfl, COk.of ⟨⟨Try.func182, eawake24_182⟩, ⟨⟨Try.func145, eawake24_145⟩, ⟨⟨Try.func109, eawake24_109⟩, ⟨⟨Try.func59, eawake24_59⟩, ⟨⟨Try.func56, eawake24_56⟩, trivial, trivial⟩, ⟨⟨Try.func64, eawake24_64⟩, trivial, trivial⟩⟩, ⟨⟨Try.func130, eawake24_130⟩, ⟨⟨Try.func129, eawake24_129⟩, trivial, trivial⟩, ⟨⟨Try.func135, eawake24_135⟩, trivial, trivial⟩⟩⟩, ⟨⟨Try.func165, eawake24_165⟩, ⟨⟨Try.func151, eawake24_151⟩, ⟨⟨Try.func150, eawake24_150⟩, trivial, trivial⟩, ⟨⟨Try.func153, eawake24_153⟩, trivial, trivial⟩⟩, ⟨⟨Try.func170, eawake24_170⟩, ⟨⟨Try.func167, eawake24_167⟩, trivial, trivial⟩, trivial⟩⟩⟩, ⟨⟨Try.func231, eawake24_231⟩, ⟨⟨Try.func201, eawake24_201⟩, ⟨⟨Try.func192, eawake24_192⟩, ⟨⟨Try.func190, eawake24_190⟩, trivial, trivial⟩, ⟨⟨Try.func200, eawake24_200⟩, trivial, trivial⟩⟩, ⟨⟨Try.func209, eawake24_209⟩, ⟨⟨Try.func207, eawake24_207⟩, trivial, trivial⟩, ⟨⟨Try.func220, eawake24_220⟩, trivial, trivial⟩⟩⟩, ⟨⟨Try.func273, eawake24_273⟩, ⟨⟨Try.func234, eawake24_234⟩, ⟨⟨Try.func233, eawake24_233⟩, trivial, trivial⟩, ⟨⟨Try.func272, eawake24_272⟩, trivial, trivial⟩⟩, ⟨⟨Try.func275, eawake24_275⟩, ⟨⟨Try.func274, eawake24_274⟩, trivial, trivial⟩, trivial⟩⟩⟩⟩ mawake24, by kernel_rfl⟩
theorem awake24_fc {G : GH}  : Fc Try.prog 56 [] G [] (fun v _ _ => v = .bool true) := by
  obtain ⟨C, h1, h2, h3⟩ := vawake24
  rw [← h1]
  exact evB_ok h2 h3 (fun _ => .bool true) (fun _ => rfl) VRs.nil G
end Go.Proofs.Ytipdjeemjiimbaa
