/- The example of chapter 20 is run by the evaluator. -/
import Derived.Test.YtipdjeemjiimbaaProg
import Derived.Test.YtipdjeemjiimbaaX5
namespace Go.Proofs.Ytipdjeemjiimbaa
open Go Go.Fw Go.RowKit
set_option maxRecDepth 1000000
set_option linter.unusedVariables false
set_option linter.unusedSimpArgs false
set_option linter.unnecessarySimpa false
theorem eawake20_67 : Callable Try.prog 67 := callable_of Try.func67 rfl (by decide)
theorem eawake20_71 : Callable Try.prog 71 := callable_of Try.func71 rfl (by decide)
theorem eawake20_85 : Callable Try.prog 85 := callable_of Try.func85 rfl (by decide)
theorem eawake20_87 : Callable Try.prog 87 := callable_of Try.func87 rfl (by decide)
theorem eawake20_89 : Callable Try.prog 89 := callable_of Try.func89 rfl (by decide)
theorem eawake20_91 : Callable Try.prog 91 := callable_of Try.func91 rfl (by decide)
theorem eawake20_93 : Callable Try.prog 93 := callable_of Try.func93 rfl (by decide)
theorem eawake20_95 : Callable Try.prog 95 := callable_of Try.func95 rfl (by decide)
theorem eawake20_97 : Callable Try.prog 97 := callable_of Try.func97 rfl (by decide)
theorem eawake20_135 : Callable Try.prog 135 := callable_of Try.func135 rfl (by decide)
theorem eawake20_150 : Callable Try.prog 150 := callable_of Try.func150 rfl (by decide)
theorem eawake20_151 : Callable Try.prog 151 := callable_of Try.func151 rfl (by decide)
theorem eawake20_152 : Callable Try.prog 152 := callable_of Try.func152 rfl (by decide)
theorem eawake20_153 : Callable Try.prog 153 := callable_of Try.func153 rfl (by decide)
theorem eawake20_154 : Callable Try.prog 154 := callable_of Try.func154 rfl (by decide)
theorem eawake20_163 : Callable Try.prog 163 := callable_of Try.func163 rfl (by decide)
theorem eawake20_165 : Callable Try.prog 165 := callable_of Try.func165 rfl (by decide)
theorem eawake20_167 : Callable Try.prog 167 := callable_of Try.func167 rfl (by decide)
theorem eawake20_168 : Callable Try.prog 168 := callable_of Try.func168 rfl (by decide)
theorem eawake20_169 : Callable Try.prog 169 := callable_of Try.func169 rfl (by decide)
theorem eawake20_170 : Callable Try.prog 170 := callable_of Try.func170 rfl (by decide)
theorem eawake20_171 : Callable Try.prog 171 := callable_of Try.func171 rfl (by decide)
theorem eawake20_172 : Callable Try.prog 172 := callable_of Try.func172 rfl (by decide)
theorem eawake20_200 : Callable Try.prog 200 := callable_of Try.func200 rfl (by decide)
theorem eawake20_201 : Callable Try.prog 201 := callable_of Try.func201 rfl (by decide)
theorem eawake20_207 : Callable Try.prog 207 := callable_of Try.func207 rfl (by decide)
theorem eawake20_208 : Callable Try.prog 208 := callable_of Try.func208 rfl (by decide)
theorem eawake20_209 : Callable Try.prog 209 := callable_of Try.func209 rfl (by decide)
theorem eawake20_211 : Callable Try.prog 211 := callable_of Try.func211 rfl (by decide)
theorem eawake20_231 : Callable Try.prog 231 := callable_of Try.func231 rfl (by decide)
theorem eawake20_233 : Callable Try.prog 233 := callable_of Try.func233 rfl (by decide)
theorem eawake20_234 : Callable Try.prog 234 := callable_of Try.func234 rfl (by decide)
theorem eawake20_235 : Callable Try.prog 235 := callable_of Try.func235 rfl (by decide)
theorem eawake20_243 : Callable Try.prog 243 := callable_of Try.func243 rfl (by decide)
def pawake20_91001 : Plan := .step 0 (.step 1 (.step 2 (.step 3 (.step 4 (.step 5 (.step 6 (.step 7 (.step 8 (.step 9 (.step 11 (.alts [10] (.alt 10 [3, 7, 9, 2, 8, 1, 0] (.alts [12] (.alt 12 [3, 4, 6, 10, 11, 2, 5, 7, 9, 1, 8, 0] (.step 13 (.step 14 (.done))) (.stop))) (.stop)))))))))))))
def pawake20_93003 : Plan := .step 0 (.step 1 (.step 2 (.step 3 (.step 4 (.step 5 (.alts [6] (.alt 6 [3, 5, 4] (.alts [7] (.alt 7 [0, 2, 6, 1, 3, 5, 4] (.step 8 (.done)) (.stop))) (.stop))))))))
def pawake20_171011 : Plan := .step 0 (.step 1 (.step 2 (.step 3 (.step 4 (.step 5 (.step 6 (.step 7 (.alts [8] (.alt 8 [4, 7, 0, 3, 5, 6, 1, 2] (.done) (.stop))))))))))
def pawake20_171015 : Plan := .step 0 (.step 1 (.step 2 (.step 3 (.step 4 (.step 5 (.step 6 (.step 7 (.alts [8] (.alt 8 [4, 7, 0, 3, 5, 6, 1, 2] (.done) (.stop))))))))))
def pawake20_172005 : Plan := .step 0 (.step 1 (.step 2 (.step 3 (.step 4 (.step 5 (.alts [6] (.alt 6 [2, 5, 0, 1, 3, 4] (.step 7 (.done)) (.stop))))))))
def pawake20_243003 : Plan := .step 0 (.step 1 (.step 2 (.step 3 (.step 4 (.step 5 (.step 6 (.step 7 (.step 8 (.step 9 (.step 10 (.step 11 (.step 12 (.alts [13] (.alt 13 [0, 1, 4, 5, 6, 7, 11, 12, 10, 8, 9] (.step 14 (.alts [15] (.alt 15 [7, 11] (.done) (.stop)))) (.stop)))))))))))))))
theorem mawake20 : Try.prog.follows .mixedOrders = true := by kernel_rfl
theorem vawake20 : ∃ C : Ctx, C.P = Try.prog ∧ COk C ∧ evB C 1000000 85 [] = some true :=
  ⟨{ P := Try.prog, fn := FT.get (.n 167 Try.f167 (.n 97 Try.f97 (.n 89 Try.f89 (.n 85 Try.f85 (.n 71 Try.f71 (.n 67 Try.f67 (.e) (.e)) (.e)) (.n 87 Try.f87 (.e) (.e))) (.n 93 Try.f93 (.n 91 Try.f91 (.e) (.e)) (.n 95 Try.f95 (.e) (.e)))) (.n 153 Try.f153 (.n 151 Try.f151 (.n 150 Try.f150 (.n 135 Try.f135 (.e) (.e)) (.e)) (.n 152 Try.f152 (.e) (.e))) (.n 163 Try.f163 (.n 154 Try.f154 (.e) (.e)) (.n 165 Try.f165 (.e) (.e))))) (.n 208 Try.f208 (.n 172 Try.f172 (.n 170 Try.f170 (.n 169 Try.f169 (.n 168 Try.f168 (.e) (.e)) (.e)) (.n 171 Try.f171 (.e) (.e))) (.n 201 Try.f201 (.n 200 Try.f200 (.e) (.e)) (.n 207 Try.f207 (.e) (.e)))) (.n 233 Try.f233 (.n 211 Try.f211 (.n 209 Try.f209 (.e) (.e)) (.n 231 Try.f231 (.e) (.e))) (.n 235 Try.f235 (.n 234 Try.f234 (.e) (.e)) (.n 243 Try.f243 (.e) (.e)))))), plan := fun g r => PT.get (.n 171015 pawake20_171015 (.n 93003 pawake20_93003 (.n 91001 pawake20_91001 (.e) (.e)) (.n 171011 pawake20_171011 (.e) (.e))) (.n 243003 pawake20_243003 (.n 172005 pawake20_172005 (.e) (.e)) (.e))) (g * 1000 + r), prim := fun _ => none }, rfl, COk.of ⟨⟨Try.func167, eawake20_167⟩, ⟨⟨Try.func97, eawake20_97⟩, ⟨⟨Try.func89, eawake20_89⟩, ⟨⟨Try.func85, eawake20_85⟩, ⟨⟨Try.func71, eawake20_71⟩, ⟨⟨Try.func67, eawake20_67⟩, trivial, trivial⟩, trivial⟩, ⟨⟨Try.func87, eawake20_87⟩, trivial, trivial⟩⟩, ⟨⟨Try.func93, eawake20_93⟩, ⟨⟨Try.func91, eawake20_91⟩, trivial, trivial⟩, ⟨⟨Try.func95, eawake20_95⟩, trivial, trivial⟩⟩⟩, ⟨⟨Try.func153, eawake20_153⟩, ⟨⟨Try.func151, eawake20_151⟩, ⟨⟨Try.func150, eawake20_150⟩, ⟨⟨Try.func135, eawake20_135⟩, trivial, trivial⟩, trivial⟩, ⟨⟨Try.func152, eawake20_152⟩, trivial, trivial⟩⟩, ⟨⟨Try.func163, eawake20_163⟩, ⟨⟨Try.func154, eawake20_154⟩, trivial, trivial⟩, ⟨⟨Try.func165, eawake20_165⟩, trivial, trivial⟩⟩⟩⟩, ⟨⟨Try.func208, eawake20_208⟩, ⟨⟨Try.func172, eawake20_172⟩, ⟨⟨Try.func170, eawake20_170⟩, ⟨⟨Try.func169, eawake20_169⟩, ⟨⟨Try.func168, eawake20_168⟩, trivial, trivial⟩, trivial⟩, ⟨⟨Try.func171, eawake20_171⟩, trivial, trivial⟩⟩, ⟨⟨Try.func201, eawake20_201⟩, ⟨⟨Try.func200, eawake20_200⟩, trivial, trivial⟩, ⟨⟨Try.func207, eawake20_207⟩, trivial, trivial⟩⟩⟩, ⟨⟨Try.func233, eawake20_233⟩, ⟨⟨Try.func211, eawake20_211⟩, ⟨⟨Try.func209, eawake20_209⟩, trivial, trivial⟩, ⟨⟨Try.func231, eawake20_231⟩, trivial, trivial⟩⟩, ⟨⟨Try.func235, eawake20_235⟩, ⟨⟨Try.func234, eawake20_234⟩, trivial, trivial⟩, ⟨⟨Try.func243, eawake20_243⟩, trivial, trivial⟩⟩⟩⟩⟩ mawake20, by kernel_rfl⟩
theorem awake20_fc {G : GH}  : Fc Try.prog 85 [] G [] (fun v _ _ => v = .bool true) := by
  obtain ⟨C, h1, h2, h3⟩ := vawake20
  rw [← h1]
  exact evB_ok h2 h3 (fun _ => .bool true) (fun _ => rfl) VRs.nil G
end Go.Proofs.Ytipdjeemjiimbaa
