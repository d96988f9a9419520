/- The example of chapter 14 is run by the evaluator. -/
import Derived.Test.YtipdjeemjiimbaaProg
import Derived.Test.YtipdjeemjiimbaaX5
namespace Go.Proofs.Ytipdjeemjiimbaa
open Go Go.Fw Go.RowKit
set_option maxRecDepth 1000000
set_option linter.unusedVariables false
set_option linter.unusedSimpArgs false
set_option linter.unnecessarySimpa false
theorem eawake14_66 : Callable Try.prog 66 := callable_of Try.func66 rfl (by decide)
theorem eawake14_67 : Callable Try.prog 67 := callable_of Try.func67 rfl (by decide)
theorem eawake14_68 : Callable Try.prog 68 := callable_of Try.func68 rfl (by decide)
theorem eawake14_71 : Callable Try.prog 71 := callable_of Try.func71 rfl (by decide)
theorem eawake14_81 : Callable Try.prog 81 := callable_of Try.func81 rfl (by decide)
theorem eawake14_97 : Callable Try.prog 97 := callable_of Try.func97 rfl (by decide)
theorem eawake14_150 : Callable Try.prog 150 := callable_of Try.func150 rfl (by decide)
theorem eawake14_151 : Callable Try.prog 151 := callable_of Try.func151 rfl (by decide)
theorem eawake14_152 : Callable Try.prog 152 := callable_of Try.func152 rfl (by decide)
theorem eawake14_153 : Callable Try.prog 153 := callable_of Try.func153 rfl (by decide)
theorem eawake14_154 : Callable Try.prog 154 := callable_of Try.func154 rfl (by decide)
theorem eawake14_162 : Callable Try.prog 162 := callable_of Try.func162 rfl (by decide)
theorem eawake14_163 : Callable Try.prog 163 := callable_of Try.func163 rfl (by decide)
theorem eawake14_170 : Callable Try.prog 170 := callable_of Try.func170 rfl (by decide)
theorem eawake14_171 : Callable Try.prog 171 := callable_of Try.func171 rfl (by decide)
theorem eawake14_172 : Callable Try.prog 172 := callable_of Try.func172 rfl (by decide)
theorem eawake14_200 : Callable Try.prog 200 := callable_of Try.func200 rfl (by decide)
theorem eawake14_201 : Callable Try.prog 201 := callable_of Try.func201 rfl (by decide)
theorem eawake14_205 : Callable Try.prog 205 := callable_of Try.func205 rfl (by decide)
theorem eawake14_209 : Callable Try.prog 209 := callable_of Try.func209 rfl (by decide)
theorem eawake14_211 : Callable Try.prog 211 := callable_of Try.func211 rfl (by decide)
theorem eawake14_231 : Callable Try.prog 231 := callable_of Try.func231 rfl (by decide)
theorem eawake14_234 : Callable Try.prog 234 := callable_of Try.func234 rfl (by decide)
theorem eawake14_235 : Callable Try.prog 235 := callable_of Try.func235 rfl (by decide)
theorem eawake14_243 : Callable Try.prog 243 := callable_of Try.func243 rfl (by decide)
def pawake14_81004 : Plan := .step 0 (.step 1 (.step 2 (.step 3 (.step 4 (.step 5 (.step 6 (.step 7 (.step 8 (.step 9 (.step 10 (.alts [11] (.alt 11 [5, 10, 4, 9, 3, 8, 0, 2, 6, 7, 1] (.step 12 (.step 13 (.step 14 (.step 15 (.done))))) (.stop)))))))))))))
def pawake14_81005 : Plan := .step 0 (.step 1 (.step 2 (.step 4 (.step 5 (.step 6 (.step 8 (.alts [3] (.alt 3 [2, 0, 1] (.alts [7] (.alt 7 [3, 6, 2, 4, 5, 0, 1] (.step 9 (.step 10 (.step 11 (.step 12 (.done))))) (.stop))) (.stop)))))))))
def pawake14_171011 : Plan := .step 0 (.step 1 (.step 2 (.step 3 (.step 4 (.step 5 (.step 6 (.step 7 (.alts [8] (.alt 8 [4, 7, 0, 3, 5, 6, 1, 2] (.done) (.stop))))))))))
def pawake14_171015 : Plan := .step 0 (.step 1 (.step 2 (.step 3 (.step 4 (.step 5 (.step 6 (.step 7 (.alts [8] (.alt 8 [4, 7, 0, 3, 5, 6, 1, 2] (.done) (.stop))))))))))
def pawake14_172005 : Plan := .step 0 (.step 1 (.step 2 (.step 3 (.step 4 (.step 5 (.alts [6] (.alt 6 [2, 5, 0, 1, 3, 4] (.step 7 (.done)) (.stop))))))))
def pawake14_243003 : Plan := .step 0 (.step 1 (.step 2 (.step 3 (.step 4 (.step 5 (.step 6 (.step 7 (.step 8 (.step 9 (.step 10 (.step 11 (.step 12 (.alts [13] (.alt 13 [0, 1, 4, 5, 6, 7, 11, 12, 10, 8, 9] (.step 14 (.alts [15] (.alt 15 [7, 11] (.done) (.stop)))) (.stop)))))))))))))))
theorem mawake14 : Try.prog.follows .mixedOrders = true := by kernel_rfl
theorem vawake14 : ∃ C : Ctx, C.P = Try.prog ∧ COk C ∧ evB C 1000000 66 [] = some true :=
  ⟨{ P := Try.prog, fn := FT.get (.n 163 Try.f163 (.n 150 Try.f150 (.n 71 Try.f71 (.n 67 Try.f67 (.n 66 Try.f66 (.e) (.e)) (.n 68 Try.f68 (.e) (.e))) (.n 97 Try.f97 (.n 81 Try.f81 (.e) (.e)) (.e))) (.n 153 Try.f153 (.n 152 Try.f152 (.n 151 Try.f151 (.e) (.e)) (.e)) (.n 162 Try.f162 (.n 154 Try.f154 (.e) (.e)) (.e)))) (.n 209 Try.f209 (.n 200 Try.f200 (.n 171 Try.f171 (.n 170 Try.f170 (.e) (.e)) (.n 172 Try.f172 (.e) (.e))) (.n 205 Try.f205 (.n 201 Try.f201 (.e) (.e)) (.e))) (.n 234 Try.f234 (.n 231 Try.f231 (.n 211 Try.f211 (.e) (.e)) (.e)) (.n 243 Try.f243 (.n 235 Try.f235 (.e) (.e)) (.e))))), plan := fun g r => PT.get (.n 171015 pawake14_171015 (.n 81005 pawake14_81005 (.n 81004 pawake14_81004 (.e) (.e)) (.n 171011 pawake14_171011 (.e) (.e))) (.n 243003 pawake14_243003 (.n 172005 pawake14_172005 (.e) (.e)) (.e))) (g * 1000 + r), prim := fun _ => none }, rfl, COk.of ⟨⟨Try.func163, eawake14_163⟩, ⟨⟨Try.func150, eawake14_150⟩, ⟨⟨Try.func71, eawake14_71⟩, ⟨⟨Try.func67, eawake14_67⟩, ⟨⟨Try.func66, eawake14_66⟩, trivial, trivial⟩, ⟨⟨Try.func68, eawake14_68⟩, trivial, trivial⟩⟩, ⟨⟨Try.func97, eawake14_97⟩, ⟨⟨Try.func81, eawake14_81⟩, trivial, trivial⟩, trivial⟩⟩, ⟨⟨Try.func153, eawake14_153⟩, ⟨⟨Try.func152, eawake14_152⟩, ⟨⟨Try.func151, eawake14_151⟩, trivial, trivial⟩, trivial⟩, ⟨⟨Try.func162, eawake14_162⟩, ⟨⟨Try.func154, eawake14_154⟩, trivial, trivial⟩, trivial⟩⟩⟩, ⟨⟨Try.func209, eawake14_209⟩, ⟨⟨Try.func200, eawake14_200⟩, ⟨⟨Try.func171, eawake14_171⟩, ⟨⟨Try.func170, eawake14_170⟩, trivial, trivial⟩, ⟨⟨Try.func172, eawake14_172⟩, trivial, trivial⟩⟩, ⟨⟨Try.func205, eawake14_205⟩, ⟨⟨Try.func201, eawake14_201⟩, trivial, trivial⟩, trivial⟩⟩, ⟨⟨Try.func234, eawake14_234⟩, ⟨⟨Try.func231, eawake14_231⟩, ⟨⟨Try.func211, eawake14_211⟩, trivial, trivial⟩, trivial⟩, ⟨⟨Try.func243, eawake14_243⟩, ⟨⟨Try.func235, eawake14_235⟩, trivial, trivial⟩, trivial⟩⟩⟩⟩ mawake14, by kernel_rfl⟩
theorem awake14_fc {G : GH}  : Fc Try.prog 66 [] G [] (fun v _ _ => v = .bool true) := by
  obtain ⟨C, h1, h2, h3⟩ := vawake14
  rw [← h1]
  exact evB_ok h2 h3 (fun _ => .bool true) (fun _ => rfl) VRs.nil G
end Go.Proofs.Ytipdjeemjiimbaa
