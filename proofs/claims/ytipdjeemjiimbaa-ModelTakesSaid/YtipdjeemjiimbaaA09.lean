/- The example of chapter 09 is run by the evaluator. -/
import Derived.Test.YtipdjeemjiimbaaProg
import Derived.Test.YtipdjeemjiimbaaX5
namespace Go.Proofs.Ytipdjeemjiimbaa
open Go Go.Fw Go.RowKit
set_option maxRecDepth 1000000
set_option linter.unusedVariables false
set_option linter.unusedSimpArgs false
set_option linter.unnecessarySimpa false
theorem eawake09_52 : Callable Try.prog 52 := callable_of Try.func52 rfl (by decide)
theorem eawake09_54 : Callable Try.prog 54 := callable_of Try.func54 rfl (by decide)
theorem eawake09_62 : Callable Try.prog 62 := callable_of Try.func62 rfl (by decide)
theorem eawake09_63 : Callable Try.prog 63 := callable_of Try.func63 rfl (by decide)
theorem eawake09_97 : Callable Try.prog 97 := callable_of Try.func97 rfl (by decide)
theorem eawake09_135 : Callable Try.prog 135 := callable_of Try.func135 rfl (by decide)
theorem eawake09_143 : Callable Try.prog 143 := callable_of Try.func143 rfl (by decide)
theorem eawake09_147 : Callable Try.prog 147 := callable_of Try.func147 rfl (by decide)
theorem eawake09_148 : Callable Try.prog 148 := callable_of Try.func148 rfl (by decide)
theorem eawake09_149 : Callable Try.prog 149 := callable_of Try.func149 rfl (by decide)
theorem eawake09_150 : Callable Try.prog 150 := callable_of Try.func150 rfl (by decide)
theorem eawake09_151 : Callable Try.prog 151 := callable_of Try.func151 rfl (by decide)
theorem eawake09_153 : Callable Try.prog 153 := callable_of Try.func153 rfl (by decide)
theorem eawake09_163 : Callable Try.prog 163 := callable_of Try.func163 rfl (by decide)
theorem eawake09_170 : Callable Try.prog 170 := callable_of Try.func170 rfl (by decide)
theorem eawake09_171 : Callable Try.prog 171 := callable_of Try.func171 rfl (by decide)
theorem eawake09_172 : Callable Try.prog 172 := callable_of Try.func172 rfl (by decide)
theorem eawake09_200 : Callable Try.prog 200 := callable_of Try.func200 rfl (by decide)
theorem eawake09_201 : Callable Try.prog 201 := callable_of Try.func201 rfl (by decide)
theorem eawake09_209 : Callable Try.prog 209 := callable_of Try.func209 rfl (by decide)
theorem eawake09_211 : Callable Try.prog 211 := callable_of Try.func211 rfl (by decide)
theorem eawake09_231 : Callable Try.prog 231 := callable_of Try.func231 rfl (by decide)
theorem eawake09_234 : Callable Try.prog 234 := callable_of Try.func234 rfl (by decide)
theorem eawake09_235 : Callable Try.prog 235 := callable_of Try.func235 rfl (by decide)
theorem eawake09_243 : Callable Try.prog 243 := callable_of Try.func243 rfl (by decide)
def pawake09_52002 : Plan := .step 0 (.step 1 (.step 2 (.alts [3] (.alt 3 [] (.alts [4] (.alt 4 [0, 3, 1, 2] (.step 5 (.step 6 (.step 9 (.step 10 (.alts [7] (.alt 7 [5, 4, 0, 3, 1, 2] (.alts [8] (.alt 8 [5, 6, 7, 4, 0, 3, 1, 2] (.alts [11] (.alt 11 [5, 8, 10, 4, 6, 7, 9, 0, 3, 1, 2] (.step 12 (.step 13 (.step 14 (.step 15 (.alts [16] (.alt 16 [13, 14, 15, 11, 12, 5, 8, 10, 4, 6, 7, 9, 0, 3, 1, 2] (.alts [17] (.alt 17 [13, 16, 11, 12, 14, 15, 5, 8, 10, 4, 6, 7, 9, 0, 3, 1, 2] (.step 18 (.step 19 (.step 20 (.done)))) (.stop))) (.stop))))))) (.stop))) (.stop))) (.stop))))))) (.stop))) (.stop)))))
def pawake09_62004 : Plan := .step 0 (.step 1 (.alts [2] (.alt 2 [1, 0] (.step 3 (.step 4 (.step 5 (.step 6 (.alts [7] (.alt 7 [4, 6, 2, 3, 5, 1, 0] (.step 8 (.step 9 (.step 10 (.step 11 (.step 12 (.step 13 (.step 14 (.step 15 (.step 16 (.step 17 (.step 18 (.step 19 (.step 20 (.step 21 (.step 22 (.step 23 (.step 24 (.done)))))))))))))))))) (.stop))))))) (.stop))))
def pawake09_171011 : Plan := .step 0 (.step 1 (.step 2 (.step 3 (.step 4 (.step 5 (.step 6 (.step 7 (.alts [8] (.alt 8 [4, 7, 0, 3, 5, 6, 1, 2] (.done) (.stop))))))))))
def pawake09_171015 : Plan := .step 0 (.step 1 (.step 2 (.step 3 (.step 4 (.step 5 (.step 6 (.step 7 (.alts [8] (.alt 8 [4, 7, 0, 3, 5, 6, 1, 2] (.done) (.stop))))))))))
def pawake09_172005 : Plan := .step 0 (.step 1 (.step 2 (.step 3 (.step 4 (.step 5 (.alts [6] (.alt 6 [2, 5, 0, 1, 3, 4] (.step 7 (.done)) (.stop))))))))
def pawake09_243003 : Plan := .step 0 (.step 1 (.step 2 (.step 3 (.step 4 (.step 5 (.step 6 (.step 7 (.step 8 (.step 9 (.step 10 (.step 11 (.step 12 (.alts [13] (.alt 13 [0, 1, 4, 5, 6, 7, 11, 12, 10, 8, 9] (.step 14 (.alts [15] (.alt 15 [7, 11] (.done) (.stop)))) (.stop)))))))))))))))
theorem mawake09 : Try.prog.follows .mixedOrders = true := by kernel_rfl
theorem vawake09 : ∃ C : Ctx, C.P = Try.prog ∧ COk C ∧ evB C 1000000 52 [] = some true :=
  ⟨{ P := Try.prog, fn := FT.get (.n 153 Try.f153 (.n 143 Try.f143 (.n 63 Try.f63 (.n 54 Try.f54 (.n 52 Try.f52 (.e) (.e)) (.n 62 Try.f62 (.e) (.e))) (.n 135 Try.f135 (.n 97 Try.f97 (.e) (.e)) (.e))) (.n 149 Try.f149 (.n 148 Try.f148 (.n 147 Try.f147 (.e) (.e)) (.e)) (.n 151 Try.f151 (.n 150 Try.f150 (.e) (.e)) (.e)))) (.n 209 Try.f209 (.n 172 Try.f172 (.n 170 Try.f170 (.n 163 Try.f163 (.e) (.e)) (.n 171 Try.f171 (.e) (.e))) (.n 201 Try.f201 (.n 200 Try.f200 (.e) (.e)) (.e))) (.n 234 Try.f234 (.n 231 Try.f231 (.n 211 Try.f211 (.e) (.e)) (.e)) (.n 243 Try.f243 (.n 235 Try.f235 (.e) (.e)) (.e))))), plan := fun g r => PT.get (.n 171015 pawake09_171015 (.n 62004 pawake09_62004 (.n 52002 pawake09_52002 (.e) (.e)) (.n 171011 pawake09_171011 (.e) (.e))) (.n 243003 pawake09_243003 (.n 172005 pawake09_172005 (.e) (.e)) (.e))) (g * 1000 + r), prim := fun _ => none }, rfl, COk.of ⟨⟨Try.func153, eawake09_153⟩, ⟨⟨Try.func143, eawake09_143⟩, ⟨⟨Try.func63, eawake09_63⟩, ⟨⟨Try.func54, eawake09_54⟩, ⟨⟨Try.func52, eawake09_52⟩, trivial, trivial⟩, ⟨⟨Try.func62, eawake09_62⟩, trivial, trivial⟩⟩, ⟨⟨Try.func135, eawake09_135⟩, ⟨⟨Try.func97, eawake09_97⟩, trivial, trivial⟩, trivial⟩⟩, ⟨⟨Try.func149, eawake09_149⟩, ⟨⟨Try.func148, eawake09_148⟩, ⟨⟨Try.func147, eawake09_147⟩, trivial, trivial⟩, trivial⟩, ⟨⟨Try.func151, eawake09_151⟩, ⟨⟨Try.func150, eawake09_150⟩, trivial, trivial⟩, trivial⟩⟩⟩, ⟨⟨Try.func209, eawake09_209⟩, ⟨⟨Try.func172, eawake09_172⟩, ⟨⟨Try.func170, eawake09_170⟩, ⟨⟨Try.func163, eawake09_163⟩, trivial, trivial⟩, ⟨⟨Try.func171, eawake09_171⟩, trivial, trivial⟩⟩, ⟨⟨Try.func201, eawake09_201⟩, ⟨⟨Try.func200, eawake09_200⟩, trivial, trivial⟩, trivial⟩⟩, ⟨⟨Try.func234, eawake09_234⟩, ⟨⟨Try.func231, eawake09_231⟩, ⟨⟨Try.func211, eawake09_211⟩, trivial, trivial⟩, trivial⟩, ⟨⟨Try.func243, eawake09_243⟩, ⟨⟨Try.func235, eawake09_235⟩, trivial, trivial⟩, trivial⟩⟩⟩⟩ mawake09, by kernel_rfl⟩
theorem awake09_fc {G : GH}  : Fc Try.prog 52 [] G [] (fun v _ _ => v = .bool true) := by
  obtain ⟨C, h1, h2, h3⟩ := vawake09
  rw [← h1]
  exact evB_ok h2 h3 (fun _ => .bool true) (fun _ => rfl) VRs.nil G
end Go.Proofs.Ytipdjeemjiimbaa
