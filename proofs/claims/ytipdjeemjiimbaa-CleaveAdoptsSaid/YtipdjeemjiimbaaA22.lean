/- The example of chapter 22 is run by the evaluator. -/
import Derived.Test.YtipdjeemjiimbaaProg
import Derived.Test.YtipdjeemjiimbaaX5
namespace Go.Proofs.Ytipdjeemjiimbaa
open Go Go.Fw Go.RowKit
set_option maxRecDepth 1000000
set_option linter.unusedVariables false
set_option linter.unusedSimpArgs false
set_option linter.unnecessarySimpa false
theorem eawake22_77 : Callable Try.prog 77 := callable_of Try.func77 rfl (by decide)
theorem eawake22_81 : Callable Try.prog 81 := callable_of Try.func81 rfl (by decide)
theorem eawake22_132 : Callable Try.prog 132 := callable_of Try.func132 rfl (by decide)
theorem eawake22_137 : Callable Try.prog 137 := callable_of Try.func137 rfl (by decide)
theorem eawake22_139 : Callable Try.prog 139 := callable_of Try.func139 rfl (by decide)
theorem eawake22_146 : Callable Try.prog 146 := callable_of Try.func146 rfl (by decide)
theorem eawake22_156 : Callable Try.prog 156 := callable_of Try.func156 rfl (by decide)
theorem eawake22_158 : Callable Try.prog 158 := callable_of Try.func158 rfl (by decide)
theorem eawake22_160 : Callable Try.prog 160 := callable_of Try.func160 rfl (by decide)
theorem eawake22_161 : Callable Try.prog 161 := callable_of Try.func161 rfl (by decide)
theorem eawake22_162 : Callable Try.prog 162 := callable_of Try.func162 rfl (by decide)
theorem eawake22_163 : Callable Try.prog 163 := callable_of Try.func163 rfl (by decide)
theorem eawake22_167 : Callable Try.prog 167 := callable_of Try.func167 rfl (by decide)
theorem eawake22_194 : Callable Try.prog 194 := callable_of Try.func194 rfl (by decide)
theorem eawake22_199 : Callable Try.prog 199 := callable_of Try.func199 rfl (by decide)
theorem eawake22_202 : Callable Try.prog 202 := callable_of Try.func202 rfl (by decide)
theorem eawake22_204 : Callable Try.prog 204 := callable_of Try.func204 rfl (by decide)
theorem eawake22_205 : Callable Try.prog 205 := callable_of Try.func205 rfl (by decide)
theorem eawake22_207 : Callable Try.prog 207 := callable_of Try.func207 rfl (by decide)
theorem eawake22_217 : Callable Try.prog 217 := callable_of Try.func217 rfl (by decide)
theorem eawake22_230 : Callable Try.prog 230 := callable_of Try.func230 rfl (by decide)
theorem eawake22_232 : Callable Try.prog 232 := callable_of Try.func232 rfl (by decide)
theorem eawake22_233 : Callable Try.prog 233 := callable_of Try.func233 rfl (by decide)
def pawake22_81004 : Plan := .step 0 (.step 1 (.step 2 (.step 3 (.step 4 (.step 5 (.step 6 (.step 7 (.step 8 (.step 9 (.step 10 (.alts [11] (.alt 11 [5, 10, 4, 9, 3, 8, 0, 2, 6, 7, 1] (.step 12 (.step 13 (.step 14 (.step 15 (.done))))) (.stop)))))))))))))
def pawake22_81005 : Plan := .step 0 (.step 1 (.step 2 (.step 4 (.step 5 (.step 6 (.step 8 (.alts [3] (.alt 3 [2, 0, 1] (.alts [7] (.alt 7 [3, 6, 2, 4, 5, 0, 1] (.step 9 (.step 10 (.step 11 (.step 12 (.done))))) (.stop))) (.stop)))))))))
def pawake22_156001 : Plan := .step 0 (.step 2 (.alts [1] (.alt 1 [0] (.alts [3] (.alt 3 [1, 2, 0] (.step 4 (.done)) (.stop))) (.stop))))
def pawake22_160006 : Plan := .step 0 (.step 2 (.step 4 (.alts [1] (.alt 1 [0] (.alts [3] (.alt 3 [1, 2, 0] (.alts [5] (.alt 5 [0, 1, 3, 2] (.alts [6] (.alt 6 [0, 2] (.step 7 (.step 8 (.done))) (.stop))) (.stop))) (.stop))) (.stop)))))
def pawake22_161001 : Plan := .step 0 (.step 1 (.step 3 (.step 4 (.alts [2] (.alt 2 [1, 0] (.step 6 (.alts [5] (.alt 5 [2, 4, 1, 3, 0] (.alts [7] (.alt 7 [1, 4] (.step 8 (.alts [9] (.alt 9 [1, 4] (.done) (.stop)))) (.stop))) (.stop)))) (.stop))))))
def pawake22_161002 : Plan := .step 0 (.step 1 (.step 3 (.step 4 (.alts [2] (.alt 2 [1, 0] (.step 6 (.alts [5] (.alt 5 [2, 4, 1, 3, 0] (.alts [7] (.alt 7 [1, 4] (.step 8 (.alts [9] (.alt 9 [1, 4] (.done) (.stop)))) (.stop))) (.stop)))) (.stop))))))
def pawake22_199004 : Plan := .step 0 (.step 2 (.alts [1, 4] (.alt 1 [0] (.alts [3, 4] (.alt 3 [1, 2, 0] (.alts [4] (.alt 4 [] (.alts [5] (.alt 5 [0, 2] (.done) (.stop))) (.stop))) (.alt 4 [] (.alts [3] (.alt 3 [1, 2, 0] (.alts [5] (.alt 5 [0, 2] (.done) (.stop))) (.stop))) (.stop)))) (.alt 4 [] (.alts [1] (.alt 1 [0] (.alts [3] (.alt 3 [1, 2, 0] (.alts [5] (.alt 5 [0, 2] (.done) (.stop))) (.stop))) (.stop))) (.stop)))))
def pawake22_199005 : Plan := .step 0 (.step 1 (.step 2 (.step 3 (.step 4 (.step 5 (.step 6 (.alts [7] (.alt 7 [1] (.step 8 (.alts [9] (.alt 9 [1, 3] (.step 10 (.alts [11] (.alt 11 [1, 3, 5] (.done) (.stop)))) (.stop)))) (.stop)))))))))
def pawake22_204001 : Plan := .step 0 (.step 1 (.alts [2] (.alt 2 [0] (.alts [3] (.alt 3 [0, 1] (.done) (.stop))) (.stop))))
def pawake22_204004 : Plan := .step 0 (.step 1 (.step 2 (.step 3 (.alts [4] (.alt 4 [0] (.alts [5] (.alt 5 [0, 1] (.step 6 (.step 7 (.done))) (.stop))) (.stop))))))
def pawake22_204006 : Plan := .step 0 (.step 1 (.alts [2] (.alt 2 [0] (.alts [3] (.alt 3 [0, 1] (.step 4 (.step 5 (.done))) (.stop))) (.stop))))
def pawake22_204008 : Plan := .step 0 (.step 1 (.step 2 (.step 3 (.step 5 (.step 6 (.step 7 (.step 8 (.alts [4] (.alt 4 [1, 3, 0, 2] (.step 10 (.alts [9] (.alt 9 [4, 6, 8, 1, 3, 5, 7, 0, 2] (.alts [11] (.alt 11 [0, 1, 2, 3, 4, 9, 10, 6, 8, 5, 7] (.step 12 (.alts [13] (.alt 13 [1, 6] (.done) (.stop)))) (.stop))) (.stop)))) (.stop))))))))))
def pawake22_204009 : Plan := .step 0 (.step 1 (.step 2 (.step 3 (.alts [4] (.alt 4 [0] (.alts [5] (.alt 5 [0, 1] (.step 6 (.step 7 (.done))) (.stop))) (.stop))))))
def pawake22_232004 : Plan := .step 0 (.step 1 (.step 2 (.step 3 (.step 5 (.step 6 (.step 7 (.step 9 (.step 10 (.step 11 (.step 12 (.step 13 (.step 14 (.step 15 (.step 16 (.step 18 (.step 19 (.step 20 (.alts [4] (.alt 4 [3, 0, 2, 1] (.alts [8] (.alt 8 [4, 7, 3, 5, 6, 0, 2, 1] (.alts [17] (.alt 17 [8, 16, 4, 7, 14, 15, 3, 5, 6, 0, 2, 1] (.alts [21] (.alt 21 [17, 20, 8, 16, 18, 19, 4, 7, 14, 15, 3, 5, 6, 0, 2, 1] (.step 22 (.step 23 (.step 24 (.step 25 (.step 26 (.step 27 (.done))))))) (.stop))) (.stop))) (.stop))) (.stop))))))))))))))))))))
theorem mawake22 : Try.prog.follows .mixedOrders = true := by kernel_rfl
theorem vawake22 : ∃ C : Ctx, C.P = Try.prog ∧ COk C ∧ evB C 1000000 77 [] = some true :=
  ⟨{ P := Try.prog, fn := FT.get (.n 163 Try.f163 (.n 146 Try.f146 (.n 132 Try.f132 (.n 81 Try.f81 (.n 77 Try.f77 (.e) (.e)) (.e)) (.n 139 Try.f139 (.n 137 Try.f137 (.e) (.e)) (.e))) (.n 160 Try.f160 (.n 158 Try.f158 (.n 156 Try.f156 (.e) (.e)) (.e)) (.n 162 Try.f162 (.n 161 Try.f161 (.e) (.e)) (.e)))) (.n 205 Try.f205 (.n 199 Try.f199 (.n 194 Try.f194 (.n 167 Try.f167 (.e) (.e)) (.e)) (.n 204 Try.f204 (.n 202 Try.f202 (.e) (.e)) (.e))) (.n 230 Try.f230 (.n 217 Try.f217 (.n 207 Try.f207 (.e) (.e)) (.e)) (.n 233 Try.f233 (.n 232 Try.f232 (.e) (.e)) (.e))))), plan := fun g r => PT.get (.n 199005 pawake22_199005 (.n 160006 pawake22_160006 (.n 81005 pawake22_81005 (.n 81004 pawake22_81004 (.e) (.e)) (.n 156001 pawake22_156001 (.e) (.e))) (.n 161002 pawake22_161002 (.n 161001 pawake22_161001 (.e) (.e)) (.n 199004 pawake22_199004 (.e) (.e)))) (.n 204008 pawake22_204008 (.n 204004 pawake22_204004 (.n 204001 pawake22_204001 (.e) (.e)) (.n 204006 pawake22_204006 (.e) (.e))) (.n 232004 pawake22_232004 (.n 204009 pawake22_204009 (.e) (.e)) (.e)))) (g * 1000 + r), prim := fun _ => none }, rfl, COk.of ⟨⟨Try.func163, eawake22_163⟩, ⟨⟨Try.func146, eawake22_146⟩, ⟨⟨Try.func132, eawake22_132⟩, ⟨⟨Try.func81, eawake22_81⟩, ⟨⟨Try.func77, eawake22_77⟩, trivial, trivial⟩, trivial⟩, ⟨⟨Try.func139, eawake22_139⟩, ⟨⟨Try.func137, eawake22_137⟩, trivial, trivial⟩, trivial⟩⟩, ⟨⟨Try.func160, eawake22_160⟩, ⟨⟨Try.func158, eawake22_158⟩, ⟨⟨Try.func156, eawake22_156⟩, trivial, trivial⟩, trivial⟩, ⟨⟨Try.func162, eawake22_162⟩, ⟨⟨Try.func161, eawake22_161⟩, trivial, trivial⟩, trivial⟩⟩⟩, ⟨⟨Try.func205, eawake22_205⟩, ⟨⟨Try.func199, eawake22_199⟩, ⟨⟨Try.func194, eawake22_194⟩, ⟨⟨Try.func167, eawake22_167⟩, trivial, trivial⟩, trivial⟩, ⟨⟨Try.func204, eawake22_204⟩, ⟨⟨Try.func202, eawake22_202⟩, trivial, trivial⟩, trivial⟩⟩, ⟨⟨Try.func230, eawake22_230⟩, ⟨⟨Try.func217, eawake22_217⟩, ⟨⟨Try.func207, eawake22_207⟩, trivial, trivial⟩, trivial⟩, ⟨⟨Try.func233, eawake22_233⟩, ⟨⟨Try.func232, eawake22_232⟩, trivial, trivial⟩, trivial⟩⟩⟩⟩ mawake22, by kernel_rfl⟩
theorem awake22_fc {G : GH}  : Fc Try.prog 77 [] G [] (fun v _ _ => v = .bool true) := by
  obtain ⟨C, h1, h2, h3⟩ := vawake22
  rw [← h1]
  exact evB_ok h2 h3 (fun _ => .bool true) (fun _ => rfl) VRs.nil G
end Go.Proofs.Ytipdjeemjiimbaa
