/- The example of chapter 24 is run by the evaluator. -/
import Derived.Test.YtjbbookmgohamaaProg
import Derived.Test.YtjbbookmgohamaaX5
namespace Go.Proofs.Ytjbbookmgohamaa
open Go Go.Fw Go.RowKit
set_option maxRecDepth 1000000
set_option linter.unusedVariables false
set_option linter.unusedSimpArgs false
set_option linter.unnecessarySimpa false
theorem eawake24_61 : Callable Try.prog 61 := callable_of Try.func61 rfl (by decide)
theorem eawake24_65 : Callable Try.prog 65 := callable_of Try.func65 rfl (by decide)
theorem eawake24_91 : Callable Try.prog 91 := callable_of Try.func91 rfl (by decide)
theorem eawake24_92 : Callable Try.prog 92 := callable_of Try.func92 rfl (by decide)
theorem eawake24_111 : Callable Try.prog 111 := callable_of Try.func111 rfl (by decide)
theorem eawake24_113 : Callable Try.prog 113 := callable_of Try.func113 rfl (by decide)
theorem eawake24_134 : Callable Try.prog 134 := callable_of Try.func134 rfl (by decide)
theorem eawake24_136 : Callable Try.prog 136 := callable_of Try.func136 rfl (by decide)
theorem eawake24_146 : Callable Try.prog 146 := callable_of Try.func146 rfl (by decide)
theorem eawake24_147 : Callable Try.prog 147 := callable_of Try.func147 rfl (by decide)
theorem eawake24_148 : Callable Try.prog 148 := callable_of Try.func148 rfl (by decide)
theorem eawake24_163 : Callable Try.prog 163 := callable_of Try.func163 rfl (by decide)
theorem eawake24_164 : Callable Try.prog 164 := callable_of Try.func164 rfl (by decide)
theorem eawake24_165 : Callable Try.prog 165 := callable_of Try.func165 rfl (by decide)
theorem eawake24_166 : Callable Try.prog 166 := callable_of Try.func166 rfl (by decide)
theorem eawake24_167 : Callable Try.prog 167 := callable_of Try.func167 rfl (by decide)
theorem eawake24_169 : Callable Try.prog 169 := callable_of Try.func169 rfl (by decide)
theorem eawake24_183 : Callable Try.prog 183 := callable_of Try.func183 rfl (by decide)
theorem eawake24_184 : Callable Try.prog 184 := callable_of Try.func184 rfl (by decide)
theorem eawake24_185 : Callable Try.prog 185 := callable_of Try.func185 rfl (by decide)
theorem eawake24_186 : Callable Try.prog 186 := callable_of Try.func186 rfl (by decide)
theorem eawake24_188 : Callable Try.prog 188 := callable_of Try.func188 rfl (by decide)
theorem eawake24_193 : Callable Try.prog 193 := callable_of Try.func193 rfl (by decide)
theorem eawake24_201 : Callable Try.prog 201 := callable_of Try.func201 rfl (by decide)
theorem eawake24_202 : Callable Try.prog 202 := callable_of Try.func202 rfl (by decide)
theorem eawake24_242 : Callable Try.prog 242 := callable_of Try.func242 rfl (by decide)
theorem eawake24_243 : Callable Try.prog 243 := callable_of Try.func243 rfl (by decide)
theorem eawake24_244 : Callable Try.prog 244 := callable_of Try.func244 rfl (by decide)
theorem eawake24_245 : Callable Try.prog 245 := callable_of Try.func245 rfl (by decide)
def pawake24_148004 : Plan := .step 0 (.step 1 (.step 2 (.alts [3] (.alt 3 [1] (.alts [4] (.alt 4 [0, 3, 1, 2] (.alts [5] (.alt 5 [0, 1] (.done) (.stop))) (.stop))) (.stop)))))
def pawake24_242001 : Plan := .step 0 (.step 1 (.step 2 (.step 3 (.step 4 (.step 5 (.step 6 (.step 7 (.alts [8, 9] (.alt 8 [] (.alts [9] (.alt 9 [] (.alts [10] (.alt 10 [3] (.alts [11] (.alt 11 [3, 7] (.done) (.stop))) (.stop))) (.stop))) (.alt 9 [] (.alts [8] (.alt 8 [] (.alts [10] (.alt 10 [3] (.alts [11] (.alt 11 [3, 7] (.done) (.stop))) (.stop))) (.stop))) (.stop)))))))))))
def pawake24_244000 : Plan := .step 0 (.step 1 (.step 2 (.step 3 (.step 4 (.step 5 (.alts [6] (.alt 6 [5, 4] (.alts [7] (.alt 7 [3, 6, 2, 5, 1, 4] (.step 8 (.alts [9] (.alt 9 [3] (.done) (.stop)))) (.stop))) (.stop))))))))
def pawake24_245000 : Plan := .step 0 (.step 1 (.step 2 (.step 3 (.step 4 (.step 5 (.step 6 (.step 7 (.step 8 (.step 9 (.step 10 (.step 11 (.step 12 (.alts [13] (.alt 13 [0, 1, 4, 5, 6, 7, 11, 12, 10, 8, 9] (.step 14 (.alts [15] (.alt 15 [7, 11] (.done) (.stop)))) (.stop)))))))))))))))
theorem mawake24 : Try.prog.follows .mixedOrders = true := by kernel_rfl
theorem vawake24 : ∃ C : Ctx, C.P = Try.prog ∧ COk C ∧ evB C 1000000 61 [] = some true :=
  ⟨{ P := Try.prog, fn := FT.get (.n 166 Try.f166 (.n 136 Try.f136 (.n 92 Try.f92 (.n 65 Try.f65 (.n 61 Try.f61 (.e) (.e)) (.n 91 Try.f91 (.e) (.e))) (.n 113 Try.f113 (.n 111 Try.f111 (.e) (.e)) (.n 134 Try.f134 (.e) (.e)))) (.n 163 Try.f163 (.n 147 Try.f147 (.n 146 Try.f146 (.e) (.e)) (.n 148 Try.f148 (.e) (.e))) (.n 165 Try.f165 (.n 164 Try.f164 (.e) (.e)) (.e)))) (.n 193 Try.f193 (.n 184 Try.f184 (.n 169 Try.f169 (.n 167 Try.f167 (.e) (.e)) (.n 183 Try.f183 (.e) (.e))) (.n 186 Try.f186 (.n 185 Try.f185 (.e) (.e)) (.n 188 Try.f188 (.e) (.e)))) (.n 243 Try.f243 (.n 202 Try.f202 (.n 201 Try.f201 (.e) (.e)) (.n 242 Try.f242 (.e) (.e))) (.n 245 Try.f245 (.n 244 Try.f244 (.e) (.e)) (.e))))), plan := fun g r => PT.get (.n 244000 pawake24_244000 (.n 242001 pawake24_242001 (.n 148004 pawake24_148004 (.e) (.e)) (.e)) (.n 245000 pawake24_245000 (.e) (.e))) (g * 1000 + r), prim := fun _ => none }, rfl, COk.of ⟨⟨Try.func166, eawake24_166⟩, ⟨⟨Try.func136, eawake24_136⟩, ⟨⟨Try.func92, eawake24_92⟩, ⟨⟨Try.func65, eawake24_65⟩, ⟨⟨Try.func61, eawake24_61⟩, trivial, trivial⟩, ⟨⟨Try.func91, eawake24_91⟩, trivial, trivial⟩⟩, ⟨⟨Try.func113, eawake24_113⟩, ⟨⟨Try.func111, eawake24_111⟩, trivial, trivial⟩, ⟨⟨Try.func134, eawake24_134⟩, trivial, trivial⟩⟩⟩, ⟨⟨Try.func163, eawake24_163⟩, ⟨⟨Try.func147, eawake24_147⟩, ⟨⟨Try.func146, eawake24_146⟩, trivial, trivial⟩, ⟨⟨Try.func148, eawake24_148⟩, trivial, trivial⟩⟩, ⟨⟨Try.func165, eawake24_165⟩, ⟨⟨Try.func164, eawake24_164⟩, trivial, trivial⟩, trivial⟩⟩⟩, ⟨⟨Try.func193, eawake24_193⟩, ⟨⟨Try.func184, eawake24_184⟩, ⟨⟨Try.func169, eawake24_169⟩, ⟨⟨Try.func167, eawake24_167⟩, trivial, trivial⟩, ⟨⟨Try.func183, eawake24_183⟩, trivial, trivial⟩⟩, ⟨⟨Try.func186, eawake24_186⟩, ⟨⟨Try.func185, eawake24_185⟩, trivial, trivial⟩, ⟨⟨Try.func188, eawake24_188⟩, trivial, trivial⟩⟩⟩, ⟨⟨Try.func243, eawake24_243⟩, ⟨⟨Try.func202, eawake24_202⟩, ⟨⟨Try.func201, eawake24_201⟩, trivial, trivial⟩, ⟨⟨Try.func242, eawake24_242⟩, trivial, trivial⟩⟩, ⟨⟨Try.func245, eawake24_245⟩, ⟨⟨Try.func244, eawake24_244⟩, trivial, trivial⟩, trivial⟩⟩⟩⟩ mawake24, by kernel_rfl⟩
theorem awake24_fc {G : GH}  : Fc Try.prog 61 [] G [] (fun v _ _ => v = .bool true) := by
  obtain ⟨C, h1, h2, h3⟩ := vawake24
  rw [← h1]
  exact evB_ok h2 h3 (fun _ => .bool true) (fun _ => rfl) VRs.nil G
end Go.Proofs.Ytjbbookmgohamaa
