/- The example of chapter 11 is run by the evaluator. -/
import Derived.Test.YtjbbookmgohamaaProg
import Derived.Test.YtjbbookmgohamaaX5
namespace Go.Proofs.Ytjbbookmgohamaa
open Go Go.Fw Go.RowKit
set_option maxRecDepth 1000000
set_option linter.unusedVariables false
set_option linter.unusedSimpArgs false
set_option linter.unnecessarySimpa false
theorem eawake11_24 : Callable Try.prog 24 := callable_of Try.func24 rfl (by decide)
theorem eawake11_85 : Callable Try.prog 85 := callable_of Try.func85 rfl (by decide)
theorem eawake11_86 : Callable Try.prog 86 := callable_of Try.func86 rfl (by decide)
theorem eawake11_87 : Callable Try.prog 87 := callable_of Try.func87 rfl (by decide)
theorem eawake11_88 : Callable Try.prog 88 := callable_of Try.func88 rfl (by decide)
theorem eawake11_89 : Callable Try.prog 89 := callable_of Try.func89 rfl (by decide)
theorem eawake11_91 : Callable Try.prog 91 := callable_of Try.func91 rfl (by decide)
theorem eawake11_92 : Callable Try.prog 92 := callable_of Try.func92 rfl (by decide)
theorem eawake11_134 : Callable Try.prog 134 := callable_of Try.func134 rfl (by decide)
theorem eawake11_135 : Callable Try.prog 135 := callable_of Try.func135 rfl (by decide)
theorem eawake11_136 : Callable Try.prog 136 := callable_of Try.func136 rfl (by decide)
theorem eawake11_232 : Callable Try.prog 232 := callable_of Try.func232 rfl (by decide)
theorem eawake11_233 : Callable Try.prog 233 := callable_of Try.func233 rfl (by decide)
theorem eawake11_234 : Callable Try.prog 234 := callable_of Try.func234 rfl (by decide)
theorem eawake11_235 : Callable Try.prog 235 := callable_of Try.func235 rfl (by decide)
theorem eawake11_236 : Callable Try.prog 236 := callable_of Try.func236 rfl (by decide)
def pawake11_86003 : Plan := .step 0 (.step 2 (.alts [1, 3] (.alt 1 [] (.alts [3] (.alt 3 [] (.step 4 (.alts [5] (.alt 5 [4, 1, 3, 0, 2] (.step 6 (.done)) (.stop)))) (.stop))) (.alt 3 [] (.alts [1] (.alt 1 [] (.step 4 (.alts [5] (.alt 5 [4, 1, 3, 0, 2] (.step 6 (.done)) (.stop)))) (.stop))) (.stop)))))
def pawake11_87006 : Plan := .step 0 (.step 1 (.step 2 (.step 3 (.step 4 (.step 5 (.step 6 (.step 7 (.step 8 (.step 9 (.step 10 (.step 11 (.alts [12] (.alt 12 [0, 1, 2, 3, 4, 8, 10, 11, 7, 6, 5] (.step 13 (.alts [14] (.alt 14 [3, 8] (.done) (.stop)))) (.stop))))))))))))))
def pawake11_88006 : Plan := .step 0 (.step 1 (.step 2 (.step 3 (.step 4 (.step 5 (.step 6 (.step 7 (.step 8 (.step 9 (.step 10 (.step 11 (.alts [12] (.alt 12 [0, 1, 2, 3, 4, 8, 10, 11, 7, 6, 5] (.step 13 (.alts [14] (.alt 14 [3, 8] (.done) (.stop)))) (.stop))))))))))))))
def pawake11_234000 : Plan := .step 0 (.step 1 (.step 2 (.step 3 (.step 4 (.step 5 (.step 6 (.step 7 (.step 8 (.step 9 (.step 10 (.step 11 (.step 12 (.alts [13] (.alt 13 [0, 1, 4, 5, 6, 7, 11, 12, 10, 8, 9] (.step 14 (.alts [15] (.alt 15 [7, 11] (.done) (.stop)))) (.stop)))))))))))))))
def pawake11_236000 : Plan := .step 0 (.step 1 (.step 2 (.step 3 (.step 4 (.step 5 (.alts [6] (.alt 6 [5, 4] (.alts [7] (.alt 7 [3, 6, 2, 5, 1, 4] (.step 8 (.alts [9] (.alt 9 [3] (.done) (.stop)))) (.stop))) (.stop))))))))
theorem mawake11 : Try.prog.follows .mixedOrders = true := by kernel_rfl
theorem vawake11 : ∃ C : Ctx, C.P = Try.prog ∧ COk C ∧ evB C 1000000 24 [] = some true :=
  ⟨{ P := Try.prog, fn := FT.get (.n 134 Try.f134 (.n 88 Try.f88 (.n 86 Try.f86 (.n 85 Try.f85 (.n 24 Try.f24 (.e) (.e)) (.e)) (.n 87 Try.f87 (.e) (.e))) (.n 91 Try.f91 (.n 89 Try.f89 (.e) (.e)) (.n 92 Try.f92 (.e) (.e)))) (.n 233 Try.f233 (.n 136 Try.f136 (.n 135 Try.f135 (.e) (.e)) (.n 232 Try.f232 (.e) (.e))) (.n 235 Try.f235 (.n 234 Try.f234 (.e) (.e)) (.n 236 Try.f236 (.e) (.e))))), plan := fun g r => PT.get (.n 88006 pawake11_88006 (.n 87006 pawake11_87006 (.n 86003 pawake11_86003 (.e) (.e)) (.e)) (.n 236000 pawake11_236000 (.n 234000 pawake11_234000 (.e) (.e)) (.e))) (g * 1000 + r), prim := fun _ => none }, rfl, COk.of ⟨⟨Try.func134, eawake11_134⟩, ⟨⟨Try.func88, eawake11_88⟩, ⟨⟨Try.func86, eawake11_86⟩, ⟨⟨Try.func85, eawake11_85⟩, ⟨⟨Try.func24, eawake11_24⟩, trivial, trivial⟩, trivial⟩, ⟨⟨Try.func87, eawake11_87⟩, trivial, trivial⟩⟩, ⟨⟨Try.func91, eawake11_91⟩, ⟨⟨Try.func89, eawake11_89⟩, trivial, trivial⟩, ⟨⟨Try.func92, eawake11_92⟩, trivial, trivial⟩⟩⟩, ⟨⟨Try.func233, eawake11_233⟩, ⟨⟨Try.func136, eawake11_136⟩, ⟨⟨Try.func135, eawake11_135⟩, trivial, trivial⟩, ⟨⟨Try.func232, eawake11_232⟩, trivial, trivial⟩⟩, ⟨⟨Try.func235, eawake11_235⟩, ⟨⟨Try.func234, eawake11_234⟩, trivial, trivial⟩, ⟨⟨Try.func236, eawake11_236⟩, trivial, trivial⟩⟩⟩⟩ mawake11, by kernel_rfl⟩
theorem awake11_fc {G : GH}  : Fc Try.prog 24 [] G [] (fun v _ _ => v = .bool true) := by
  obtain ⟨C, h1, h2, h3⟩ := vawake11
  rw [← h1]
  exact evB_ok h2 h3 (fun _ => .bool true) (fun _ => rfl) VRs.nil G
end Go.Proofs.Ytjbbookmgohamaa
