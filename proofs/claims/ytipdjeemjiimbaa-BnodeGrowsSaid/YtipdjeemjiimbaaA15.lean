/- The example of chapter 15 is run by the evaluator. -/
import Derived.Test.YtipdjeemjiimbaaProg
import Derived.Test.YtipdjeemjiimbaaX5
namespace Go.Proofs.Ytipdjeemjiimbaa
open Go Go.Fw Go.RowKit
set_option maxRecDepth 1000000
set_option linter.unusedVariables false
set_option linter.unusedSimpArgs false
set_option linter.unnecessarySimpa false
theorem eawake15_43 : Callable Try.prog 43 := callable_of Try.func43 rfl (by decide)
theorem eawake15_132 : Callable Try.prog 132 := callable_of Try.func132 rfl (by decide)
theorem eawake15_133 : Callable Try.prog 133 := callable_of Try.func133 rfl (by decide)
theorem eawake15_134 : Callable Try.prog 134 := callable_of Try.func134 rfl (by decide)
theorem eawake15_143 : Callable Try.prog 143 := callable_of Try.func143 rfl (by decide)
theorem eawake15_193 : Callable Try.prog 193 := callable_of Try.func193 rfl (by decide)
theorem eawake15_194 : Callable Try.prog 194 := callable_of Try.func194 rfl (by decide)
theorem eawake15_217 : Callable Try.prog 217 := callable_of Try.func217 rfl (by decide)
theorem eawake15_226 : Callable Try.prog 226 := callable_of Try.func226 rfl (by decide)
theorem eawake15_227 : Callable Try.prog 227 := callable_of Try.func227 rfl (by decide)
theorem eawake15_231 : Callable Try.prog 231 := callable_of Try.func231 rfl (by decide)
theorem mawake15 : Try.prog.follows .mixedOrders = true := by kernel_rfl
theorem vawake15 : ∃ C : Ctx, C.P = Try.prog ∧ COk C ∧ evB C 1000000 43 [] = some true :=
  ⟨{ P := Try.prog, fn := FT.get (.n 193 Try.f193 (.n 133 Try.f133 (.n 132 Try.f132 (.n 43 Try.f43 (.e) (.e)) (.e)) (.n 143 Try.f143 (.n 134 Try.f134 (.e) (.e)) (.e))) (.n 226 Try.f226 (.n 217 Try.f217 (.n 194 Try.f194 (.e) (.e)) (.e)) (.n 231 Try.f231 (.n 227 Try.f227 (.e) (.e)) (.e)))), plan := fun g r => PT.get (.e) (g * 1000 + r), prim := fun _ => none }, rfl, COk.of ⟨⟨Try.func193, eawake15_193⟩, ⟨⟨Try.func133, eawake15_133⟩, ⟨⟨Try.func132, eawake15_132⟩, ⟨⟨Try.func43, eawake15_43⟩, trivial, trivial⟩, trivial⟩, ⟨⟨Try.func143, eawake15_143⟩, ⟨⟨Try.func134, eawake15_134⟩, trivial, trivial⟩, trivial⟩⟩, ⟨⟨Try.func226, eawake15_226⟩, ⟨⟨Try.func217, eawake15_217⟩, ⟨⟨Try.func194, eawake15_194⟩, trivial, trivial⟩, trivial⟩, ⟨⟨Try.func231, eawake15_231⟩, ⟨⟨Try.func227, eawake15_227⟩, trivial, trivial⟩, trivial⟩⟩⟩ mawake15, by kernel_rfl⟩
theorem awake15_fc {G : GH}  : Fc Try.prog 43 [] G [] (fun v _ _ => v = .bool true) := by
  obtain ⟨C, h1, h2, h3⟩ := vawake15
  rw [← h1]
  exact evB_ok h2 h3 (fun _ => .bool true) (fun _ => rfl) VRs.nil G
end Go.Proofs.Ytipdjeemjiimbaa
