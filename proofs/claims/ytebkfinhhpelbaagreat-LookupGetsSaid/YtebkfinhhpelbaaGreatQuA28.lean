/- The example of chapter 28 is run by the evaluator. -/
import Derived.Test.YtebkfinhhpelbaaGreatProg
import Derived.Test.YtebkfinhhpelbaaGreatQuX5
namespace Go.Proofs.YtebkfinhhpelbaaGreat
open Go Go.Fw Go.RowKit
set_option maxRecDepth 1000000
set_option linter.unusedVariables false
set_option linter.unusedSimpArgs false
set_option linter.unnecessarySimpa false
theorem eawake28_22 : Callable Tryz.prog 22 := callable_of Tryz.func22 rfl (by decide)
theorem eawake28_70 : Callable Tryz.prog 70 := callable_of Tryz.func70 rfl (by decide)
theorem eawake28_75 : Callable Tryz.prog 75 := callable_of Tryz.func75 rfl (by decide)
theorem eawake28_87 : Callable Tryz.prog 87 := callable_of Tryz.func87 rfl (by decide)
theorem eawake28_138 : Callable Tryz.prog 138 := callable_of Tryz.func138 rfl (by decide)
theorem eawake28_143 : Callable Tryz.prog 143 := callable_of Tryz.func143 rfl (by decide)
theorem eawake28_149 : Callable Tryz.prog 149 := callable_of Tryz.func149 rfl (by decide)
theorem eawake28_150 : Callable Tryz.prog 150 := callable_of Tryz.func150 rfl (by decide)
theorem eawake28_151 : Callable Tryz.prog 151 := callable_of Tryz.func151 rfl (by decide)
theorem eawake28_186 : Callable Tryz.prog 186 := callable_of Tryz.func186 rfl (by decide)
theorem eawake28_187 : Callable Tryz.prog 187 := callable_of Tryz.func187 rfl (by decide)
theorem eawake28_189 : Callable Tryz.prog 189 := callable_of Tryz.func189 rfl (by decide)
theorem eawake28_194 : Callable Tryz.prog 194 := callable_of Tryz.func194 rfl (by decide)
theorem eawake28_195 : Callable Tryz.prog 195 := callable_of Tryz.func195 rfl (by decide)
theorem eawake28_196 : Callable Tryz.prog 196 := callable_of Tryz.func196 rfl (by decide)
theorem eawake28_197 : Callable Tryz.prog 197 := callable_of Tryz.func197 rfl (by decide)
theorem eawake28_213 : Callable Tryz.prog 213 := callable_of Tryz.func213 rfl (by decide)
theorem eawake28_214 : Callable Tryz.prog 214 := callable_of Tryz.func214 rfl (by decide)
theorem eawake28_215 : Callable Tryz.prog 215 := callable_of Tryz.func215 rfl (by decide)
theorem eawake28_216 : Callable Tryz.prog 216 := callable_of Tryz.func216 rfl (by decide)
def pawake28_151004 : Plan := .step 0 (.step 1 (.step 2 (.alts [3] (.alt 3 [1] (.alts [4] (.alt 4 [0, 3, 1, 2] (.alts [5] (.alt 5 [0, 1] (.done) (.stop))) (.stop))) (.stop)))))
theorem mawake28 : Tryz.prog.follows .mixedOrders = true := by kernel_rfl
theorem vawake28 : ∃ C : Ctx, C.P = Tryz.prog ∧ COk C ∧ evB C 1000000 22 [] = some true :=
  ⟨{ P := Tryz.prog, fn := FT.get (.n 187 Tryz.f187 (.n 143 Tryz.f143 (.n 75 Tryz.f75 (.n 70 Tryz.f70 (.n 22 Tryz.f22 (.e) (.e)) (.e)) (.n 138 Tryz.f138 (.n 87 Tryz.f87 (.e) (.e)) (.e))) (.n 151 Tryz.f151 (.n 150 Tryz.f150 (.n 149 Tryz.f149 (.e) (.e)) (.e)) (.n 186 Tryz.f186 (.e) (.e)))) (.n 197 Tryz.f197 (.n 195 Tryz.f195 (.n 194 Tryz.f194 (.n 189 Tryz.f189 (.e) (.e)) (.e)) (.n 196 Tryz.f196 (.e) (.e))) (.n 215 Tryz.f215 (.n 214 Tryz.f214 (.n 213 Tryz.f213 (.e) (.e)) (.e)) (.n 216 Tryz.f216 (.e) (.e))))), plan := fun g r => PT.get (.n 151004 pawake28_151004 (.e) (.e)) (g * 1000 + r), prim := fun _ => none }, rfl, COk.of ⟨⟨Tryz.func187, eawake28_187⟩, ⟨⟨Tryz.func143, eawake28_143⟩, ⟨⟨Tryz.func75, eawake28_75⟩, ⟨⟨Tryz.func70, eawake28_70⟩, ⟨⟨Tryz.func22, eawake28_22⟩, trivial, trivial⟩, trivial⟩, ⟨⟨Tryz.func138, eawake28_138⟩, ⟨⟨Tryz.func87, eawake28_87⟩, trivial, trivial⟩, trivial⟩⟩, ⟨⟨Tryz.func151, eawake28_151⟩, ⟨⟨Tryz.func150, eawake28_150⟩, ⟨⟨Tryz.func149, eawake28_149⟩, trivial, trivial⟩, trivial⟩, ⟨⟨Tryz.func186, eawake28_186⟩, trivial, trivial⟩⟩⟩, ⟨⟨Tryz.func197, eawake28_197⟩, ⟨⟨Tryz.func195, eawake28_195⟩, ⟨⟨Tryz.func194, eawake28_194⟩, ⟨⟨Tryz.func189, eawake28_189⟩, trivial, trivial⟩, trivial⟩, ⟨⟨Tryz.func196, eawake28_196⟩, trivial, trivial⟩⟩, ⟨⟨Tryz.func215, eawake28_215⟩, ⟨⟨Tryz.func214, eawake28_214⟩, ⟨⟨Tryz.func213, eawake28_213⟩, trivial, trivial⟩, trivial⟩, ⟨⟨Tryz.func216, eawake28_216⟩, trivial, trivial⟩⟩⟩⟩ mawake28, by kernel_rfl⟩
theorem awake28_fc {G : GH}  : Fc Tryz.prog 22 [] G [] (fun v _ _ => v = .bool true) := by
  obtain ⟨C, h1, h2, h3⟩ := vawake28
  rw [← h1]
  exact evB_ok h2 h3 (fun _ => .bool true) (fun _ => rfl) VRs.nil G
end Go.Proofs.YtebkfinhhpelbaaGreat
