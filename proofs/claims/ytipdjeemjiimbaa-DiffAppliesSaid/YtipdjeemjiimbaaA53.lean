/- The example of chapter 53 is run by the evaluator. -/
import Derived.Test.YtipdjeemjiimbaaProg
import Derived.Test.YtipdjeemjiimbaaX5
namespace Go.Proofs.Ytipdjeemjiimbaa
open Go Go.Fw Go.RowKit
set_option maxRecDepth 1000000
set_option linter.unusedVariables false
set_option linter.unusedSimpArgs false
set_option linter.unnecessarySimpa false
theorem eawake53_98 : Callable Try.prog 98 := callable_of Try.func98 rfl (by decide)
theorem eawake53_99 : Callable Try.prog 99 := callable_of Try.func99 rfl (by decide)
theorem eawake53_100 : Callable Try.prog 100 := callable_of Try.func100 rfl (by decide)
theorem eawake53_173 : Callable Try.prog 173 := callable_of Try.func173 rfl (by decide)
theorem eawake53_174 : Callable Try.prog 174 := callable_of Try.func174 rfl (by decide)
theorem eawake53_175 : Callable Try.prog 175 := callable_of Try.func175 rfl (by decide)
theorem eawake53_212 : Callable Try.prog 212 := callable_of Try.func212 rfl (by decide)
theorem eawake53_213 : Callable Try.prog 213 := callable_of Try.func213 rfl (by decide)
def pawake53_100018 : Plan := .step 0 (.step 1 (.step 4 (.step 5 (.step 6 (.alts [2] (.alt 2 [1] (.alts [3] (.alt 3 [0, 2, 1] (.step 7 (.step 8 (.done))) (.stop))) (.stop)))))))
def pawake53_173006 : Plan := .step 0 (.step 1 (.step 2 (.step 3 (.step 4 (.step 5 (.step 6 (.step 7 (.step 8 (.step 9 (.alts [10] (.alt 10 [9, 4, 8, 3, 7, 2, 6, 1, 5] (.alts [11] (.alt 11 [0, 10, 9, 4, 8, 3, 7, 2, 6, 1, 5] (.step 12 (.done)) (.stop))) (.stop))))))))))))
def pawake53_173009 : Plan := .step 0 (.step 1 (.step 2 (.step 3 (.step 4 (.step 5 (.step 6 (.step 7 (.step 8 (.step 9 (.alts [10] (.alt 10 [9, 4, 8, 3, 7, 2, 6, 1, 5] (.alts [11] (.alt 11 [0, 10, 9, 4, 8, 3, 7, 2, 6, 1, 5] (.step 12 (.done)) (.stop))) (.stop))))))))))))
def pawake53_173003 : Plan := .step 0 (.step 1 (.step 2 (.step 3 (.step 4 (.step 5 (.step 6 (.step 7 (.step 8 (.step 9 (.step 10 (.step 11 (.step 12 (.step 13 (.alts [14] (.alt 14 [13, 4, 8, 12, 3, 7, 11, 2, 6, 10, 1, 5, 9] (.alts [15] (.alt 15 [0, 14, 13, 4, 8, 12, 3, 7, 11, 2, 6, 10, 1, 5, 9] (.step 16 (.done)) (.stop))) (.stop))))))))))))))))
theorem mawake53 : Try.prog.follows .mixedOrders = true := by kernel_rfl
theorem vawake53 : ∃ C : Ctx, C.P = Try.prog ∧ COk C ∧ evB C 1000000 98 [] = some true :=
  ⟨{ P := Try.prog, fn := FT.get (.n 174 Try.f174 (.n 100 Try.f100 (.n 99 Try.f99 (.n 98 Try.f98 (.e) (.e)) (.e)) (.n 173 Try.f173 (.e) (.e))) (.n 212 Try.f212 (.n 175 Try.f175 (.e) (.e)) (.n 213 Try.f213 (.e) (.e)))), plan := fun g r => PT.get (.n 173006 pawake53_173006 (.n 173003 pawake53_173003 (.n 100018 pawake53_100018 (.e) (.e)) (.e)) (.n 173009 pawake53_173009 (.e) (.e))) (g * 1000 + r), prim := fun _ => none }, rfl, COk.of ⟨⟨Try.func174, eawake53_174⟩, ⟨⟨Try.func100, eawake53_100⟩, ⟨⟨Try.func99, eawake53_99⟩, ⟨⟨Try.func98, eawake53_98⟩, trivial, trivial⟩, trivial⟩, ⟨⟨Try.func173, eawake53_173⟩, trivial, trivial⟩⟩, ⟨⟨Try.func212, eawake53_212⟩, ⟨⟨Try.func175, eawake53_175⟩, trivial, trivial⟩, ⟨⟨Try.func213, eawake53_213⟩, trivial, trivial⟩⟩⟩ mawake53, by kernel_rfl⟩
theorem awake53_fc {G : GH}  : Fc Try.prog 98 [] G [] (fun v _ _ => v = .bool true) := by
  obtain ⟨C, h1, h2, h3⟩ := vawake53
  rw [← h1]
  exact evB_ok h2 h3 (fun _ => .bool true) (fun _ => rfl) VRs.nil G
end Go.Proofs.Ytipdjeemjiimbaa
