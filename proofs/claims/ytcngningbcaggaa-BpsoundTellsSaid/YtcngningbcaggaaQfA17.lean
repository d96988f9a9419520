/- The example of chapter 17 is run by the evaluator. -/
import Derived.Test.YtcngningbcaggaaProg
import Derived.Test.YtcngningbcaggaaQfX5
set_option linter.unusedVariables false
set_option linter.unusedSimpArgs false
set_option linter.unnecessarySimpa false
namespace Go.Proofs.Ytcngningbcaggaa
open Go Go.Fw Go.RowKit
set_option maxRecDepth 1000000
theorem eawake17_19 : Callable Try.prog 19 := callable_of Try.func19 rfl (by decide)
theorem eawake17_22 : Callable Try.prog 22 := callable_of Try.func22 rfl (by decide)
theorem eawake17_25 : Callable Try.prog 25 := callable_of Try.func25 rfl (by decide)
theorem eawake17_51 : Callable Try.prog 51 := callable_of Try.func51 rfl (by decide)
theorem eawake17_56 : Callable Try.prog 56 := callable_of Try.func56 rfl (by decide)
theorem eawake17_75 : Callable Try.prog 75 := callable_of Try.func75 rfl (by decide)
theorem eawake17_76 : Callable Try.prog 76 := callable_of Try.func76 rfl (by decide)
theorem eawake17_80 : Callable Try.prog 80 := callable_of Try.func80 rfl (by decide)
theorem eawake17_81 : Callable Try.prog 81 := callable_of Try.func81 rfl (by decide)
theorem eawake17_94 : Callable Try.prog 94 := callable_of Try.func94 rfl (by decide)
theorem eawake17_95 : Callable Try.prog 95 := callable_of Try.func95 rfl (by decide)
theorem eawake17_96 : Callable Try.prog 96 := callable_of Try.func96 rfl (by decide)
theorem eawake17_100 : Callable Try.prog 100 := callable_of Try.func100 rfl (by decide)
theorem eawake17_114 : Callable Try.prog 114 := callable_of Try.func114 rfl (by decide)
theorem eawake17_115 : Callable Try.prog 115 := callable_of Try.func115 rfl (by decide)
theorem eawake17_116 : Callable Try.prog 116 := callable_of Try.func116 rfl (by decide)
theorem eawake17_121 : Callable Try.prog 121 := callable_of Try.func121 rfl (by decide)
theorem eawake17_131 : Callable Try.prog 131 := callable_of Try.func131 rfl (by decide)
theorem eawake17_132 : Callable Try.prog 132 := callable_of Try.func132 rfl (by decide)
theorem eawake17_133 : Callable Try.prog 133 := callable_of Try.func133 rfl (by decide)
def pawake17_51002 : Plan := .step 0 (.step 1 (.step 2 (.step 3 (.step 4 (.step 5 (.step 6 (.step 7 (.step 8 (.step 9 (.alts [10, 12] (.alt 10 [2, 8, 9, 1, 7, 0, 6, 5] (.step 11 (.alts [12] (.alt 12 [2, 1, 0] (.alts [13] (.alt 13 [2, 3, 4, 11, 12, 1, 10, 0, 8, 9, 7, 6, 5] (.step 14 (.step 15 (.step 16 (.step 17 (.step 18 (.step 19 (.step 20 (.step 22 (.step 23 (.alts [21] (.alt 21 [16, 20, 13, 15, 19, 2, 3, 4, 11, 12, 14, 18, 1, 10, 17, 0, 8, 9, 7, 6, 5] (.step 24 (.step 25 (.done))) (.stop)))))))))))) (.stop))) (.stop)))) (.alt 12 [2, 1, 0] (.alts [10] (.alt 10 [2, 8, 9, 1, 7, 0, 6, 5] (.step 11 (.alts [13] (.alt 13 [2, 3, 4, 11, 12, 1, 10, 0, 8, 9, 7, 6, 5] (.step 14 (.step 15 (.step 16 (.step 17 (.step 18 (.step 19 (.step 20 (.step 22 (.step 23 (.alts [21] (.alt 21 [16, 20, 13, 15, 19, 2, 3, 4, 11, 12, 14, 18, 1, 10, 17, 0, 8, 9, 7, 6, 5] (.step 24 (.step 25 (.done))) (.stop)))))))))))) (.stop)))) (.stop))) (.stop)))))))))))))
def pawake17_75005 : Plan := .step 0 (.step 1 (.step 2 (.step 3 (.step 4 (.step 5 (.alts [6, 10] (.alt 6 [3, 5, 2, 4, 1, 0] (.step 7 (.step 8 (.step 9 (.alts [10] (.alt 10 [] (.alts [11] (.alt 11 [3, 5] (.step 12 (.done)) (.stop))) (.stop)))))) (.alt 10 [] (.alts [6] (.alt 6 [3, 5, 2, 4, 1, 0] (.step 7 (.step 8 (.step 9 (.alts [11] (.alt 11 [3, 5] (.step 12 (.done)) (.stop)))))) (.stop))) (.stop)))))))))
def pawake17_75008 : Plan := .step 0 (.step 1 (.step 2 (.step 3 (.step 4 (.step 5 (.step 6 (.alts [7] (.alt 7 [3, 5, 6] (.done) (.stop)))))))))
def pawake17_76010 : Plan := .step 0 (.step 1 (.step 2 (.step 3 (.step 4 (.step 5 (.step 6 (.step 7 (.step 8 (.step 9 (.step 10 (.step 11 (.step 12 (.alts [13] (.alt 13 [8, 10, 12, 2, 7, 9, 11, 1, 6, 0, 5, 4, 3] (.step 14 (.step 15 (.step 16 (.step 17 (.step 18 (.step 19 (.step 20 (.step 21 (.step 22 (.step 23 (.step 24 (.step 25 (.step 26 (.step 27 (.step 28 (.step 29 (.step 30 (.step 31 (.step 32 (.step 33 (.done))))))))))))))))))))) (.stop)))))))))))))))
def pawake17_76021 : Plan := .step 0 (.step 1 (.step 2 (.step 3 (.step 4 (.step 5 (.step 6 (.step 7 (.alts [8] (.alt 8 [6, 7, 5] (.alts [9] (.alt 9 [4, 8, 6, 7, 5] (.alts [10] (.alt 10 [0, 1, 3, 9, 2, 4, 8, 6, 7, 5] (.step 11 (.done)) (.stop))) (.stop))) (.stop))))))))))
def pawake17_94001 : Plan := .step 0 (.step 1 (.step 2 (.step 3 (.step 4 (.step 5 (.step 6 (.step 7 (.step 8 (.step 9 (.step 10 (.step 11 (.step 12 (.step 13 (.step 14 (.step 15 (.step 16 (.step 17 (.step 18 (.step 19 (.step 20 (.step 21 (.step 22 (.step 23 (.step 24 (.step 25 (.step 26 (.step 27 (.step 28 (.step 29 (.step 30 (.step 31 (.step 32 (.step 33 (.step 34 (.step 35 (.step 36 (.step 37 (.alts [38] (.alt 38 [35, 37, 22, 34, 36, 19, 21, 33, 8, 18, 20, 32, 7, 17, 25, 31, 6, 11, 16, 24, 30, 2, 5, 10, 15, 23, 29, 1, 4, 9, 14, 28, 0, 3, 13, 27, 12, 26] (.step 39 (.step 40 (.done))) (.stop))))))))))))))))))))))))))))))))))))))))
def pawake17_94003 : Plan := .step 0 (.step 1 (.step 2 (.step 3 (.step 4 (.step 5 (.step 6 (.alts [7] (.alt 7 [4, 6, 3, 5, 2, 1] (.step 8 (.step 9 (.alts [10] (.alt 10 [0, 1, 2, 3, 4, 5, 6, 7, 9, 8] (.done) (.stop))))) (.stop)))))))))
def pawake17_114004 : Plan := .step 0 (.step 1 (.alts [2] (.alt 2 [1, 0] (.step 3 (.step 4 (.step 5 (.step 6 (.alts [7] (.alt 7 [4, 6, 2, 3, 5, 1, 0] (.step 8 (.step 9 (.step 10 (.step 11 (.step 12 (.step 13 (.step 14 (.step 15 (.step 16 (.step 17 (.step 18 (.step 19 (.step 20 (.step 21 (.step 22 (.step 23 (.step 24 (.done)))))))))))))))))) (.stop))))))) (.stop))))
theorem mawake17 : Try.prog.follows .mixedOrders = true := by kernel_rfl
theorem vawake17 : ∃ C : Ctx, C.P = Try.prog ∧ COk C ∧ evB C 1000000 19 [] = some true :=
  ⟨{ P := Try.prog, fn := FT.get (.n 95 Try.f95 (.n 75 Try.f75 (.n 25 Try.f25 (.n 22 Try.f22 (.n 19 Try.f19 (.e) (.e)) (.e)) (.n 56 Try.f56 (.n 51 Try.f51 (.e) (.e)) (.e))) (.n 81 Try.f81 (.n 80 Try.f80 (.n 76 Try.f76 (.e) (.e)) (.e)) (.n 94 Try.f94 (.e) (.e)))) (.n 116 Try.f116 (.n 114 Try.f114 (.n 100 Try.f100 (.n 96 Try.f96 (.e) (.e)) (.e)) (.n 115 Try.f115 (.e) (.e))) (.n 132 Try.f132 (.n 131 Try.f131 (.n 121 Try.f121 (.e) (.e)) (.e)) (.n 133 Try.f133 (.e) (.e))))), plan := fun g r => PT.get (.n 76021 pawake17_76021 (.n 75008 pawake17_75008 (.n 75005 pawake17_75005 (.n 51002 pawake17_51002 (.e) (.e)) (.e)) (.n 76010 pawake17_76010 (.e) (.e))) (.n 94003 pawake17_94003 (.n 94001 pawake17_94001 (.e) (.e)) (.n 114004 pawake17_114004 (.e) (.e)))) (g * 1000 + r), prim := fun _ => none }, rfl, COk.of ⟨⟨Try.func95, eawake17_95⟩, ⟨⟨Try.func75, eawake17_75⟩, ⟨⟨Try.func25, eawake17_25⟩, ⟨⟨Try.func22, eawake17_22⟩, ⟨⟨Try.func19, eawake17_19⟩, trivial, trivial⟩, trivial⟩, ⟨⟨Try.func56, eawake17_56⟩, ⟨⟨Try.func51, eawake17_51⟩, trivial, trivial⟩, trivial⟩⟩, ⟨⟨Try.func81, eawake17_81⟩, ⟨⟨Try.func80, eawake17_80⟩, ⟨⟨Try.func76, eawake17_76⟩, trivial, trivial⟩, trivial⟩, ⟨⟨Try.func94, eawake17_94⟩, trivial, trivial⟩⟩⟩, ⟨⟨Try.func116, eawake17_116⟩, ⟨⟨Try.func114, eawake17_114⟩, ⟨⟨Try.func100, eawake17_100⟩, ⟨⟨Try.func96, eawake17_96⟩, trivial, trivial⟩, trivial⟩, ⟨⟨Try.func115, eawake17_115⟩, trivial, trivial⟩⟩, ⟨⟨Try.func132, eawake17_132⟩, ⟨⟨Try.func131, eawake17_131⟩, ⟨⟨Try.func121, eawake17_121⟩, trivial, trivial⟩, trivial⟩, ⟨⟨Try.func133, eawake17_133⟩, trivial, trivial⟩⟩⟩⟩ mawake17, by kernel_rfl⟩
theorem awake17_fc {G : GH}  : Fc Try.prog 19 [] G [] (fun v _ _ => v = .bool true) := by
  obtain ⟨C, h1, h2, h3⟩ := vawake17
  rw [← h1]
  exact evB_ok h2 h3 (fun _ => .bool true) (fun _ => rfl) VRs.nil G
end Go.Proofs.Ytcngningbcaggaa
