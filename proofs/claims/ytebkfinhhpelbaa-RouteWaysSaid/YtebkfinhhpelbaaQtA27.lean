/- The example of chapter 27 is run by the evaluator. -/
import Derived.Test.YtebkfinhhpelbaaProg
import Derived.Test.YtebkfinhhpelbaaQtX5
namespace Go.Proofs.Ytebkfinhhpelbaa
open Go Go.Fw Go.RowKit
set_option maxRecDepth 1000000
set_option linter.unusedVariables false
set_option linter.unusedSimpArgs false
set_option linter.unnecessarySimpa false
theorem eawake27_19 : Callable Try.prog 19 := callable_of Try.func19 rfl (by decide)
theorem eawake27_21 : Callable Try.prog 21 := callable_of Try.func21 rfl (by decide)
theorem eawake27_25 : Callable Try.prog 25 := callable_of Try.func25 rfl (by decide)
theorem eawake27_27 : Callable Try.prog 27 := callable_of Try.func27 rfl (by decide)
theorem eawake27_29 : Callable Try.prog 29 := callable_of Try.func29 rfl (by decide)
theorem eawake27_37 : Callable Try.prog 37 := callable_of Try.func37 rfl (by decide)
theorem eawake27_38 : Callable Try.prog 38 := callable_of Try.func38 rfl (by decide)
theorem eawake27_39 : Callable Try.prog 39 := callable_of Try.func39 rfl (by decide)
theorem eawake27_40 : Callable Try.prog 40 := callable_of Try.func40 rfl (by decide)
theorem eawake27_63 : Callable Try.prog 63 := callable_of Try.func63 rfl (by decide)
theorem eawake27_64 : Callable Try.prog 64 := callable_of Try.func64 rfl (by decide)
theorem eawake27_65 : Callable Try.prog 65 := callable_of Try.func65 rfl (by decide)
theorem eawake27_69 : Callable Try.prog 69 := callable_of Try.func69 rfl (by decide)
theorem eawake27_70 : Callable Try.prog 70 := callable_of Try.func70 rfl (by decide)
theorem eawake27_71 : Callable Try.prog 71 := callable_of Try.func71 rfl (by decide)
theorem eawake27_72 : Callable Try.prog 72 := callable_of Try.func72 rfl (by decide)
theorem eawake27_77 : Callable Try.prog 77 := callable_of Try.func77 rfl (by decide)
theorem eawake27_84 : Callable Try.prog 84 := callable_of Try.func84 rfl (by decide)
theorem eawake27_86 : Callable Try.prog 86 := callable_of Try.func86 rfl (by decide)
theorem eawake27_100 : Callable Try.prog 100 := callable_of Try.func100 rfl (by decide)
theorem eawake27_101 : Callable Try.prog 101 := callable_of Try.func101 rfl (by decide)
theorem eawake27_102 : Callable Try.prog 102 := callable_of Try.func102 rfl (by decide)
theorem eawake27_103 : Callable Try.prog 103 := callable_of Try.func103 rfl (by decide)
theorem eawake27_104 : Callable Try.prog 104 := callable_of Try.func104 rfl (by decide)
theorem eawake27_105 : Callable Try.prog 105 := callable_of Try.func105 rfl (by decide)
theorem eawake27_106 : Callable Try.prog 106 := callable_of Try.func106 rfl (by decide)
theorem eawake27_107 : Callable Try.prog 107 := callable_of Try.func107 rfl (by decide)
theorem eawake27_108 : Callable Try.prog 108 := callable_of Try.func108 rfl (by decide)
theorem eawake27_109 : Callable Try.prog 109 := callable_of Try.func109 rfl (by decide)
theorem eawake27_115 : Callable Try.prog 115 := callable_of Try.func115 rfl (by decide)
theorem eawake27_124 : Callable Try.prog 124 := callable_of Try.func124 rfl (by decide)
theorem eawake27_125 : Callable Try.prog 125 := callable_of Try.func125 rfl (by decide)
theorem eawake27_130 : Callable Try.prog 130 := callable_of Try.func130 rfl (by decide)
theorem eawake27_131 : Callable Try.prog 131 := callable_of Try.func131 rfl (by decide)
theorem eawake27_142 : Callable Try.prog 142 := callable_of Try.func142 rfl (by decide)
theorem eawake27_147 : Callable Try.prog 147 := callable_of Try.func147 rfl (by decide)
theorem eawake27_186 : Callable Try.prog 186 := callable_of Try.func186 rfl (by decide)
theorem eawake27_187 : Callable Try.prog 187 := callable_of Try.func187 rfl (by decide)
theorem eawake27_188 : Callable Try.prog 188 := callable_of Try.func188 rfl (by decide)
theorem eawake27_189 : Callable Try.prog 189 := callable_of Try.func189 rfl (by decide)
theorem eawake27_190 : Callable Try.prog 190 := callable_of Try.func190 rfl (by decide)
def pawake27_25003 : Plan := .step 0 (.step 1 (.step 2 (.step 3 (.step 4 (.step 5 (.step 6 (.alts [7] (.alt 7 [6] (.alts [8] (.alt 8 [3, 5, 7, 2, 4, 6, 1, 0] (.step 9 (.done)) (.stop))) (.stop)))))))))
def pawake27_63003 : Plan := .step 0 (.step 2 (.alts [1, 3] (.alt 1 [] (.alts [3] (.alt 3 [] (.step 4 (.alts [5] (.alt 5 [4, 1, 3, 0, 2] (.step 6 (.done)) (.stop)))) (.stop))) (.alt 3 [] (.alts [1] (.alt 1 [] (.step 4 (.alts [5] (.alt 5 [4, 1, 3, 0, 2] (.step 6 (.done)) (.stop)))) (.stop))) (.stop)))))
def pawake27_69005 : Plan := .step 0 (.step 1 (.step 2 (.step 3 (.step 4 (.step 5 (.step 6 (.alts [7] (.alt 7 [3, 5] (.done) (.stop)))))))))
def pawake27_70001 : Plan := .step 0 (.step 1 (.step 3 (.step 4 (.alts [2] (.alt 2 [1, 0] (.step 6 (.alts [5] (.alt 5 [2, 4, 1, 3, 0] (.alts [7] (.alt 7 [1, 4] (.step 8 (.alts [9] (.alt 9 [1, 4] (.done) (.stop)))) (.stop))) (.stop)))) (.stop))))))
def pawake27_70002 : Plan := .step 0 (.step 1 (.step 3 (.step 4 (.alts [2] (.alt 2 [1, 0] (.step 6 (.alts [5] (.alt 5 [2, 4, 1, 3, 0] (.alts [7] (.alt 7 [1, 4] (.step 8 (.alts [9] (.alt 9 [1, 4] (.done) (.stop)))) (.stop))) (.stop)))) (.stop))))))
def pawake27_71006 : Plan := .step 0 (.step 1 (.step 2 (.step 3 (.step 4 (.step 5 (.step 6 (.step 7 (.step 8 (.step 9 (.step 10 (.step 11 (.alts [12] (.alt 12 [0, 1, 2, 3, 4, 8, 10, 11, 7, 6, 5] (.step 13 (.alts [14] (.alt 14 [3, 8, 10] (.done) (.stop)))) (.stop))))))))))))))
def pawake27_77006 : Plan := .step 0 (.step 1 (.step 4 (.step 5 (.step 8 (.step 9 (.alts [2, 6] (.alt 2 [1] (.alts [3, 6] (.alt 3 [0, 2, 1] (.alts [6] (.alt 6 [5] (.alts [7] (.alt 7 [3, 4, 6, 0, 2, 5, 1] (.step 10 (.step 11 (.step 12 (.done)))) (.stop))) (.stop))) (.alt 6 [5] (.alts [3] (.alt 3 [0, 2, 1] (.alts [7] (.alt 7 [3, 4, 6, 0, 2, 5, 1] (.step 10 (.step 11 (.step 12 (.done)))) (.stop))) (.stop))) (.stop)))) (.alt 6 [5] (.alts [2] (.alt 2 [1] (.alts [3] (.alt 3 [0, 2, 1] (.alts [7] (.alt 7 [3, 4, 6, 0, 2, 5, 1] (.step 10 (.step 11 (.step 12 (.done)))) (.stop))) (.stop))) (.stop))) (.stop)))))))))
def pawake27_77010 : Plan := .step 0 (.step 1 (.step 2 (.step 3 (.step 4 (.step 5 (.step 6 (.step 7 (.step 8 (.alts [9] (.alt 9 [7, 8, 6] (.alts [10] (.alt 10 [5, 9, 7, 8, 6] (.step 11 (.alts [12] (.alt 12 [1, 4, 5, 7] (.done) (.stop)))) (.stop))) (.stop)))))))))))
def pawake27_188000 : Plan := .step 0 (.step 1 (.step 2 (.step 3 (.step 4 (.step 5 (.step 6 (.step 7 (.step 8 (.step 9 (.step 10 (.step 11 (.step 12 (.alts [13] (.alt 13 [0, 1, 4, 5, 6, 7, 11, 12, 10, 8, 9] (.step 14 (.alts [15] (.alt 15 [7, 11] (.done) (.stop)))) (.stop)))))))))))))))
def pawake27_190000 : Plan := .step 0 (.step 1 (.step 2 (.step 3 (.step 4 (.step 5 (.alts [6] (.alt 6 [5, 4] (.alts [7] (.alt 7 [3, 6, 2, 5, 1, 4] (.step 8 (.alts [9] (.alt 9 [3] (.done) (.stop)))) (.stop))) (.stop))))))))
theorem mawake27 : Try.prog.follows .mixedOrders = true := by kernel_rfl
theorem vawake27 : ∃ C : Ctx, C.P = Try.prog ∧ COk C ∧ evB C 1000000 37 [] = some true :=
  ⟨{ P := Try.prog, fn := FT.get (.n 101 Try.f101 (.n 64 Try.f64 (.n 37 Try.f37 (.n 25 Try.f25 (.n 21 Try.f21 (.n 19 Try.f19 (.e) (.e)) (.e)) (.n 29 Try.f29 (.n 27 Try.f27 (.e) (.e)) (.e))) (.n 40 Try.f40 (.n 39 Try.f39 (.n 38 Try.f38 (.e) (.e)) (.e)) (.n 63 Try.f63 (.e) (.e)))) (.n 72 Try.f72 (.n 70 Try.f70 (.n 69 Try.f69 (.n 65 Try.f65 (.e) (.e)) (.e)) (.n 71 Try.f71 (.e) (.e))) (.n 86 Try.f86 (.n 84 Try.f84 (.n 77 Try.f77 (.e) (.e)) (.e)) (.n 100 Try.f100 (.e) (.e))))) (.n 125 Try.f125 (.n 107 Try.f107 (.n 104 Try.f104 (.n 103 Try.f103 (.n 102 Try.f102 (.e) (.e)) (.e)) (.n 106 Try.f106 (.n 105 Try.f105 (.e) (.e)) (.e))) (.n 115 Try.f115 (.n 109 Try.f109 (.n 108 Try.f108 (.e) (.e)) (.e)) (.n 124 Try.f124 (.e) (.e)))) (.n 186 Try.f186 (.n 142 Try.f142 (.n 131 Try.f131 (.n 130 Try.f130 (.e) (.e)) (.e)) (.n 147 Try.f147 (.e) (.e))) (.n 189 Try.f189 (.n 188 Try.f188 (.n 187 Try.f187 (.e) (.e)) (.e)) (.n 190 Try.f190 (.e) (.e)))))), plan := fun g r => PT.get (.n 71006 pawake27_71006 (.n 69005 pawake27_69005 (.n 63003 pawake27_63003 (.n 25003 pawake27_25003 (.e) (.e)) (.e)) (.n 70002 pawake27_70002 (.n 70001 pawake27_70001 (.e) (.e)) (.e))) (.n 188000 pawake27_188000 (.n 77010 pawake27_77010 (.n 77006 pawake27_77006 (.e) (.e)) (.e)) (.n 190000 pawake27_190000 (.e) (.e)))) (g * 1000 + r), prim := fun _ => none }, rfl, COk.of ⟨⟨Try.func101, eawake27_101⟩, ⟨⟨Try.func64, eawake27_64⟩, ⟨⟨Try.func37, eawake27_37⟩, ⟨⟨Try.func25, eawake27_25⟩, ⟨⟨Try.func21, eawake27_21⟩, ⟨⟨Try.func19, eawake27_19⟩, trivial, trivial⟩, trivial⟩, ⟨⟨Try.func29, eawake27_29⟩, ⟨⟨Try.func27, eawake27_27⟩, trivial, trivial⟩, trivial⟩⟩, ⟨⟨Try.func40, eawake27_40⟩, ⟨⟨Try.func39, eawake27_39⟩, ⟨⟨Try.func38, eawake27_38⟩, trivial, trivial⟩, trivial⟩, ⟨⟨Try.func63, eawake27_63⟩, trivial, trivial⟩⟩⟩, ⟨⟨Try.func72, eawake27_72⟩, ⟨⟨Try.func70, eawake27_70⟩, ⟨⟨Try.func69, eawake27_69⟩, ⟨⟨Try.func65, eawake27_65⟩, trivial, trivial⟩, trivial⟩, ⟨⟨Try.func71, eawake27_71⟩, trivial, trivial⟩⟩, ⟨⟨Try.func86, eawake27_86⟩, ⟨⟨Try.func84, eawake27_84⟩, ⟨⟨Try.func77, eawake27_77⟩, trivial, trivial⟩, trivial⟩, ⟨⟨Try.func100, eawake27_100⟩, trivial, trivial⟩⟩⟩⟩, ⟨⟨Try.func125, eawake27_125⟩, ⟨⟨Try.func107, eawake27_107⟩, ⟨⟨Try.func104, eawake27_104⟩, ⟨⟨Try.func103, eawake27_103⟩, ⟨⟨Try.func102, eawake27_102⟩, trivial, trivial⟩, trivial⟩, ⟨⟨Try.func106, eawake27_106⟩, ⟨⟨Try.func105, eawake27_105⟩, trivial, trivial⟩, trivial⟩⟩, ⟨⟨Try.func115, eawake27_115⟩, ⟨⟨Try.func109, eawake27_109⟩, ⟨⟨Try.func108, eawake27_108⟩, trivial, trivial⟩, trivial⟩, ⟨⟨Try.func124, eawake27_124⟩, trivial, trivial⟩⟩⟩, ⟨⟨Try.func186, eawake27_186⟩, ⟨⟨Try.func142, eawake27_142⟩, ⟨⟨Try.func131, eawake27_131⟩, ⟨⟨Try.func130, eawake27_130⟩, trivial, trivial⟩, trivial⟩, ⟨⟨Try.func147, eawake27_147⟩, trivial, trivial⟩⟩, ⟨⟨Try.func189, eawake27_189⟩, ⟨⟨Try.func188, eawake27_188⟩, ⟨⟨Try.func187, eawake27_187⟩, trivial, trivial⟩, trivial⟩, ⟨⟨Try.func190, eawake27_190⟩, trivial, trivial⟩⟩⟩⟩⟩ mawake27, by kernel_rfl⟩
theorem awake27_fc {G : GH}  : Fc Try.prog 37 [] G [] (fun v _ _ => v = .bool true) := by
  obtain ⟨C, h1, h2, h3⟩ := vawake27
  rw [← h1]
  exact evB_ok h2 h3 (fun _ => .bool true) (fun _ => rfl) VRs.nil G
end Go.Proofs.Ytebkfinhhpelbaa
