/- The example of chapter 26 is run by the evaluator. -/
import Derived.Test.YtjbbookmgohamaaProg
import Derived.Test.YtjbbookmgohamaaX5
namespace Go.Proofs.Ytjbbookmgohamaa
open Go Go.Fw Go.RowKit
set_option maxRecDepth 1000000
set_option linter.unusedVariables false
set_option linter.unusedSimpArgs false
set_option linter.unnecessarySimpa false
theorem eawake26_43 : Callable Try.prog 43 := callable_of Try.func43 rfl (by decide)
theorem eawake26_45 : Callable Try.prog 45 := callable_of Try.func45 rfl (by decide)
theorem eawake26_48 : Callable Try.prog 48 := callable_of Try.func48 rfl (by decide)
theorem eawake26_50 : Callable Try.prog 50 := callable_of Try.func50 rfl (by decide)
theorem eawake26_52 : Callable Try.prog 52 := callable_of Try.func52 rfl (by decide)
theorem eawake26_57 : Callable Try.prog 57 := callable_of Try.func57 rfl (by decide)
theorem eawake26_58 : Callable Try.prog 58 := callable_of Try.func58 rfl (by decide)
theorem eawake26_68 : Callable Try.prog 68 := callable_of Try.func68 rfl (by decide)
theorem eawake26_69 : Callable Try.prog 69 := callable_of Try.func69 rfl (by decide)
theorem eawake26_85 : Callable Try.prog 85 := callable_of Try.func85 rfl (by decide)
theorem eawake26_92 : Callable Try.prog 92 := callable_of Try.func92 rfl (by decide)
theorem eawake26_100 : Callable Try.prog 100 := callable_of Try.func100 rfl (by decide)
theorem eawake26_101 : Callable Try.prog 101 := callable_of Try.func101 rfl (by decide)
theorem eawake26_102 : Callable Try.prog 102 := callable_of Try.func102 rfl (by decide)
theorem eawake26_103 : Callable Try.prog 103 := callable_of Try.func103 rfl (by decide)
theorem eawake26_104 : Callable Try.prog 104 := callable_of Try.func104 rfl (by decide)
theorem eawake26_105 : Callable Try.prog 105 := callable_of Try.func105 rfl (by decide)
theorem eawake26_106 : Callable Try.prog 106 := callable_of Try.func106 rfl (by decide)
theorem eawake26_109 : Callable Try.prog 109 := callable_of Try.func109 rfl (by decide)
theorem eawake26_110 : Callable Try.prog 110 := callable_of Try.func110 rfl (by decide)
theorem eawake26_114 : Callable Try.prog 114 := callable_of Try.func114 rfl (by decide)
theorem eawake26_115 : Callable Try.prog 115 := callable_of Try.func115 rfl (by decide)
theorem eawake26_134 : Callable Try.prog 134 := callable_of Try.func134 rfl (by decide)
theorem eawake26_141 : Callable Try.prog 141 := callable_of Try.func141 rfl (by decide)
theorem eawake26_142 : Callable Try.prog 142 := callable_of Try.func142 rfl (by decide)
theorem eawake26_143 : Callable Try.prog 143 := callable_of Try.func143 rfl (by decide)
theorem eawake26_144 : Callable Try.prog 144 := callable_of Try.func144 rfl (by decide)
theorem eawake26_145 : Callable Try.prog 145 := callable_of Try.func145 rfl (by decide)
theorem eawake26_151 : Callable Try.prog 151 := callable_of Try.func151 rfl (by decide)
theorem eawake26_152 : Callable Try.prog 152 := callable_of Try.func152 rfl (by decide)
theorem eawake26_155 : Callable Try.prog 155 := callable_of Try.func155 rfl (by decide)
theorem eawake26_162 : Callable Try.prog 162 := callable_of Try.func162 rfl (by decide)
theorem eawake26_168 : Callable Try.prog 168 := callable_of Try.func168 rfl (by decide)
theorem eawake26_169 : Callable Try.prog 169 := callable_of Try.func169 rfl (by decide)
theorem eawake26_170 : Callable Try.prog 170 := callable_of Try.func170 rfl (by decide)
theorem eawake26_172 : Callable Try.prog 172 := callable_of Try.func172 rfl (by decide)
theorem eawake26_187 : Callable Try.prog 187 := callable_of Try.func187 rfl (by decide)
theorem eawake26_188 : Callable Try.prog 188 := callable_of Try.func188 rfl (by decide)
theorem eawake26_189 : Callable Try.prog 189 := callable_of Try.func189 rfl (by decide)
theorem eawake26_192 : Callable Try.prog 192 := callable_of Try.func192 rfl (by decide)
theorem eawake26_202 : Callable Try.prog 202 := callable_of Try.func202 rfl (by decide)
theorem eawake26_203 : Callable Try.prog 203 := callable_of Try.func203 rfl (by decide)
theorem eawake26_204 : Callable Try.prog 204 := callable_of Try.func204 rfl (by decide)
theorem eawake26_210 : Callable Try.prog 210 := callable_of Try.func210 rfl (by decide)
theorem eawake26_213 : Callable Try.prog 213 := callable_of Try.func213 rfl (by decide)
theorem eawake26_232 : Callable Try.prog 232 := callable_of Try.func232 rfl (by decide)
theorem eawake26_233 : Callable Try.prog 233 := callable_of Try.func233 rfl (by decide)
theorem eawake26_234 : Callable Try.prog 234 := callable_of Try.func234 rfl (by decide)
theorem eawake26_235 : Callable Try.prog 235 := callable_of Try.func235 rfl (by decide)
theorem eawake26_236 : Callable Try.prog 236 := callable_of Try.func236 rfl (by decide)
def pawake26_48003 : Plan := .step 0 (.step 1 (.step 2 (.step 3 (.step 4 (.step 5 (.step 6 (.alts [7] (.alt 7 [6] (.alts [8] (.alt 8 [3, 5, 7, 2, 4, 6, 1, 0] (.step 9 (.done)) (.stop))) (.stop)))))))))
def pawake26_100003 : Plan := .step 0 (.step 2 (.alts [1, 3] (.alt 1 [] (.alts [3] (.alt 3 [] (.step 4 (.alts [5] (.alt 5 [4, 1, 3, 0, 2] (.step 6 (.done)) (.stop)))) (.stop))) (.alt 3 [] (.alts [1] (.alt 1 [] (.step 4 (.alts [5] (.alt 5 [4, 1, 3, 0, 2] (.step 6 (.done)) (.stop)))) (.stop))) (.stop)))))
def pawake26_103005 : Plan := .step 0 (.step 1 (.step 2 (.step 3 (.step 4 (.step 5 (.step 6 (.alts [7] (.alt 7 [3, 5] (.done) (.stop)))))))))
def pawake26_104001 : Plan := .step 0 (.step 1 (.step 3 (.step 4 (.alts [2] (.alt 2 [1, 0] (.step 6 (.alts [5] (.alt 5 [2, 4, 1, 3, 0] (.alts [7] (.alt 7 [1, 4] (.step 8 (.alts [9] (.alt 9 [1, 4] (.done) (.stop)))) (.stop))) (.stop)))) (.stop))))))
def pawake26_104002 : Plan := .step 0 (.step 1 (.step 3 (.step 4 (.alts [2] (.alt 2 [1, 0] (.step 6 (.alts [5] (.alt 5 [2, 4, 1, 3, 0] (.alts [7] (.alt 7 [1, 4] (.step 8 (.alts [9] (.alt 9 [1, 4] (.done) (.stop)))) (.stop))) (.stop)))) (.stop))))))
def pawake26_105006 : Plan := .step 0 (.step 1 (.step 2 (.step 3 (.step 4 (.step 5 (.step 6 (.step 7 (.step 8 (.step 9 (.step 10 (.step 11 (.alts [12] (.alt 12 [0, 1, 2, 3, 4, 8, 10, 11, 7, 6, 5] (.step 13 (.alts [14] (.alt 14 [3, 8, 10] (.done) (.stop)))) (.stop))))))))))))))
def pawake26_151004 : Plan := .step 0 (.step 2 (.alts [1, 4] (.alt 1 [0] (.alts [3, 4] (.alt 3 [1, 2, 0] (.alts [4] (.alt 4 [] (.alts [5] (.alt 5 [0, 2] (.done) (.stop))) (.stop))) (.alt 4 [] (.alts [3] (.alt 3 [1, 2, 0] (.alts [5] (.alt 5 [0, 2] (.done) (.stop))) (.stop))) (.stop)))) (.alt 4 [] (.alts [1] (.alt 1 [0] (.alts [3] (.alt 3 [1, 2, 0] (.alts [5] (.alt 5 [0, 2] (.done) (.stop))) (.stop))) (.stop))) (.stop)))))
def pawake26_151005 : Plan := .step 0 (.step 1 (.step 2 (.step 3 (.step 4 (.step 5 (.step 6 (.alts [7] (.alt 7 [1] (.step 8 (.alts [9] (.alt 9 [1, 3] (.step 10 (.alts [11] (.alt 11 [1, 3, 5] (.done) (.stop)))) (.stop)))) (.stop)))))))))
def pawake26_152012 : Plan := .step 0 (.step 1 (.step 2 (.alts [3] (.alt 3 [0] (.alts [4] (.alt 4 [0, 1] (.alts [5] (.alt 5 [0, 1, 2] (.step 6 (.done)) (.stop))) (.stop))) (.stop)))))
def pawake26_168001 : Plan := .step 0 (.step 2 (.alts [1] (.alt 1 [0] (.alts [3] (.alt 3 [1, 2, 0] (.step 4 (.done)) (.stop))) (.stop))))
def pawake26_170006 : Plan := .step 0 (.step 2 (.step 4 (.alts [1] (.alt 1 [0] (.alts [3] (.alt 3 [1, 2, 0] (.alts [5] (.alt 5 [0, 1, 3, 2] (.alts [6] (.alt 6 [0, 2] (.step 7 (.step 8 (.done))) (.stop))) (.stop))) (.stop))) (.stop)))))
def pawake26_189001 : Plan := .step 0 (.step 1 (.alts [2] (.alt 2 [0] (.alts [3] (.alt 3 [0, 1] (.done) (.stop))) (.stop))))
def pawake26_189004 : Plan := .step 0 (.step 1 (.step 2 (.step 3 (.alts [4] (.alt 4 [0] (.alts [5] (.alt 5 [0, 1] (.step 6 (.step 7 (.done))) (.stop))) (.stop))))))
def pawake26_189006 : Plan := .step 0 (.step 1 (.alts [2] (.alt 2 [0] (.alts [3] (.alt 3 [0, 1] (.step 4 (.step 5 (.done))) (.stop))) (.stop))))
def pawake26_189008 : Plan := .step 0 (.step 1 (.step 2 (.step 3 (.step 5 (.step 6 (.step 7 (.step 8 (.alts [4] (.alt 4 [1, 3, 0, 2] (.step 10 (.alts [9] (.alt 9 [4, 6, 8, 1, 3, 5, 7, 0, 2] (.alts [11] (.alt 11 [0, 1, 2, 3, 4, 9, 10, 6, 8, 5, 7] (.step 12 (.alts [13] (.alt 13 [1, 6] (.done) (.stop)))) (.stop))) (.stop)))) (.stop))))))))))
def pawake26_189009 : Plan := .step 0 (.step 1 (.step 2 (.step 3 (.alts [4] (.alt 4 [0] (.alts [5] (.alt 5 [0, 1] (.step 6 (.step 7 (.done))) (.stop))) (.stop))))))
def pawake26_203004 : Plan := .step 0 (.step 1 (.step 2 (.step 3 (.step 4 (.step 5 (.step 6 (.step 7 (.step 8 (.step 9 (.step 10 (.alts [11] (.alt 11 [5, 10, 4, 9, 3, 8, 0, 2, 6, 7, 1] (.step 12 (.step 13 (.step 14 (.step 15 (.done))))) (.stop)))))))))))))
def pawake26_203005 : Plan := .step 0 (.step 1 (.step 2 (.step 4 (.step 5 (.step 6 (.step 8 (.alts [3] (.alt 3 [2, 0, 1] (.alts [7] (.alt 7 [3, 6, 2, 4, 5, 0, 1] (.step 9 (.step 10 (.step 11 (.step 12 (.done))))) (.stop))) (.stop)))))))))
def pawake26_204004 : Plan := .step 0 (.step 1 (.step 2 (.step 3 (.step 5 (.step 6 (.step 7 (.step 9 (.step 10 (.step 11 (.step 12 (.step 13 (.step 14 (.step 15 (.step 16 (.step 18 (.step 19 (.step 20 (.alts [4] (.alt 4 [3, 0, 2, 1] (.alts [8] (.alt 8 [4, 7, 3, 5, 6, 0, 2, 1] (.alts [17] (.alt 17 [8, 16, 4, 7, 14, 15, 3, 5, 6, 0, 2, 1] (.alts [21] (.alt 21 [17, 20, 8, 16, 18, 19, 4, 7, 14, 15, 3, 5, 6, 0, 2, 1] (.step 22 (.step 23 (.step 24 (.step 25 (.step 26 (.step 27 (.done))))))) (.stop))) (.stop))) (.stop))) (.stop))))))))))))))))))))
def pawake26_234000 : Plan := .step 0 (.step 1 (.step 2 (.step 3 (.step 4 (.step 5 (.step 6 (.step 7 (.step 8 (.step 9 (.step 10 (.step 11 (.step 12 (.alts [13] (.alt 13 [0, 1, 4, 5, 6, 7, 11, 12, 10, 8, 9] (.step 14 (.alts [15] (.alt 15 [7, 11] (.done) (.stop)))) (.stop)))))))))))))))
def pawake26_236000 : Plan := .step 0 (.step 1 (.step 2 (.step 3 (.step 4 (.step 5 (.alts [6] (.alt 6 [5, 4] (.alts [7] (.alt 7 [3, 6, 2, 5, 1, 4] (.step 8 (.alts [9] (.alt 9 [3] (.done) (.stop)))) (.stop))) (.stop))))))))
theorem mawake26 : Try.prog.follows .mixedOrders = true := by kernel_rfl
theorem vawake26 : ∃ C : Ctx, C.P = Try.prog ∧ COk C ∧ evB C 1000000 68 [] = some true :=
  ⟨{ P := Try.prog, fn := FT.get (.n 143 Try.f143 (.n 101 Try.f101 (.n 58 Try.f58 (.n 50 Try.f50 (.n 45 Try.f45 (.n 43 Try.f43 (.e) (.e)) (.n 48 Try.f48 (.e) (.e))) (.n 57 Try.f57 (.n 52 Try.f52 (.e) (.e)) (.e))) (.n 85 Try.f85 (.n 69 Try.f69 (.n 68 Try.f68 (.e) (.e)) (.e)) (.n 100 Try.f100 (.n 92 Try.f92 (.e) (.e)) (.e)))) (.n 110 Try.f110 (.n 105 Try.f105 (.n 103 Try.f103 (.n 102 Try.f102 (.e) (.e)) (.n 104 Try.f104 (.e) (.e))) (.n 109 Try.f109 (.n 106 Try.f106 (.e) (.e)) (.e))) (.n 134 Try.f134 (.n 115 Try.f115 (.n 114 Try.f114 (.e) (.e)) (.e)) (.n 142 Try.f142 (.n 141 Try.f141 (.e) (.e)) (.e))))) (.n 189 Try.f189 (.n 168 Try.f168 (.n 152 Try.f152 (.n 145 Try.f145 (.n 144 Try.f144 (.e) (.e)) (.n 151 Try.f151 (.e) (.e))) (.n 162 Try.f162 (.n 155 Try.f155 (.e) (.e)) (.e))) (.n 172 Try.f172 (.n 170 Try.f170 (.n 169 Try.f169 (.e) (.e)) (.e)) (.n 188 Try.f188 (.n 187 Try.f187 (.e) (.e)) (.e)))) (.n 213 Try.f213 (.n 203 Try.f203 (.n 202 Try.f202 (.n 192 Try.f192 (.e) (.e)) (.e)) (.n 210 Try.f210 (.n 204 Try.f204 (.e) (.e)) (.e))) (.n 234 Try.f234 (.n 233 Try.f233 (.n 232 Try.f232 (.e) (.e)) (.e)) (.n 236 Try.f236 (.n 235 Try.f235 (.e) (.e)) (.e)))))), plan := fun g r => PT.get (.n 170006 pawake26_170006 (.n 105006 pawake26_105006 (.n 103005 pawake26_103005 (.n 100003 pawake26_100003 (.n 48003 pawake26_48003 (.e) (.e)) (.e)) (.n 104002 pawake26_104002 (.n 104001 pawake26_104001 (.e) (.e)) (.e))) (.n 152012 pawake26_152012 (.n 151005 pawake26_151005 (.n 151004 pawake26_151004 (.e) (.e)) (.e)) (.n 168001 pawake26_168001 (.e) (.e)))) (.n 203004 pawake26_203004 (.n 189006 pawake26_189006 (.n 189004 pawake26_189004 (.n 189001 pawake26_189001 (.e) (.e)) (.e)) (.n 189009 pawake26_189009 (.n 189008 pawake26_189008 (.e) (.e)) (.e))) (.n 234000 pawake26_234000 (.n 204004 pawake26_204004 (.n 203005 pawake26_203005 (.e) (.e)) (.e)) (.n 236000 pawake26_236000 (.e) (.e))))) (g * 1000 + r), prim := fun _ => none }, rfl, COk.of ⟨⟨Try.func143, eawake26_143⟩, ⟨⟨Try.func101, eawake26_101⟩, ⟨⟨Try.func58, eawake26_58⟩, ⟨⟨Try.func50, eawake26_50⟩, ⟨⟨Try.func45, eawake26_45⟩, ⟨⟨Try.func43, eawake26_43⟩, trivial, trivial⟩, ⟨⟨Try.func48, eawake26_48⟩, trivial, trivial⟩⟩, ⟨⟨Try.func57, eawake26_57⟩, ⟨⟨Try.func52, eawake26_52⟩, trivial, trivial⟩, trivial⟩⟩, ⟨⟨Try.func85, eawake26_85⟩, ⟨⟨Try.func69, eawake26_69⟩, ⟨⟨Try.func68, eawake26_68⟩, trivial, trivial⟩, trivial⟩, ⟨⟨Try.func100, eawake26_100⟩, ⟨⟨Try.func92, eawake26_92⟩, trivial, trivial⟩, trivial⟩⟩⟩, ⟨⟨Try.func110, eawake26_110⟩, ⟨⟨Try.func105, eawake26_105⟩, ⟨⟨Try.func103, eawake26_103⟩, ⟨⟨Try.func102, eawake26_102⟩, trivial, trivial⟩, ⟨⟨Try.func104, eawake26_104⟩, trivial, trivial⟩⟩, ⟨⟨Try.func109, eawake26_109⟩, ⟨⟨Try.func106, eawake26_106⟩, trivial, trivial⟩, trivial⟩⟩, ⟨⟨Try.func134, eawake26_134⟩, ⟨⟨Try.func115, eawake26_115⟩, ⟨⟨Try.func114, eawake26_114⟩, trivial, trivial⟩, trivial⟩, ⟨⟨Try.func142, eawake26_142⟩, ⟨⟨Try.func141, eawake26_141⟩, trivial, trivial⟩, trivial⟩⟩⟩⟩, ⟨⟨Try.func189, eawake26_189⟩, ⟨⟨Try.func168, eawake26_168⟩, ⟨⟨Try.func152, eawake26_152⟩, ⟨⟨Try.func145, eawake26_145⟩, ⟨⟨Try.func144, eawake26_144⟩, trivial, trivial⟩, ⟨⟨Try.func151, eawake26_151⟩, trivial, trivial⟩⟩, ⟨⟨Try.func162, eawake26_162⟩, ⟨⟨Try.func155, eawake26_155⟩, trivial, trivial⟩, trivial⟩⟩, ⟨⟨Try.func172, eawake26_172⟩, ⟨⟨Try.func170, eawake26_170⟩, ⟨⟨Try.func169, eawake26_169⟩, trivial, trivial⟩, trivial⟩, ⟨⟨Try.func188, eawake26_188⟩, ⟨⟨Try.func187, eawake26_187⟩, trivial, trivial⟩, trivial⟩⟩⟩, ⟨⟨Try.func213, eawake26_213⟩, ⟨⟨Try.func203, eawake26_203⟩, ⟨⟨Try.func202, eawake26_202⟩, ⟨⟨Try.func192, eawake26_192⟩, trivial, trivial⟩, trivial⟩, ⟨⟨Try.func210, eawake26_210⟩, ⟨⟨Try.func204, eawake26_204⟩, trivial, trivial⟩, trivial⟩⟩, ⟨⟨Try.func234, eawake26_234⟩, ⟨⟨Try.func233, eawake26_233⟩, ⟨⟨Try.func232, eawake26_232⟩, trivial, trivial⟩, trivial⟩, ⟨⟨Try.func236, eawake26_236⟩, ⟨⟨Try.func235, eawake26_235⟩, trivial, trivial⟩, trivial⟩⟩⟩⟩⟩ mawake26, by kernel_rfl⟩
theorem awake26_fc {G : GH}  : Fc Try.prog 68 [] G [] (fun v _ _ => v = .bool true) := by
  obtain ⟨C, h1, h2, h3⟩ := vawake26
  rw [← h1]
  exact evB_ok h2 h3 (fun _ => .bool true) (fun _ => rfl) VRs.nil G
end Go.Proofs.Ytjbbookmgohamaa
