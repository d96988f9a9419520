/- The example of chapter 42 is run by the evaluator. -/
import Derived.Test.YtebkfinhhpelbaaGreatProg
import Derived.Test.YtebkfinhhpelbaaGreatQwX5
namespace Go.Proofs.YtebkfinhhpelbaaGreat
open Go Go.Fw Go.RowKit
set_option maxRecDepth 1000000
set_option linter.unusedVariables false
set_option linter.unusedSimpArgs false
set_option linter.unnecessarySimpa false
theorem eawake42_20 : Callable Tryz.prog 20 := callable_of Tryz.func20 rfl (by decide)
theorem eawake42_37 : Callable Tryz.prog 37 := callable_of Tryz.func37 rfl (by decide)
theorem eawake42_39 : Callable Tryz.prog 39 := callable_of Tryz.func39 rfl (by decide)
theorem eawake42_74 : Callable Tryz.prog 74 := callable_of Tryz.func74 rfl (by decide)
theorem eawake42_75 : Callable Tryz.prog 75 := callable_of Tryz.func75 rfl (by decide)
theorem eawake42_77 : Callable Tryz.prog 77 := callable_of Tryz.func77 rfl (by decide)
theorem eawake42_82 : Callable Tryz.prog 82 := callable_of Tryz.func82 rfl (by decide)
theorem eawake42_83 : Callable Tryz.prog 83 := callable_of Tryz.func83 rfl (by decide)
theorem eawake42_84 : Callable Tryz.prog 84 := callable_of Tryz.func84 rfl (by decide)
theorem eawake42_85 : Callable Tryz.prog 85 := callable_of Tryz.func85 rfl (by decide)
theorem eawake42_88 : Callable Tryz.prog 88 := callable_of Tryz.func88 rfl (by decide)
theorem eawake42_89 : Callable Tryz.prog 89 := callable_of Tryz.func89 rfl (by decide)
theorem eawake42_90 : Callable Tryz.prog 90 := callable_of Tryz.func90 rfl (by decide)
theorem eawake42_105 : Callable Tryz.prog 105 := callable_of Tryz.func105 rfl (by decide)
theorem eawake42_106 : Callable Tryz.prog 106 := callable_of Tryz.func106 rfl (by decide)
theorem eawake42_108 : Callable Tryz.prog 108 := callable_of Tryz.func108 rfl (by decide)
theorem eawake42_137 : Callable Tryz.prog 137 := callable_of Tryz.func137 rfl (by decide)
theorem eawake42_138 : Callable Tryz.prog 138 := callable_of Tryz.func138 rfl (by decide)
theorem eawake42_139 : Callable Tryz.prog 139 := callable_of Tryz.func139 rfl (by decide)
theorem eawake42_143 : Callable Tryz.prog 143 := callable_of Tryz.func143 rfl (by decide)
theorem eawake42_145 : Callable Tryz.prog 145 := callable_of Tryz.func145 rfl (by decide)
theorem eawake42_146 : Callable Tryz.prog 146 := callable_of Tryz.func146 rfl (by decide)
theorem eawake42_147 : Callable Tryz.prog 147 := callable_of Tryz.func147 rfl (by decide)
theorem eawake42_150 : Callable Tryz.prog 150 := callable_of Tryz.func150 rfl (by decide)
theorem eawake42_152 : Callable Tryz.prog 152 := callable_of Tryz.func152 rfl (by decide)
theorem eawake42_153 : Callable Tryz.prog 153 := callable_of Tryz.func153 rfl (by decide)
theorem eawake42_167 : Callable Tryz.prog 167 := callable_of Tryz.func167 rfl (by decide)
theorem eawake42_185 : Callable Tryz.prog 185 := callable_of Tryz.func185 rfl (by decide)
theorem eawake42_186 : Callable Tryz.prog 186 := callable_of Tryz.func186 rfl (by decide)
theorem eawake42_187 : Callable Tryz.prog 187 := callable_of Tryz.func187 rfl (by decide)
theorem eawake42_189 : Callable Tryz.prog 189 := callable_of Tryz.func189 rfl (by decide)
theorem eawake42_190 : Callable Tryz.prog 190 := callable_of Tryz.func190 rfl (by decide)
theorem eawake42_191 : Callable Tryz.prog 191 := callable_of Tryz.func191 rfl (by decide)
theorem eawake42_194 : Callable Tryz.prog 194 := callable_of Tryz.func194 rfl (by decide)
theorem eawake42_195 : Callable Tryz.prog 195 := callable_of Tryz.func195 rfl (by decide)
theorem eawake42_197 : Callable Tryz.prog 197 := callable_of Tryz.func197 rfl (by decide)
theorem eawake42_198 : Callable Tryz.prog 198 := callable_of Tryz.func198 rfl (by decide)
theorem eawake42_212 : Callable Tryz.prog 212 := callable_of Tryz.func212 rfl (by decide)
theorem eawake42_213 : Callable Tryz.prog 213 := callable_of Tryz.func213 rfl (by decide)
theorem eawake42_214 : Callable Tryz.prog 214 := callable_of Tryz.func214 rfl (by decide)
theorem eawake42_215 : Callable Tryz.prog 215 := callable_of Tryz.func215 rfl (by decide)
theorem eawake42_216 : Callable Tryz.prog 216 := callable_of Tryz.func216 rfl (by decide)
theorem eawake42_217 : Callable Tryz.prog 217 := callable_of Tryz.func217 rfl (by decide)
theorem eawake42_218 : Callable Tryz.prog 218 := callable_of Tryz.func218 rfl (by decide)
theorem eawake42_225 : Callable Tryz.prog 225 := callable_of Tryz.func225 rfl (by decide)
theorem eawake42_226 : Callable Tryz.prog 226 := callable_of Tryz.func226 rfl (by decide)
theorem eawake42_227 : Callable Tryz.prog 227 := callable_of Tryz.func227 rfl (by decide)
theorem eawake42_228 : Callable Tryz.prog 228 := callable_of Tryz.func228 rfl (by decide)
theorem eawake42_233 : Callable Tryz.prog 233 := callable_of Tryz.func233 rfl (by decide)
theorem eawake42_235 : Callable Tryz.prog 235 := callable_of Tryz.func235 rfl (by decide)
theorem eawake42_238 : Callable Tryz.prog 238 := callable_of Tryz.func238 rfl (by decide)
theorem eawake42_239 : Callable Tryz.prog 239 := callable_of Tryz.func239 rfl (by decide)
theorem eawake42_259 : Callable Tryz.prog 259 := callable_of Tryz.func259 rfl (by decide)
theorem eawake42_260 : Callable Tryz.prog 260 := callable_of Tryz.func260 rfl (by decide)
theorem eawake42_261 : Callable Tryz.prog 261 := callable_of Tryz.func261 rfl (by decide)
theorem eawake42_262 : Callable Tryz.prog 262 := callable_of Tryz.func262 rfl (by decide)
def pawake42_88001 : Plan := .step 0 (.step 1 (.step 2 (.step 3 (.step 4 (.step 5 (.step 6 (.alts [7] (.alt 7 [2, 4, 6, 1, 3, 5] (.alts [8] (.alt 8 [0, 7, 2, 4, 6, 1, 3, 5] (.alts [9] (.alt 9 [0, 2, 4, 6] (.done) (.stop))) (.stop))) (.stop)))))))))
def pawake42_89001 : Plan := .step 0 (.step 1 (.step 3 (.step 4 (.alts [2] (.alt 2 [1] (.alts [5] (.alt 5 [2, 3, 4, 0, 1] (.alts [6] (.alt 6 [2, 5, 0, 1, 3, 4] (.step 7 (.done)) (.stop))) (.stop))) (.stop))))))
def pawake42_90005 : Plan := .step 0 (.step 1 (.step 2 (.step 3 (.step 4 (.step 5 (.alts [6] (.alt 6 [3, 4, 5, 2, 1, 0] (.done) (.stop))))))))
def pawake42_90009 : Plan := .step 0 (.step 1 (.step 2 (.step 3 (.step 4 (.alts [5, 7] (.alt 5 [3, 4, 2] (.alts [6, 7] (.alt 6 [1, 5, 0, 3, 4, 2] (.alts [7] (.alt 7 [] (.alts [8] (.alt 8 [1, 3] (.done) (.stop))) (.stop))) (.alt 7 [] (.alts [6] (.alt 6 [1, 5, 0, 3, 4, 2] (.alts [8] (.alt 8 [1, 3] (.done) (.stop))) (.stop))) (.stop)))) (.alt 7 [] (.alts [5] (.alt 5 [3, 4, 2] (.alts [6] (.alt 6 [1, 5, 0, 3, 4, 2] (.alts [8] (.alt 8 [1, 3] (.done) (.stop))) (.stop))) (.stop))) (.stop))))))))
def pawake42_90010 : Plan := .step 0 (.step 1 (.step 2 (.step 4 (.step 5 (.step 6 (.alts [3] (.alt 3 [1, 2, 0] (.alts [7] (.alt 7 [3, 5, 6, 1, 2, 4, 0] (.alts [8] (.alt 8 [3, 7, 1, 2, 5, 6, 0, 4] (.alts [9] (.alt 9 [7, 8, 3, 5, 6, 1, 2, 4, 0] (.step 10 (.done)) (.stop))) (.stop))) (.stop))) (.stop))))))))
def pawake42_137004 : Plan := .step 0 (.step 2 (.alts [1, 4] (.alt 1 [0] (.alts [3, 4] (.alt 3 [1, 2, 0] (.alts [4] (.alt 4 [] (.alts [5] (.alt 5 [0, 2] (.done) (.stop))) (.stop))) (.alt 4 [] (.alts [3] (.alt 3 [1, 2, 0] (.alts [5] (.alt 5 [0, 2] (.done) (.stop))) (.stop))) (.stop)))) (.alt 4 [] (.alts [1] (.alt 1 [0] (.alts [3] (.alt 3 [1, 2, 0] (.alts [5] (.alt 5 [0, 2] (.done) (.stop))) (.stop))) (.stop))) (.stop)))))
def pawake42_137005 : Plan := .step 0 (.step 1 (.step 2 (.step 3 (.step 4 (.step 5 (.step 6 (.alts [7] (.alt 7 [1] (.step 8 (.alts [9] (.alt 9 [1, 3] (.step 10 (.alts [11] (.alt 11 [1, 3, 5] (.done) (.stop)))) (.stop)))) (.stop)))))))))
def pawake42_185001 : Plan := .step 0 (.step 2 (.alts [1] (.alt 1 [0] (.alts [3] (.alt 3 [1, 2, 0] (.step 4 (.done)) (.stop))) (.stop))))
def pawake42_198003 : Plan := .step 0 (.step 1 (.step 2 (.step 3 (.step 4 (.step 5 (.alts [6] (.alt 6 [3, 5, 4] (.alts [7] (.alt 7 [0, 2, 6, 1, 3, 5, 4] (.step 8 (.done)) (.stop))) (.stop))))))))
def pawake42_227011 : Plan := .step 0 (.step 1 (.step 2 (.step 3 (.step 4 (.step 5 (.step 6 (.step 7 (.alts [8] (.alt 8 [4, 7, 0, 3, 5, 6, 1, 2] (.done) (.stop))))))))))
def pawake42_227015 : Plan := .step 0 (.step 1 (.step 2 (.step 3 (.step 4 (.step 5 (.step 6 (.step 7 (.alts [8] (.alt 8 [4, 7, 0, 3, 5, 6, 1, 2] (.done) (.stop))))))))))
def pawake42_228005 : Plan := .step 0 (.step 1 (.step 2 (.step 3 (.step 4 (.step 5 (.alts [6] (.alt 6 [2, 5, 0, 1, 3, 4] (.step 7 (.done)) (.stop))))))))
def pawake42_239003 : Plan := .step 0 (.step 1 (.step 2 (.step 3 (.step 4 (.step 5 (.step 6 (.step 7 (.step 8 (.step 9 (.step 10 (.step 11 (.step 12 (.alts [13] (.alt 13 [0, 1, 4, 5, 6, 7, 11, 12, 10, 8, 9] (.step 14 (.alts [15] (.alt 15 [7, 11] (.done) (.stop)))) (.stop)))))))))))))))
def pawake42_259001 : Plan := .step 0 (.step 1 (.step 2 (.step 3 (.step 4 (.step 5 (.step 6 (.step 7 (.alts [8, 9] (.alt 8 [] (.alts [9] (.alt 9 [] (.alts [10] (.alt 10 [3] (.alts [11] (.alt 11 [3, 7] (.done) (.stop))) (.stop))) (.stop))) (.alt 9 [] (.alts [8] (.alt 8 [] (.alts [10] (.alt 10 [3] (.alts [11] (.alt 11 [3, 7] (.done) (.stop))) (.stop))) (.stop))) (.stop)))))))))))
def pawake42_261000 : Plan := .step 0 (.step 1 (.step 2 (.step 3 (.step 4 (.step 5 (.alts [6] (.alt 6 [5, 4] (.alts [7] (.alt 7 [3, 6, 2, 5, 1, 4] (.step 8 (.alts [9] (.alt 9 [3] (.done) (.stop)))) (.stop))) (.stop))))))))
def pawake42_262000 : Plan := .step 0 (.step 1 (.step 2 (.step 3 (.step 4 (.step 5 (.step 6 (.step 7 (.step 8 (.step 9 (.step 10 (.step 11 (.step 12 (.alts [13] (.alt 13 [0, 1, 4, 5, 6, 7, 11, 12, 10, 8, 9] (.step 14 (.alts [15] (.alt 15 [7, 11] (.done) (.stop)))) (.stop)))))))))))))))
theorem mawake42 : Tryz.prog.follows .mixedOrders = true := by kernel_rfl
theorem vawake42 : ∃ C : Ctx, C.P = Tryz.prog ∧ COk C ∧ evB C 1000000 37 [] = some true :=
  ⟨{ P := Tryz.prog, fn := FT.get (.n 186 Tryz.f186 (.n 106 Tryz.f106 (.n 83 Tryz.f83 (.n 74 Tryz.f74 (.n 37 Tryz.f37 (.n 20 Tryz.f20 (.e) (.e)) (.n 39 Tryz.f39 (.e) (.e))) (.n 77 Tryz.f77 (.n 75 Tryz.f75 (.e) (.e)) (.n 82 Tryz.f82 (.e) (.e)))) (.n 89 Tryz.f89 (.n 85 Tryz.f85 (.n 84 Tryz.f84 (.e) (.e)) (.n 88 Tryz.f88 (.e) (.e))) (.n 105 Tryz.f105 (.n 90 Tryz.f90 (.e) (.e)) (.e)))) (.n 146 Tryz.f146 (.n 139 Tryz.f139 (.n 137 Tryz.f137 (.n 108 Tryz.f108 (.e) (.e)) (.n 138 Tryz.f138 (.e) (.e))) (.n 145 Tryz.f145 (.n 143 Tryz.f143 (.e) (.e)) (.e))) (.n 153 Tryz.f153 (.n 150 Tryz.f150 (.n 147 Tryz.f147 (.e) (.e)) (.n 152 Tryz.f152 (.e) (.e))) (.n 185 Tryz.f185 (.n 167 Tryz.f167 (.e) (.e)) (.e))))) (.n 217 Tryz.f217 (.n 197 Tryz.f197 (.n 191 Tryz.f191 (.n 189 Tryz.f189 (.n 187 Tryz.f187 (.e) (.e)) (.n 190 Tryz.f190 (.e) (.e))) (.n 195 Tryz.f195 (.n 194 Tryz.f194 (.e) (.e)) (.e))) (.n 214 Tryz.f214 (.n 212 Tryz.f212 (.n 198 Tryz.f198 (.e) (.e)) (.n 213 Tryz.f213 (.e) (.e))) (.n 216 Tryz.f216 (.n 215 Tryz.f215 (.e) (.e)) (.e)))) (.n 235 Tryz.f235 (.n 227 Tryz.f227 (.n 225 Tryz.f225 (.n 218 Tryz.f218 (.e) (.e)) (.n 226 Tryz.f226 (.e) (.e))) (.n 233 Tryz.f233 (.n 228 Tryz.f228 (.e) (.e)) (.e))) (.n 260 Tryz.f260 (.n 239 Tryz.f239 (.n 238 Tryz.f238 (.e) (.e)) (.n 259 Tryz.f259 (.e) (.e))) (.n 262 Tryz.f262 (.n 261 Tryz.f261 (.e) (.e)) (.e)))))), plan := fun g r => PT.get (.n 198003 pawake42_198003 (.n 90010 pawake42_90010 (.n 90005 pawake42_90005 (.n 89001 pawake42_89001 (.n 88001 pawake42_88001 (.e) (.e)) (.e)) (.n 90009 pawake42_90009 (.e) (.e))) (.n 137005 pawake42_137005 (.n 137004 pawake42_137004 (.e) (.e)) (.n 185001 pawake42_185001 (.e) (.e)))) (.n 239003 pawake42_239003 (.n 227015 pawake42_227015 (.n 227011 pawake42_227011 (.e) (.e)) (.n 228005 pawake42_228005 (.e) (.e))) (.n 261000 pawake42_261000 (.n 259001 pawake42_259001 (.e) (.e)) (.n 262000 pawake42_262000 (.e) (.e))))) (g * 1000 + r), prim := fun _ => none }, rfl, COk.of ⟨⟨Tryz.func186, eawake42_186⟩, ⟨⟨Tryz.func106, eawake42_106⟩, ⟨⟨Tryz.func83, eawake42_83⟩, ⟨⟨Tryz.func74, eawake42_74⟩, ⟨⟨Tryz.func37, eawake42_37⟩, ⟨⟨Tryz.func20, eawake42_20⟩, trivial, trivial⟩, ⟨⟨Tryz.func39, eawake42_39⟩, trivial, trivial⟩⟩, ⟨⟨Tryz.func77, eawake42_77⟩, ⟨⟨Tryz.func75, eawake42_75⟩, trivial, trivial⟩, ⟨⟨Tryz.func82, eawake42_82⟩, trivial, trivial⟩⟩⟩, ⟨⟨Tryz.func89, eawake42_89⟩, ⟨⟨Tryz.func85, eawake42_85⟩, ⟨⟨Tryz.func84, eawake42_84⟩, trivial, trivial⟩, ⟨⟨Tryz.func88, eawake42_88⟩, trivial, trivial⟩⟩, ⟨⟨Tryz.func105, eawake42_105⟩, ⟨⟨Tryz.func90, eawake42_90⟩, trivial, trivial⟩, trivial⟩⟩⟩, ⟨⟨Tryz.func146, eawake42_146⟩, ⟨⟨Tryz.func139, eawake42_139⟩, ⟨⟨Tryz.func137, eawake42_137⟩, ⟨⟨Tryz.func108, eawake42_108⟩, trivial, trivial⟩, ⟨⟨Tryz.func138, eawake42_138⟩, trivial, trivial⟩⟩, ⟨⟨Tryz.func145, eawake42_145⟩, ⟨⟨Tryz.func143, eawake42_143⟩, trivial, trivial⟩, trivial⟩⟩, ⟨⟨Tryz.func153, eawake42_153⟩, ⟨⟨Tryz.func150, eawake42_150⟩, ⟨⟨Tryz.func147, eawake42_147⟩, trivial, trivial⟩, ⟨⟨Tryz.func152, eawake42_152⟩, trivial, trivial⟩⟩, ⟨⟨Tryz.func185, eawake42_185⟩, ⟨⟨Tryz.func167, eawake42_167⟩, trivial, trivial⟩, trivial⟩⟩⟩⟩, ⟨⟨Tryz.func217, eawake42_217⟩, ⟨⟨Tryz.func197, eawake42_197⟩, ⟨⟨Tryz.func191, eawake42_191⟩, ⟨⟨Tryz.func189, eawake42_189⟩, ⟨⟨Tryz.func187, eawake42_187⟩, trivial, trivial⟩, ⟨⟨Tryz.func190, eawake42_190⟩, trivial, trivial⟩⟩, ⟨⟨Tryz.func195, eawake42_195⟩, ⟨⟨Tryz.func194, eawake42_194⟩, trivial, trivial⟩, trivial⟩⟩, ⟨⟨Tryz.func214, eawake42_214⟩, ⟨⟨Tryz.func212, eawake42_212⟩, ⟨⟨Tryz.func198, eawake42_198⟩, trivial, trivial⟩, ⟨⟨Tryz.func213, eawake42_213⟩, trivial, trivial⟩⟩, ⟨⟨Tryz.func216, eawake42_216⟩, ⟨⟨Tryz.func215, eawake42_215⟩, trivial, trivial⟩, trivial⟩⟩⟩, ⟨⟨Tryz.func235, eawake42_235⟩, ⟨⟨Tryz.func227, eawake42_227⟩, ⟨⟨Tryz.func225, eawake42_225⟩, ⟨⟨Tryz.func218, eawake42_218⟩, trivial, trivial⟩, ⟨⟨Tryz.func226, eawake42_226⟩, trivial, trivial⟩⟩, ⟨⟨Tryz.func233, eawake42_233⟩, ⟨⟨Tryz.func228, eawake42_228⟩, trivial, trivial⟩, trivial⟩⟩, ⟨⟨Tryz.func260, eawake42_260⟩, ⟨⟨Tryz.func239, eawake42_239⟩, ⟨⟨Tryz.func238, eawake42_238⟩, trivial, trivial⟩, ⟨⟨Tryz.func259, eawake42_259⟩, trivial, trivial⟩⟩, ⟨⟨Tryz.func262, eawake42_262⟩, ⟨⟨Tryz.func261, eawake42_261⟩, trivial, trivial⟩, trivial⟩⟩⟩⟩⟩ mawake42, by kernel_rfl⟩
theorem awake42_fc {G : GH}  : Fc Tryz.prog 37 [] G [] (fun v _ _ => v = .bool true) := by
  obtain ⟨C, h1, h2, h3⟩ := vawake42
  rw [← h1]
  exact evB_ok h2 h3 (fun _ => .bool true) (fun _ => rfl) VRs.nil G
end Go.Proofs.YtebkfinhhpelbaaGreat
