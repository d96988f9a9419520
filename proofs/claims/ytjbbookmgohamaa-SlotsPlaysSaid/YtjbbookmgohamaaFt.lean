/- Facts on types and functions of this seat, by program (seat.py). No condition. -/
import Derived.Test.YtjbbookmgohamaaX2
import Derived.Test.YtjbbookmgohamaaProg
namespace Go.Proofs.Ytjbbookmgohamaa
open Go.Fw
set_option maxRecDepth 100000
theorem ty23 : tyK Try.prog 23 = some (true, 5) := by kernel_rfl
theorem zr23 : zeroK Try.prog 23 = some [.int .i64 0, .int .i64 0, .int .i64 0, .int .i64 0, .int .i64 0] := by kernel_rfl
theorem sl24 : sliceK Try.prog 24 = some 35 := by kernel_rfl
theorem ty35 : tyK Try.prog 35 = some (true, 10) := by kernel_rfl
theorem zr35 : zeroK Try.prog 35 = some [.int .i64 0, .int .i64 0, .slice none 0 0, .slice none 0 0, .string ⟨#[]⟩, .bool false, .int .i64 0, .int .i64 0, .slice none 0 0, .slice none 0 0] := by kernel_rfl
theorem by35 : bytesK Try.prog 35 = some 152 := by kernel_rfl
theorem sl27 : sliceK Try.prog 27 = some 39 := by kernel_rfl
theorem ty39 : tyK Try.prog 39 = some (true, 14) := by kernel_rfl
theorem zr39 : zeroK Try.prog 39 = some [.int .i64 0, .int .i64 0, .slice none 0 0, .slice none 0 0, .string ⟨#[]⟩, .bool false, .int .i64 0, .int .i64 0, .slice none 0 0, .slice none 0 0, .string ⟨#[]⟩, .string ⟨#[]⟩, .bool false, .slice none 0 0] := by kernel_rfl
theorem by39 : bytesK Try.prog 39 = some 216 := by kernel_rfl
theorem fd39_0 : fieldK Try.prog 39 0 = some 0 := by kernel_rfl
theorem fd35_1 : fieldK Try.prog 35 1 = some 1 := by kernel_rfl
theorem ty3 : tyK Try.prog 3 = some (false, 1) := by kernel_rfl
theorem zr3 : zeroK Try.prog 3 = some [.int .i64 0] := by kernel_rfl
theorem fd35_0 : fieldK Try.prog 35 0 = some 0 := by kernel_rfl
theorem sl30 : sliceK Try.prog 30 = some 3 := by kernel_rfl
theorem by3 : bytesK Try.prog 3 = some 8 := by kernel_rfl
theorem fd35_9 : fieldK Try.prog 35 9 = some 9 := by kernel_rfl
theorem ty31 : tyK Try.prog 31 = some (false, 1) := by kernel_rfl
theorem zr31 : zeroK Try.prog 31 = some [.slice none 0 0] := by kernel_rfl
theorem sl31 : sliceK Try.prog 31 = some 93 := by kernel_rfl
theorem ty93 : tyK Try.prog 93 = some (true, 2) := by kernel_rfl
theorem zr93 : zeroK Try.prog 93 = some [.string ⟨#[]⟩, .string ⟨#[]⟩] := by kernel_rfl
theorem by93 : bytesK Try.prog 93 = some 32 := by kernel_rfl
theorem fd35_3 : fieldK Try.prog 35 3 = some 3 := by kernel_rfl
theorem ty30 : tyK Try.prog 30 = some (false, 1) := by kernel_rfl
theorem zr30 : zeroK Try.prog 30 = some [.slice none 0 0] := by kernel_rfl
theorem fd23_0 : fieldK Try.prog 23 0 = some 0 := by kernel_rfl
theorem bo4 : Try.prog.underlying 4 = some .bool := by kernel_rfl
theorem pp48 : ptrT Try.prog 48 = true := by kernel_rfl
theorem sl47 : sliceK Try.prog 47 = some 56 := by kernel_rfl
theorem ty56 : tyK Try.prog 56 = some (true, 3) := by kernel_rfl
theorem zr56 : zeroK Try.prog 56 = some [.int .i64 0, .int .i64 0, .int .i64 0] := by kernel_rfl
theorem by56 : bytesK Try.prog 56 = some 24 := by kernel_rfl
theorem fd56_0 : fieldK Try.prog 56 0 = some 0 := by kernel_rfl
theorem un3 : Try.prog.underlying 3 = some (.int .i64) := by kernel_rfl
theorem un57 : Try.prog.underlying 57 = some (.int .u64) := by kernel_rfl
theorem fd56_1 : fieldK Try.prog 56 1 = some 1 := by kernel_rfl
theorem fd62_1 : fieldK Try.prog 62 1 = some 1 := by kernel_rfl
theorem ty60 : tyK Try.prog 60 = some (false, 1) := by kernel_rfl
theorem zr60 : zeroK Try.prog 60 = some [.slice none 0 0] := by kernel_rfl
theorem sl60 : sliceK Try.prog 60 = some 4 := by kernel_rfl
theorem ty4 : tyK Try.prog 4 = some (false, 1) := by kernel_rfl
theorem zr4 : zeroK Try.prog 4 = some [.bool false] := by kernel_rfl
theorem by4 : bytesK Try.prog 4 = some 1 := by kernel_rfl
theorem fd56_2 : fieldK Try.prog 56 2 = some 2 := by kernel_rfl
theorem fd62_0 : fieldK Try.prog 62 0 = some 0 := by kernel_rfl
theorem pp79 : ptrT Try.prog 79 = true := by kernel_rfl
theorem sl78 : sliceK Try.prog 78 = some 86 := by kernel_rfl
theorem ty86 : tyK Try.prog 86 = some (true, 11) := by kernel_rfl
theorem zr86 : zeroK Try.prog 86 = some [.int .i64 0, .int .i64 0, .int .i64 0, .slice none 0 0, .slice none 0 0, .string ⟨#[]⟩, .bool false, .int .i64 0, .int .i64 0, .slice none 0 0, .slice none 0 0] := by kernel_rfl
theorem by86 : bytesK Try.prog 86 = some 160 := by kernel_rfl
theorem fd86_1 : fieldK Try.prog 86 1 = some 1 := by kernel_rfl
theorem fd86_0 : fieldK Try.prog 86 0 = some 0 := by kernel_rfl
theorem fd93_1 : fieldK Try.prog 93 1 = some 1 := by kernel_rfl
theorem ty9 : tyK Try.prog 9 = some (false, 1) := by kernel_rfl
theorem zr9 : zeroK Try.prog 9 = some [.string ⟨#[]⟩] := by kernel_rfl
theorem fd96_1 : fieldK Try.prog 96 1 = some 5 := by kernel_rfl
theorem ty24 : tyK Try.prog 24 = some (false, 1) := by kernel_rfl
theorem zr24 : zeroK Try.prog 24 = some [.slice none 0 0] := by kernel_rfl
theorem pl35 : placesK Try.prog 35 = some [(0, 1), (1, 1), (2, 1), (3, 1), (4, 1), (5, 1), (6, 1), (7, 1), (8, 1), (9, 1)] := by kernel_rfl
theorem fd23_3 : fieldK Try.prog 23 3 = some 3 := by kernel_rfl
theorem eq23 : fieldKs Try.prog 23 = some [.int .i64, .int .i64, .int .i64, .int .i64, .int .i64] := by kernel_rfl
theorem ty37 : tyK Try.prog 37 = some (true, 3) := by kernel_rfl
theorem zr37 : zeroK Try.prog 37 = some [.string ⟨#[]⟩, .string ⟨#[]⟩, .bool false] := by kernel_rfl
theorem sl101 : sliceK Try.prog 101 = some 33 := by kernel_rfl
theorem ty33 : tyK Try.prog 33 = some (false, 1) := by kernel_rfl
theorem zr33 : zeroK Try.prog 33 = some [.slice none 0 0] := by kernel_rfl
theorem by33 : bytesK Try.prog 33 = some 24 := by kernel_rfl
theorem st9 : Try.prog.underlying 9 = some .string := by kernel_rfl
theorem sl33 : sliceK Try.prog 33 = some 162 := by kernel_rfl
theorem ty162 : tyK Try.prog 162 = some (true, 6) := by kernel_rfl
theorem zr162 : zeroK Try.prog 162 = some [.int .i64 0, .int .i64 0, .string ⟨#[]⟩, .string ⟨#[]⟩, .bool false, .string ⟨#[]⟩] := by kernel_rfl
theorem by162 : bytesK Try.prog 162 = some 72 := by kernel_rfl
theorem fd35_8 : fieldK Try.prog 35 8 = some 8 := by kernel_rfl
theorem fd35_7 : fieldK Try.prog 35 7 = some 7 := by kernel_rfl
theorem pl37 : placesK Try.prog 37 = some [(0, 1), (1, 1), (2, 1)] := by kernel_rfl
theorem pl39 : placesK Try.prog 39 = some [(0, 10), (10, 3), (13, 1)] := by kernel_rfl
theorem fd35_2 : fieldK Try.prog 35 2 = some 2 := by kernel_rfl
theorem ty32 : tyK Try.prog 32 = some (false, 1) := by kernel_rfl
theorem zr32 : zeroK Try.prog 32 = some [.slice none 0 0] := by kernel_rfl
theorem sl32 : sliceK Try.prog 32 = some 9 := by kernel_rfl
theorem by9 : bytesK Try.prog 9 = some 16 := by kernel_rfl
theorem fd39_1 : fieldK Try.prog 39 1 = some 10 := by kernel_rfl
theorem fd39_2 : fieldK Try.prog 39 2 = some 13 := by kernel_rfl
theorem eq93 : fieldKs Try.prog 93 = some [.string, .string] := by kernel_rfl
theorem ty127 : tyK Try.prog 127 = some (true, 3) := by kernel_rfl
theorem zr127 : zeroK Try.prog 127 = some [.slice none 0 0, .slice none 0 0, .slice none 0 0] := by kernel_rfl
theorem pl127 : placesK Try.prog 127 = some [(0, 1), (1, 1), (2, 1)] := by kernel_rfl
theorem fd127_2 : fieldK Try.prog 127 2 = some 2 := by kernel_rfl
theorem ty125 : tyK Try.prog 125 = some (false, 1) := by kernel_rfl
theorem zr125 : zeroK Try.prog 125 = some [.slice none 0 0] := by kernel_rfl
theorem sl125 : sliceK Try.prog 125 = some 3 := by kernel_rfl
theorem pi129 : plainT Try.prog 129 = true := by kernel_rfl
theorem ty62 : tyK Try.prog 62 = some (true, 2) := by kernel_rfl
theorem zr62 : zeroK Try.prog 62 = some [.slice none 0 0, .slice none 0 0] := by kernel_rfl
theorem pl62 : placesK Try.prog 62 = some [(0, 1), (1, 1)] := by kernel_rfl
theorem fd127_0 : fieldK Try.prog 127 0 = some 0 := by kernel_rfl
theorem fd127_1 : fieldK Try.prog 127 1 = some 1 := by kernel_rfl
theorem pi3 : plainT Try.prog 3 = true := by kernel_rfl
theorem fd35_4 : fieldK Try.prog 35 4 = some 4 := by kernel_rfl
theorem pl23 : placesK Try.prog 23 = some [(0, 1), (1, 1), (2, 1), (3, 1), (4, 1)] := by kernel_rfl
theorem sl139 : sliceK Try.prog 139 = some 144 := by kernel_rfl
theorem ty144 : tyK Try.prog 144 = some (true, 13) := by kernel_rfl
theorem zr144 : zeroK Try.prog 144 = some [.int .i64 0, .int .i64 0, .slice none 0 0, .slice none 0 0, .string ⟨#[]⟩, .bool false, .int .i64 0, .int .i64 0, .slice none 0 0, .slice none 0 0, .string ⟨#[]⟩, .string ⟨#[]⟩, .bool false] := by kernel_rfl
theorem by144 : bytesK Try.prog 144 = some 192 := by kernel_rfl
theorem fd23_1 : fieldK Try.prog 23 1 = some 1 := by kernel_rfl
theorem fd144_0 : fieldK Try.prog 144 0 = some 0 := by kernel_rfl
theorem pp146 : ptrT Try.prog 146 = true := by kernel_rfl
theorem fd150_3 : fieldK Try.prog 150 3 = some 7 := by kernel_rfl
theorem fd150_1 : fieldK Try.prog 150 1 = some 5 := by kernel_rfl
theorem ty122 : tyK Try.prog 122 = some (false, 1) := by kernel_rfl
theorem zr122 : zeroK Try.prog 122 = some [.map none] := by kernel_rfl
theorem pt35_1 : partK Try.prog 35 1 = some (false, 1, 1) := by kernel_rfl
theorem ty155 : tyK Try.prog 155 = some (true, 6) := by kernel_rfl
theorem zr155 : zeroK Try.prog 155 = some [.int .i64 0, .int .i64 0, .int .i64 0, .int .i64 0, .int .i64 0, .pointer none] := by kernel_rfl
theorem pl155 : placesK Try.prog 155 = some [(0, 5), (5, 1)] := by kernel_rfl
theorem fd23_2 : fieldK Try.prog 23 2 = some 2 := by kernel_rfl
theorem fd23_4 : fieldK Try.prog 23 4 = some 4 := by kernel_rfl
theorem ty96 : tyK Try.prog 96 = some (true, 6) := by kernel_rfl
theorem zr96 : zeroK Try.prog 96 = some [.int .i64 0, .int .i64 0, .int .i64 0, .int .i64 0, .int .i64 0, .slice none 0 0] := by kernel_rfl
theorem pl96 : placesK Try.prog 96 = some [(0, 5), (5, 1)] := by kernel_rfl
theorem fd155_1 : fieldK Try.prog 155 1 = some 5 := by kernel_rfl
theorem ty151 : tyK Try.prog 151 = some (false, 1) := by kernel_rfl
theorem zr151 : zeroK Try.prog 151 = some [.pointer none] := by kernel_rfl
theorem fd96_0 : fieldK Try.prog 96 0 = some 0 := by kernel_rfl
theorem fd35_5 : fieldK Try.prog 35 5 = some 5 := by kernel_rfl
theorem fd35_6 : fieldK Try.prog 35 6 = some 6 := by kernel_rfl
theorem fd155_0 : fieldK Try.prog 155 0 = some 0 := by kernel_rfl
theorem fd37_0 : fieldK Try.prog 37 0 = some 0 := by kernel_rfl
theorem fd37_1 : fieldK Try.prog 37 1 = some 1 := by kernel_rfl
theorem pl162 : placesK Try.prog 162 = some [(0, 1), (1, 1), (2, 1), (3, 1), (4, 1), (5, 1)] := by kernel_rfl
theorem pl93 : placesK Try.prog 93 = some [(0, 1), (1, 1)] := by kernel_rfl
theorem fd162_0 : fieldK Try.prog 162 0 = some 0 := by kernel_rfl
theorem fd162_2 : fieldK Try.prog 162 2 = some 2 := by kernel_rfl
theorem fd162_3 : fieldK Try.prog 162 3 = some 3 := by kernel_rfl
theorem fd162_5 : fieldK Try.prog 162 5 = some 5 := by kernel_rfl
theorem eq162 : fieldKs Try.prog 162 = some [.int .i64, .int .i64, .string, .string, .bool, .string] := by kernel_rfl
theorem sl168 : sliceK Try.prog 168 = some 170 := by kernel_rfl
theorem ty170 : tyK Try.prog 170 = some (true, 2) := by kernel_rfl
theorem zr170 : zeroK Try.prog 170 = some [.slice none 0 0, .int .i64 0] := by kernel_rfl
theorem by170 : bytesK Try.prog 170 = some 32 := by kernel_rfl
theorem ty168 : tyK Try.prog 168 = some (false, 1) := by kernel_rfl
theorem zr168 : zeroK Try.prog 168 = some [.slice none 0 0] := by kernel_rfl
theorem pi166 : plainT Try.prog 166 = true := by kernel_rfl
theorem pl170 : placesK Try.prog 170 = some [(0, 1), (1, 1)] := by kernel_rfl
theorem pi170 : plainT Try.prog 170 = true := by kernel_rfl
theorem fd170_0 : fieldK Try.prog 170 0 = some 0 := by kernel_rfl
theorem ty178 : tyK Try.prog 178 = some (true, 3) := by kernel_rfl
theorem zr178 : zeroK Try.prog 178 = some [.map none, .map none, .nilFunc] := by kernel_rfl
theorem pl178 : placesK Try.prog 178 = some [(0, 1), (1, 1), (2, 1)] := by kernel_rfl
theorem ty174 : tyK Try.prog 174 = some (true, 4) := by kernel_rfl
theorem zr174 : zeroK Try.prog 174 = some [.string ⟨#[]⟩, .string ⟨#[]⟩, .bool false, .slice none 0 0] := by kernel_rfl
theorem pl174 : placesK Try.prog 174 = some [(0, 3), (3, 1)] := by kernel_rfl
theorem fd174_1 : fieldK Try.prog 174 1 = some 3 := by kernel_rfl
theorem fd37_2 : fieldK Try.prog 37 2 = some 2 := by kernel_rfl
theorem ty197 : tyK Try.prog 197 = some (true, 3) := by kernel_rfl
theorem zr197 : zeroK Try.prog 197 = some [.slice none 0 0, .slice none 0 0, .slice none 0 0] := by kernel_rfl
theorem pl197 : placesK Try.prog 197 = some [(0, 1), (1, 1), (2, 1)] := by kernel_rfl
theorem fd197_2 : fieldK Try.prog 197 2 = some 2 := by kernel_rfl
theorem pp130 : ptrT Try.prog 130 = true := by kernel_rfl
theorem fd197_0 : fieldK Try.prog 197 0 = some 0 := by kernel_rfl
theorem fd197_1 : fieldK Try.prog 197 1 = some 1 := by kernel_rfl
theorem fd93_0 : fieldK Try.prog 93 0 = some 0 := by kernel_rfl
theorem pl144 : placesK Try.prog 144 = some [(0, 10), (10, 3)] := by kernel_rfl
theorem fd144_1 : fieldK Try.prog 144 1 = some 10 := by kernel_rfl
theorem fd150_2 : fieldK Try.prog 150 2 = some 6 := by kernel_rfl
theorem ty148 : tyK Try.prog 148 = some (false, 1) := by kernel_rfl
theorem zr148 : zeroK Try.prog 148 = some [.map none] := by kernel_rfl
theorem ty207 : tyK Try.prog 207 = some (true, 3) := by kernel_rfl
theorem zr207 : zeroK Try.prog 207 = some [.slice none 0 0, .slice none 0 0, .slice none 0 0] := by kernel_rfl
theorem pl207 : placesK Try.prog 207 = some [(0, 1), (1, 1), (2, 1)] := by kernel_rfl
theorem fd207_2 : fieldK Try.prog 207 2 = some 2 := by kernel_rfl
theorem pp151 : ptrT Try.prog 151 = true := by kernel_rfl
theorem fd207_0 : fieldK Try.prog 207 0 = some 0 := by kernel_rfl
theorem fd207_1 : fieldK Try.prog 207 1 = some 1 := by kernel_rfl
theorem fd162_1 : fieldK Try.prog 162 1 = some 1 := by kernel_rfl
theorem fd162_4 : fieldK Try.prog 162 4 = some 4 := by kernel_rfl
theorem fd174_0 : fieldK Try.prog 174 0 = some 0 := by kernel_rfl
theorem fd178_0 : fieldK Try.prog 178 0 = some 0 := by kernel_rfl
theorem fd178_1 : fieldK Try.prog 178 1 = some 1 := by kernel_rfl
theorem fd178_2 : fieldK Try.prog 178 2 = some 2 := by kernel_rfl
theorem ty176 : tyK Try.prog 176 = some (false, 1) := by kernel_rfl
theorem zr176 : zeroK Try.prog 176 = some [.nilFunc] := by kernel_rfl
theorem eq37 : fieldKs Try.prog 37 = some [.string, .string, .bool] := by kernel_rfl
theorem ty150 : tyK Try.prog 150 = some (true, 8) := by kernel_rfl
theorem zr150 : zeroK Try.prog 150 = some [.int .i64 0, .int .i64 0, .int .i64 0, .int .i64 0, .int .i64 0, .map none, .map none, .slice none 0 0] := by kernel_rfl
theorem pl150 : placesK Try.prog 150 = some [(0, 5), (5, 1), (6, 1), (7, 1)] := by kernel_rfl
theorem fd150_0 : fieldK Try.prog 150 0 = some 0 := by kernel_rfl
theorem ty216 : tyK Try.prog 216 = some (true, 2) := by kernel_rfl
theorem zr216 : zeroK Try.prog 216 = some [.int .i64 0, .string ⟨#[]⟩] := by kernel_rfl
theorem fd216_0 : fieldK Try.prog 216 0 = some 0 := by kernel_rfl
theorem fd216_1 : fieldK Try.prog 216 1 = some 1 := by kernel_rfl
theorem pl216 : placesK Try.prog 216 = some [(0, 1), (1, 1)] := by kernel_rfl
theorem fd170_1 : fieldK Try.prog 170 1 = some 1 := by kernel_rfl
theorem cl3 : Callable Try.prog 3 := callable_of Try.func3 rfl (by decide)
theorem cl4 : Callable Try.prog 4 := callable_of Try.func4 rfl (by decide)
theorem cl5 : Callable Try.prog 5 := callable_of Try.func5 rfl (by decide)
theorem cl6 : Callable Try.prog 6 := callable_of Try.func6 rfl (by decide)
theorem cl7 : Callable Try.prog 7 := callable_of Try.func7 rfl (by decide)
theorem cl8 : Callable Try.prog 8 := callable_of Try.func8 rfl (by decide)
theorem cl9 : Callable Try.prog 9 := callable_of Try.func9 rfl (by decide)
theorem cl10 : Callable Try.prog 10 := callable_of Try.func10 rfl (by decide)
theorem cl11 : Callable Try.prog 11 := callable_of Try.func11 rfl (by decide)
theorem cl12 : Callable Try.prog 12 := callable_of Try.func12 rfl (by decide)
theorem cl13 : Callable Try.prog 13 := callable_of Try.func13 rfl (by decide)
theorem cl14 : Callable Try.prog 14 := callable_of Try.func14 rfl (by decide)
theorem cl15 : Callable Try.prog 15 := callable_of Try.func15 rfl (by decide)
theorem cl16 : Callable Try.prog 16 := callable_of Try.func16 rfl (by decide)
theorem cl17 : Callable Try.prog 17 := callable_of Try.func17 rfl (by decide)
theorem cl18 : Callable Try.prog 18 := callable_of Try.func18 rfl (by decide)
theorem cl19 : Callable Try.prog 19 := callable_of Try.func19 rfl (by decide)
theorem cl20 : Callable Try.prog 20 := callable_of Try.func20 rfl (by decide)
theorem cl21 : Callable Try.prog 21 := callable_of Try.func21 rfl (by decide)
theorem cl22 : Callable Try.prog 22 := callable_of Try.func22 rfl (by decide)
theorem cl23 : Callable Try.prog 23 := callable_of Try.func23 rfl (by decide)
theorem cl24 : Callable Try.prog 24 := callable_of Try.func24 rfl (by decide)
theorem cl25 : Callable Try.prog 25 := callable_of Try.func25 rfl (by decide)
theorem cl26 : Callable Try.prog 26 := callable_of Try.func26 rfl (by decide)
theorem cl27 : Callable Try.prog 27 := callable_of Try.func27 rfl (by decide)
theorem cl28 : Callable Try.prog 28 := callable_of Try.func28 rfl (by decide)
theorem cl29 : Callable Try.prog 29 := callable_of Try.func29 rfl (by decide)
theorem cl30 : Callable Try.prog 30 := callable_of Try.func30 rfl (by decide)
theorem cl31 : Callable Try.prog 31 := callable_of Try.func31 rfl (by decide)
theorem cl32 : Callable Try.prog 32 := callable_of Try.func32 rfl (by decide)
theorem cl33 : Callable Try.prog 33 := callable_of Try.func33 rfl (by decide)
theorem cl34 : Callable Try.prog 34 := callable_of Try.func34 rfl (by decide)
theorem cl35 : Callable Try.prog 35 := callable_of Try.func35 rfl (by decide)
theorem cl36 : Callable Try.prog 36 := callable_of Try.func36 rfl (by decide)
theorem cl37 : Callable Try.prog 37 := callable_of Try.func37 rfl (by decide)
theorem cl38 : Callable Try.prog 38 := callable_of Try.func38 rfl (by decide)
theorem cl39 : Callable Try.prog 39 := callable_of Try.func39 rfl (by decide)
theorem cl40 : Callable Try.prog 40 := callable_of Try.func40 rfl (by decide)
theorem cl41 : Callable Try.prog 41 := callable_of Try.func41 rfl (by decide)
theorem cl42 : Callable Try.prog 42 := callable_of Try.func42 rfl (by decide)
theorem cl43 : Callable Try.prog 43 := callable_of Try.func43 rfl (by decide)
theorem cl44 : Callable Try.prog 44 := callable_of Try.func44 rfl (by decide)
theorem cl45 : Callable Try.prog 45 := callable_of Try.func45 rfl (by decide)
theorem cl46 : Callable Try.prog 46 := callable_of Try.func46 rfl (by decide)
theorem cl47 : Callable Try.prog 47 := callable_of Try.func47 rfl (by decide)
theorem cl48 : Callable Try.prog 48 := callable_of Try.func48 rfl (by decide)
theorem cl49 : Callable Try.prog 49 := callable_of Try.func49 rfl (by decide)
theorem cl50 : Callable Try.prog 50 := callable_of Try.func50 rfl (by decide)
theorem cl51 : Callable Try.prog 51 := callable_of Try.func51 rfl (by decide)
theorem cl52 : Callable Try.prog 52 := callable_of Try.func52 rfl (by decide)
theorem cl53 : Callable Try.prog 53 := callable_of Try.func53 rfl (by decide)
theorem cl54 : Callable Try.prog 54 := callable_of Try.func54 rfl (by decide)
theorem cl55 : Callable Try.prog 55 := callable_of Try.func55 rfl (by decide)
theorem cl56 : Callable Try.prog 56 := callable_of Try.func56 rfl (by decide)
theorem cl57 : Callable Try.prog 57 := callable_of Try.func57 rfl (by decide)
theorem cl58 : Callable Try.prog 58 := callable_of Try.func58 rfl (by decide)
theorem cl59 : Callable Try.prog 59 := callable_of Try.func59 rfl (by decide)
theorem cl60 : Callable Try.prog 60 := callable_of Try.func60 rfl (by decide)
theorem cl61 : Callable Try.prog 61 := callable_of Try.func61 rfl (by decide)
theorem cl62 : Callable Try.prog 62 := callable_of Try.func62 rfl (by decide)
theorem cl63 : Callable Try.prog 63 := callable_of Try.func63 rfl (by decide)
theorem cl64 : Callable Try.prog 64 := callable_of Try.func64 rfl (by decide)
theorem cl65 : Callable Try.prog 65 := callable_of Try.func65 rfl (by decide)
theorem cl66 : Callable Try.prog 66 := callable_of Try.func66 rfl (by decide)
theorem cl67 : Callable Try.prog 67 := callable_of Try.func67 rfl (by decide)
theorem cl68 : Callable Try.prog 68 := callable_of Try.func68 rfl (by decide)
theorem cl69 : Callable Try.prog 69 := callable_of Try.func69 rfl (by decide)
theorem cl70 : Callable Try.prog 70 := callable_of Try.func70 rfl (by decide)
theorem cl71 : Callable Try.prog 71 := callable_of Try.func71 rfl (by decide)
theorem cl72 : Callable Try.prog 72 := callable_of Try.func72 rfl (by decide)
theorem cl73 : Callable Try.prog 73 := callable_of Try.func73 rfl (by decide)
theorem cl74 : Callable Try.prog 74 := callable_of Try.func74 rfl (by decide)
theorem cl75 : Callable Try.prog 75 := callable_of Try.func75 rfl (by decide)
theorem cl76 : Callable Try.prog 76 := callable_of Try.func76 rfl (by decide)
theorem cl77 : Callable Try.prog 77 := callable_of Try.func77 rfl (by decide)
theorem cl78 : Callable Try.prog 78 := callable_of Try.func78 rfl (by decide)
theorem cl79 : Callable Try.prog 79 := callable_of Try.func79 rfl (by decide)
theorem cl80 : Callable Try.prog 80 := callable_of Try.func80 rfl (by decide)
theorem cl81 : Callable Try.prog 81 := callable_of Try.func81 rfl (by decide)
theorem cl82 : Callable Try.prog 82 := callable_of Try.func82 rfl (by decide)
theorem cl83 : Callable Try.prog 83 := callable_of Try.func83 rfl (by decide)
theorem cl84 : Callable Try.prog 84 := callable_of Try.func84 rfl (by decide)
theorem cl85 : Callable Try.prog 85 := callable_of Try.func85 rfl (by decide)
theorem cl86 : Callable Try.prog 86 := callable_of Try.func86 rfl (by decide)
theorem cl87 : Callable Try.prog 87 := callable_of Try.func87 rfl (by decide)
theorem cl88 : Callable Try.prog 88 := callable_of Try.func88 rfl (by decide)
theorem cl89 : Callable Try.prog 89 := callable_of Try.func89 rfl (by decide)
theorem cl90 : Callable Try.prog 90 := callable_of Try.func90 rfl (by decide)
theorem cl91 : Callable Try.prog 91 := callable_of Try.func91 rfl (by decide)
theorem cl92 : Callable Try.prog 92 := callable_of Try.func92 rfl (by decide)
theorem cl93 : Callable Try.prog 93 := callable_of Try.func93 rfl (by decide)
theorem cl94 : Callable Try.prog 94 := callable_of Try.func94 rfl (by decide)
theorem cl95 : Callable Try.prog 95 := callable_of Try.func95 rfl (by decide)
theorem cl96 : Callable Try.prog 96 := callable_of Try.func96 rfl (by decide)
theorem cl97 : Callable Try.prog 97 := callable_of Try.func97 rfl (by decide)
theorem cl98 : Callable Try.prog 98 := callable_of Try.func98 rfl (by decide)
theorem cl99 : Callable Try.prog 99 := callable_of Try.func99 rfl (by decide)
theorem cl100 : Callable Try.prog 100 := callable_of Try.func100 rfl (by decide)
theorem cl101 : Callable Try.prog 101 := callable_of Try.func101 rfl (by decide)
theorem cl102 : Callable Try.prog 102 := callable_of Try.func102 rfl (by decide)
theorem cl103 : Callable Try.prog 103 := callable_of Try.func103 rfl (by decide)
theorem cl104 : Callable Try.prog 104 := callable_of Try.func104 rfl (by decide)
theorem cl105 : Callable Try.prog 105 := callable_of Try.func105 rfl (by decide)
theorem cl106 : Callable Try.prog 106 := callable_of Try.func106 rfl (by decide)
theorem cl107 : Callable Try.prog 107 := callable_of Try.func107 rfl (by decide)
theorem cl108 : Callable Try.prog 108 := callable_of Try.func108 rfl (by decide)
theorem cl109 : Callable Try.prog 109 := callable_of Try.func109 rfl (by decide)
theorem cl110 : Callable Try.prog 110 := callable_of Try.func110 rfl (by decide)
theorem cl111 : Callable Try.prog 111 := callable_of Try.func111 rfl (by decide)
theorem cl112 : Callable Try.prog 112 := callable_of Try.func112 rfl (by decide)
theorem cl113 : Callable Try.prog 113 := callable_of Try.func113 rfl (by decide)
theorem cl114 : Callable Try.prog 114 := callable_of Try.func114 rfl (by decide)
theorem cl115 : Callable Try.prog 115 := callable_of Try.func115 rfl (by decide)
theorem cl116 : Callable Try.prog 116 := callable_of Try.func116 rfl (by decide)
theorem cl117 : Callable Try.prog 117 := callable_of Try.func117 rfl (by decide)
theorem cl118 : Callable Try.prog 118 := callable_of Try.func118 rfl (by decide)
theorem cl119 : Callable Try.prog 119 := callable_of Try.func119 rfl (by decide)
theorem cl120 : Callable Try.prog 120 := callable_of Try.func120 rfl (by decide)
theorem cl121 : Callable Try.prog 121 := callable_of Try.func121 rfl (by decide)
theorem cl122 : Callable Try.prog 122 := callable_of Try.func122 rfl (by decide)
theorem cl123 : Callable Try.prog 123 := callable_of Try.func123 rfl (by decide)
theorem cl124 : Callable Try.prog 124 := callable_of Try.func124 rfl (by decide)
theorem cl125 : Callable Try.prog 125 := callable_of Try.func125 rfl (by decide)
theorem cl126 : Callable Try.prog 126 := callable_of Try.func126 rfl (by decide)
theorem cl127 : Callable Try.prog 127 := callable_of Try.func127 rfl (by decide)
theorem cl128 : Callable Try.prog 128 := callable_of Try.func128 rfl (by decide)
theorem cl129 : Callable Try.prog 129 := callable_of Try.func129 rfl (by decide)
theorem cl130 : Callable Try.prog 130 := callable_of Try.func130 rfl (by decide)
theorem cl131 : Callable Try.prog 131 := callable_of Try.func131 rfl (by decide)
theorem cl132 : Callable Try.prog 132 := callable_of Try.func132 rfl (by decide)
theorem cl133 : Callable Try.prog 133 := callable_of Try.func133 rfl (by decide)
theorem cl134 : Callable Try.prog 134 := callable_of Try.func134 rfl (by decide)
theorem cl135 : Callable Try.prog 135 := callable_of Try.func135 rfl (by decide)
theorem cl136 : Callable Try.prog 136 := callable_of Try.func136 rfl (by decide)
theorem cl137 : Callable Try.prog 137 := callable_of Try.func137 rfl (by decide)
theorem cl138 : Callable Try.prog 138 := callable_of Try.func138 rfl (by decide)
theorem cl139 : Callable Try.prog 139 := callable_of Try.func139 rfl (by decide)
theorem cl140 : Callable Try.prog 140 := callable_of Try.func140 rfl (by decide)
theorem cl141 : Callable Try.prog 141 := callable_of Try.func141 rfl (by decide)
theorem cl142 : Callable Try.prog 142 := callable_of Try.func142 rfl (by decide)
theorem cl143 : Callable Try.prog 143 := callable_of Try.func143 rfl (by decide)
theorem cl144 : Callable Try.prog 144 := callable_of Try.func144 rfl (by decide)
theorem cl145 : Callable Try.prog 145 := callable_of Try.func145 rfl (by decide)
theorem cl146 : Callable Try.prog 146 := callable_of Try.func146 rfl (by decide)
theorem cl147 : Callable Try.prog 147 := callable_of Try.func147 rfl (by decide)
theorem cl148 : Callable Try.prog 148 := callable_of Try.func148 rfl (by decide)
theorem cl149 : Callable Try.prog 149 := callable_of Try.func149 rfl (by decide)
theorem cl150 : Callable Try.prog 150 := callable_of Try.func150 rfl (by decide)
theorem cl151 : Callable Try.prog 151 := callable_of Try.func151 rfl (by decide)
theorem cl152 : Callable Try.prog 152 := callable_of Try.func152 rfl (by decide)
theorem cl153 : Callable Try.prog 153 := callable_of Try.func153 rfl (by decide)
theorem cl154 : Callable Try.prog 154 := callable_of Try.func154 rfl (by decide)
theorem cl155 : Callable Try.prog 155 := callable_of Try.func155 rfl (by decide)
theorem cl156 : Callable Try.prog 156 := callable_of Try.func156 rfl (by decide)
theorem cl157 : Callable Try.prog 157 := callable_of Try.func157 rfl (by decide)
theorem cl158 : Callable Try.prog 158 := callable_of Try.func158 rfl (by decide)
theorem cl159 : Callable Try.prog 159 := callable_of Try.func159 rfl (by decide)
theorem cl160 : Callable Try.prog 160 := callable_of Try.func160 rfl (by decide)
theorem cl161 : Callable Try.prog 161 := callable_of Try.func161 rfl (by decide)
theorem cl162 : Callable Try.prog 162 := callable_of Try.func162 rfl (by decide)
theorem cl163 : Callable Try.prog 163 := callable_of Try.func163 rfl (by decide)
theorem cl164 : Callable Try.prog 164 := callable_of Try.func164 rfl (by decide)
theorem cl165 : Callable Try.prog 165 := callable_of Try.func165 rfl (by decide)
theorem cl166 : Callable Try.prog 166 := callable_of Try.func166 rfl (by decide)
theorem cl167 : Callable Try.prog 167 := callable_of Try.func167 rfl (by decide)
theorem cl168 : Callable Try.prog 168 := callable_of Try.func168 rfl (by decide)
theorem cl169 : Callable Try.prog 169 := callable_of Try.func169 rfl (by decide)
theorem cl170 : Callable Try.prog 170 := callable_of Try.func170 rfl (by decide)
theorem cl171 : Callable Try.prog 171 := callable_of Try.func171 rfl (by decide)
theorem cl172 : Callable Try.prog 172 := callable_of Try.func172 rfl (by decide)
theorem cl173 : Callable Try.prog 173 := callable_of Try.func173 rfl (by decide)
theorem cl174 : Callable Try.prog 174 := callable_of Try.func174 rfl (by decide)
theorem cl175 : Callable Try.prog 175 := callable_of Try.func175 rfl (by decide)
theorem cl176 : Callable Try.prog 176 := callable_of Try.func176 rfl (by decide)
theorem cl177 : Callable Try.prog 177 := callable_of Try.func177 rfl (by decide)
theorem cl178 : Callable Try.prog 178 := callable_of Try.func178 rfl (by decide)
theorem cl179 : Callable Try.prog 179 := callable_of Try.func179 rfl (by decide)
theorem cl180 : Callable Try.prog 180 := callable_of Try.func180 rfl (by decide)
theorem cl181 : Callable Try.prog 181 := callable_of Try.func181 rfl (by decide)
theorem cl182 : Callable Try.prog 182 := callable_of Try.func182 rfl (by decide)
theorem cl183 : Callable Try.prog 183 := callable_of Try.func183 rfl (by decide)
theorem cl184 : Callable Try.prog 184 := callable_of Try.func184 rfl (by decide)
theorem cl185 : Callable Try.prog 185 := callable_of Try.func185 rfl (by decide)
theorem cl186 : Callable Try.prog 186 := callable_of Try.func186 rfl (by decide)
theorem cl187 : Callable Try.prog 187 := callable_of Try.func187 rfl (by decide)
theorem cl188 : Callable Try.prog 188 := callable_of Try.func188 rfl (by decide)
theorem cl189 : Callable Try.prog 189 := callable_of Try.func189 rfl (by decide)
theorem cl190 : Callable Try.prog 190 := callable_of Try.func190 rfl (by decide)
theorem cl191 : Callable Try.prog 191 := callable_of Try.func191 rfl (by decide)
theorem cl192 : Callable Try.prog 192 := callable_of Try.func192 rfl (by decide)
theorem cl193 : Callable Try.prog 193 := callable_of Try.func193 rfl (by decide)
theorem cl194 : Callable Try.prog 194 := callable_of Try.func194 rfl (by decide)
theorem cl195 : Callable Try.prog 195 := callable_of Try.func195 rfl (by decide)
theorem cl196 : Callable Try.prog 196 := callable_of Try.func196 rfl (by decide)
theorem cl197 : Callable Try.prog 197 := callable_of Try.func197 rfl (by decide)
theorem cl198 : Callable Try.prog 198 := callable_of Try.func198 rfl (by decide)
theorem cl199 : Callable Try.prog 199 := callable_of Try.func199 rfl (by decide)
theorem cl200 : Callable Try.prog 200 := callable_of Try.func200 rfl (by decide)
theorem cl201 : Callable Try.prog 201 := callable_of Try.func201 rfl (by decide)
theorem cl202 : Callable Try.prog 202 := callable_of Try.func202 rfl (by decide)
theorem cl203 : Callable Try.prog 203 := callable_of Try.func203 rfl (by decide)
theorem cl204 : Callable Try.prog 204 := callable_of Try.func204 rfl (by decide)
theorem cl205 : Callable Try.prog 205 := callable_of Try.func205 rfl (by decide)
theorem cl206 : Callable Try.prog 206 := callable_of Try.func206 rfl (by decide)
theorem cl207 : Callable Try.prog 207 := callable_of Try.func207 rfl (by decide)
theorem cl208 : Callable Try.prog 208 := callable_of Try.func208 rfl (by decide)
theorem cl209 : Callable Try.prog 209 := callable_of Try.func209 rfl (by decide)
theorem cl210 : Callable Try.prog 210 := callable_of Try.func210 rfl (by decide)
theorem cl212 : Callable Try.prog 212 := callable_of Try.func212 rfl (by decide)
theorem cl213 : Callable Try.prog 213 := callable_of Try.func213 rfl (by decide)
theorem cl214 : Callable Try.prog 214 := callable_of Try.func214 rfl (by decide)
theorem cl215 : Callable Try.prog 215 := callable_of Try.func215 rfl (by decide)
theorem cl232 : Callable Try.prog 232 := callable_of Try.func232 rfl (by decide)
theorem cl233 : Callable Try.prog 233 := callable_of Try.func233 rfl (by decide)
theorem cl234 : Callable Try.prog 234 := callable_of Try.func234 rfl (by decide)
theorem cl235 : Callable Try.prog 235 := callable_of Try.func235 rfl (by decide)
theorem cl236 : Callable Try.prog 236 := callable_of Try.func236 rfl (by decide)
theorem cl242 : Callable Try.prog 242 := callable_of Try.func242 rfl (by decide)
theorem cl243 : Callable Try.prog 243 := callable_of Try.func243 rfl (by decide)
theorem cl244 : Callable Try.prog 244 := callable_of Try.func244 rfl (by decide)
theorem cl245 : Callable Try.prog 245 := callable_of Try.func245 rfl (by decide)
theorem mix : Try.prog.follows .mixedOrders = true := by kernel_rfl
end Go.Proofs.Ytjbbookmgohamaa
