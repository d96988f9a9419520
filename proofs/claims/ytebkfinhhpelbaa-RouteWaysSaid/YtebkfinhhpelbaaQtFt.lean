/- Facts on types and functions of this seat, by program (seat.py). No condition. -/
import Derived.Test.YtebkfinhhpelbaaProg
import Derived.Test.YtebkfinhhpelbaaQtX2
namespace Go.Proofs.Ytebkfinhhpelbaa
open Go.Fw
set_option maxRecDepth 100000
theorem ty23 : tyK Try.prog 23 = some (true, 5) := by kernel_rfl
theorem sl24 : sliceK Try.prog 24 = some 35 := by kernel_rfl
theorem ty35 : tyK Try.prog 35 = some (true, 10) := by kernel_rfl
theorem zr35 : zeroK Try.prog 35 = some [.int .i64 0, .int .i64 0, .slice none 0 0, .slice none 0 0, .string ⟨#[]⟩, .bool false, .int .i64 0, .int .i64 0, .slice none 0 0, .slice none 0 0] := by kernel_rfl
theorem by35 : bytesK Try.prog 35 = some 152 := by kernel_rfl
theorem sl27 : sliceK Try.prog 27 = some 39 := by kernel_rfl
theorem ty39 : tyK Try.prog 39 = some (true, 14) := by kernel_rfl
theorem zr39 : zeroK Try.prog 39 = some [.int .i64 0, .int .i64 0, .slice none 0 0, .slice none 0 0, .string ⟨#[]⟩, .bool false, .int .i64 0, .int .i64 0, .slice none 0 0, .slice none 0 0, .string ⟨#[]⟩, .string ⟨#[]⟩, .bool false, .slice none 0 0] := by kernel_rfl
theorem by39 : bytesK Try.prog 39 = some 216 := by kernel_rfl
theorem fd39_0 : fieldK Try.prog 39 0 = some 0 := by kernel_rfl
theorem fd35_1 : fieldK Try.prog 35 1 = some 1 := by kernel_rfl
theorem ty3 : tyK Try.prog 3 = some (false, 1) := by kernel_rfl
theorem zr3 : zeroK Try.prog 3 = some [.int .i64 0] := by kernel_rfl
theorem fd35_0 : fieldK Try.prog 35 0 = some 0 := by kernel_rfl
theorem sl30 : sliceK Try.prog 30 = some 3 := by kernel_rfl
theorem by3 : bytesK Try.prog 3 = some 8 := by kernel_rfl
theorem fd35_9 : fieldK Try.prog 35 9 = some 9 := by kernel_rfl
theorem ty31 : tyK Try.prog 31 = some (false, 1) := by kernel_rfl
theorem sl31 : sliceK Try.prog 31 = some 67 := by kernel_rfl
theorem ty67 : tyK Try.prog 67 = some (true, 2) := by kernel_rfl
theorem zr67 : zeroK Try.prog 67 = some [.string ⟨#[]⟩, .string ⟨#[]⟩] := by kernel_rfl
theorem by67 : bytesK Try.prog 67 = some 32 := by kernel_rfl
theorem fd35_3 : fieldK Try.prog 35 3 = some 3 := by kernel_rfl
theorem ty30 : tyK Try.prog 30 = some (false, 1) := by kernel_rfl
theorem fd23_0 : fieldK Try.prog 23 0 = some 0 := by kernel_rfl
theorem bo4 : Try.prog.underlying 4 = some .bool := by kernel_rfl
theorem pp48 : ptrT Try.prog 48 = true := by kernel_rfl
theorem un3 : Try.prog.underlying 3 = some (.int .i64) := by kernel_rfl
theorem un58 : Try.prog.underlying 58 = some (.int .u64) := by kernel_rfl
theorem fd67_1 : fieldK Try.prog 67 1 = some 1 := by kernel_rfl
theorem ty9 : tyK Try.prog 9 = some (false, 1) := by kernel_rfl
theorem zr9 : zeroK Try.prog 9 = some [.string ⟨#[]⟩] := by kernel_rfl
theorem ty24 : tyK Try.prog 24 = some (false, 1) := by kernel_rfl
theorem pl35 : placesK Try.prog 35 = some [(0, 1), (1, 1), (2, 1), (3, 1), (4, 1), (5, 1), (6, 1), (7, 1), (8, 1), (9, 1)] := by kernel_rfl
theorem fd23_3 : fieldK Try.prog 23 3 = some 3 := by kernel_rfl
theorem st9 : Try.prog.underlying 9 = some .string := by kernel_rfl
theorem fd39_1 : fieldK Try.prog 39 1 = some 10 := by kernel_rfl
theorem ty37 : tyK Try.prog 37 = some (true, 3) := by kernel_rfl
theorem zr37 : zeroK Try.prog 37 = some [.string ⟨#[]⟩, .string ⟨#[]⟩, .bool false] := by kernel_rfl
theorem sl79 : sliceK Try.prog 79 = some 37 := by kernel_rfl
theorem by37 : bytesK Try.prog 37 = some 40 := by kernel_rfl
theorem eq37 : fieldKs Try.prog 37 = some [.string, .string, .bool] := by kernel_rfl
theorem fd39_2 : fieldK Try.prog 39 2 = some 13 := by kernel_rfl
theorem ty33 : tyK Try.prog 33 = some (false, 1) := by kernel_rfl
theorem zr33 : zeroK Try.prog 33 = some [.slice none 0 0] := by kernel_rfl
theorem sl33 : sliceK Try.prog 33 = some 123 := by kernel_rfl
theorem ty123 : tyK Try.prog 123 = some (true, 6) := by kernel_rfl
theorem zr123 : zeroK Try.prog 123 = some [.int .i64 0, .int .i64 0, .string ⟨#[]⟩, .string ⟨#[]⟩, .bool false, .string ⟨#[]⟩] := by kernel_rfl
theorem by123 : bytesK Try.prog 123 = some 72 := by kernel_rfl
theorem fd35_8 : fieldK Try.prog 35 8 = some 8 := by kernel_rfl
theorem fd35_7 : fieldK Try.prog 35 7 = some 7 := by kernel_rfl
theorem pl37 : placesK Try.prog 37 = some [(0, 1), (1, 1), (2, 1)] := by kernel_rfl
theorem pl39 : placesK Try.prog 39 = some [(0, 10), (10, 3), (13, 1)] := by kernel_rfl
theorem fd35_2 : fieldK Try.prog 35 2 = some 2 := by kernel_rfl
theorem ty32 : tyK Try.prog 32 = some (false, 1) := by kernel_rfl
theorem sl32 : sliceK Try.prog 32 = some 9 := by kernel_rfl
theorem by9 : bytesK Try.prog 9 = some 16 := by kernel_rfl
theorem sl97 : sliceK Try.prog 97 = some 33 := by kernel_rfl
theorem by33 : bytesK Try.prog 33 = some 24 := by kernel_rfl
theorem eq67 : fieldKs Try.prog 67 = some [.string, .string] := by kernel_rfl
theorem zr109 : zeroK Try.prog 109 = some [.int .i64 0, .int .i64 0, .int .i64 0, .int .i64 0, .int .i64 0, .pointer none] := by kernel_rfl
theorem pl109 : placesK Try.prog 109 = some [(0, 5), (5, 1)] := by kernel_rfl
theorem fd23_1 : fieldK Try.prog 23 1 = some 1 := by kernel_rfl
theorem fd23_2 : fieldK Try.prog 23 2 = some 2 := by kernel_rfl
theorem fd23_4 : fieldK Try.prog 23 4 = some 4 := by kernel_rfl
theorem fd35_4 : fieldK Try.prog 35 4 = some 4 := by kernel_rfl
theorem fd109_1 : fieldK Try.prog 109 1 = some 5 := by kernel_rfl
theorem ty105 : tyK Try.prog 105 = some (false, 1) := by kernel_rfl
theorem fd35_5 : fieldK Try.prog 35 5 = some 5 := by kernel_rfl
theorem ty4 : tyK Try.prog 4 = some (false, 1) := by kernel_rfl
theorem zr4 : zeroK Try.prog 4 = some [.bool false] := by kernel_rfl
theorem fd35_6 : fieldK Try.prog 35 6 = some 6 := by kernel_rfl
theorem fd37_0 : fieldK Try.prog 37 0 = some 0 := by kernel_rfl
theorem fd37_2 : fieldK Try.prog 37 2 = some 2 := by kernel_rfl
theorem fd37_1 : fieldK Try.prog 37 1 = some 1 := by kernel_rfl
theorem eq123 : fieldKs Try.prog 123 = some [.int .i64, .int .i64, .string, .string, .bool, .string] := by kernel_rfl
theorem pl123 : placesK Try.prog 123 = some [(0, 1), (1, 1), (2, 1), (3, 1), (4, 1), (5, 1)] := by kernel_rfl
theorem fd123_0 : fieldK Try.prog 123 0 = some 0 := by kernel_rfl
theorem sl150 : sliceK Try.prog 150 = some 4 := by kernel_rfl
theorem by4 : bytesK Try.prog 4 = some 1 := by kernel_rfl
theorem zr153 : zeroK Try.prog 153 = some [.slice none 0 0, .slice none 0 0, .slice none 0 0] := by kernel_rfl
theorem pl153 : placesK Try.prog 153 = some [(0, 1), (1, 1), (2, 1)] := by kernel_rfl
theorem fd153_2 : fieldK Try.prog 153 2 = some 2 := by kernel_rfl
theorem ty151 : tyK Try.prog 151 = some (false, 1) := by kernel_rfl
theorem sl151 : sliceK Try.prog 151 = some 3 := by kernel_rfl
theorem pi155 : plainT Try.prog 155 = true := by kernel_rfl
theorem fd67_0 : fieldK Try.prog 67 0 = some 0 := by kernel_rfl
theorem fd123_2 : fieldK Try.prog 123 2 = some 2 := by kernel_rfl
theorem fd123_3 : fieldK Try.prog 123 3 = some 3 := by kernel_rfl
theorem fd123_5 : fieldK Try.prog 123 5 = some 5 := by kernel_rfl
theorem pp105 : ptrT Try.prog 105 = true := by kernel_rfl
theorem fd153_0 : fieldK Try.prog 153 0 = some 0 := by kernel_rfl
theorem pi3 : plainT Try.prog 3 = true := by kernel_rfl
theorem fd153_1 : fieldK Try.prog 153 1 = some 1 := by kernel_rfl
theorem ty150 : tyK Try.prog 150 = some (false, 1) := by kernel_rfl
theorem sl165 : sliceK Try.prog 165 = some 168 := by kernel_rfl
theorem ty168 : tyK Try.prog 168 = some (true, 2) := by kernel_rfl
theorem zr168 : zeroK Try.prog 168 = some [.slice none 0 0, .int .i64 0] := by kernel_rfl
theorem by168 : bytesK Try.prog 168 = some 32 := by kernel_rfl
theorem ty165 : tyK Try.prog 165 = some (false, 1) := by kernel_rfl
theorem pi163 : plainT Try.prog 163 = true := by kernel_rfl
theorem pl168 : placesK Try.prog 168 = some [(0, 1), (1, 1)] := by kernel_rfl
theorem pi168 : plainT Try.prog 168 = true := by kernel_rfl
theorem fd168_0 : fieldK Try.prog 168 0 = some 0 := by kernel_rfl
theorem fd123_1 : fieldK Try.prog 123 1 = some 1 := by kernel_rfl
theorem fd123_4 : fieldK Try.prog 123 4 = some 4 := by kernel_rfl
theorem fd168_1 : fieldK Try.prog 168 1 = some 1 := by kernel_rfl
theorem cl5 : Callable Try.prog 5 := callable_of Try.func5 rfl (by decide)
theorem cl7 : Callable Try.prog 7 := callable_of Try.func7 rfl (by decide)
theorem cl9 : Callable Try.prog 9 := callable_of Try.func9 rfl (by decide)
theorem cl12 : Callable Try.prog 12 := callable_of Try.func12 rfl (by decide)
theorem cl14 : Callable Try.prog 14 := callable_of Try.func14 rfl (by decide)
theorem cl19 : Callable Try.prog 19 := callable_of Try.func19 rfl (by decide)
theorem cl20 : Callable Try.prog 20 := callable_of Try.func20 rfl (by decide)
theorem cl21 : Callable Try.prog 21 := callable_of Try.func21 rfl (by decide)
theorem cl24 : Callable Try.prog 24 := callable_of Try.func24 rfl (by decide)
theorem cl25 : Callable Try.prog 25 := callable_of Try.func25 rfl (by decide)
theorem cl27 : Callable Try.prog 27 := callable_of Try.func27 rfl (by decide)
theorem cl29 : Callable Try.prog 29 := callable_of Try.func29 rfl (by decide)
theorem cl31 : Callable Try.prog 31 := callable_of Try.func31 rfl (by decide)
theorem cl38 : Callable Try.prog 38 := callable_of Try.func38 rfl (by decide)
theorem cl39 : Callable Try.prog 39 := callable_of Try.func39 rfl (by decide)
theorem cl40 : Callable Try.prog 40 := callable_of Try.func40 rfl (by decide)
theorem cl41 : Callable Try.prog 41 := callable_of Try.func41 rfl (by decide)
theorem cl42 : Callable Try.prog 42 := callable_of Try.func42 rfl (by decide)
theorem cl43 : Callable Try.prog 43 := callable_of Try.func43 rfl (by decide)
theorem cl44 : Callable Try.prog 44 := callable_of Try.func44 rfl (by decide)
theorem cl50 : Callable Try.prog 50 := callable_of Try.func50 rfl (by decide)
theorem cl52 : Callable Try.prog 52 := callable_of Try.func52 rfl (by decide)
theorem cl53 : Callable Try.prog 53 := callable_of Try.func53 rfl (by decide)
theorem cl54 : Callable Try.prog 54 := callable_of Try.func54 rfl (by decide)
theorem cl55 : Callable Try.prog 55 := callable_of Try.func55 rfl (by decide)
theorem cl56 : Callable Try.prog 56 := callable_of Try.func56 rfl (by decide)
theorem cl57 : Callable Try.prog 57 := callable_of Try.func57 rfl (by decide)
theorem cl63 : Callable Try.prog 63 := callable_of Try.func63 rfl (by decide)
theorem cl64 : Callable Try.prog 64 := callable_of Try.func64 rfl (by decide)
theorem cl65 : Callable Try.prog 65 := callable_of Try.func65 rfl (by decide)
theorem cl66 : Callable Try.prog 66 := callable_of Try.func66 rfl (by decide)
theorem cl67 : Callable Try.prog 67 := callable_of Try.func67 rfl (by decide)
theorem cl68 : Callable Try.prog 68 := callable_of Try.func68 rfl (by decide)
theorem cl69 : Callable Try.prog 69 := callable_of Try.func69 rfl (by decide)
theorem cl70 : Callable Try.prog 70 := callable_of Try.func70 rfl (by decide)
theorem cl71 : Callable Try.prog 71 := callable_of Try.func71 rfl (by decide)
theorem cl72 : Callable Try.prog 72 := callable_of Try.func72 rfl (by decide)
theorem cl73 : Callable Try.prog 73 := callable_of Try.func73 rfl (by decide)
theorem cl77 : Callable Try.prog 77 := callable_of Try.func77 rfl (by decide)
theorem cl78 : Callable Try.prog 78 := callable_of Try.func78 rfl (by decide)
theorem cl79 : Callable Try.prog 79 := callable_of Try.func79 rfl (by decide)
theorem cl84 : Callable Try.prog 84 := callable_of Try.func84 rfl (by decide)
theorem cl85 : Callable Try.prog 85 := callable_of Try.func85 rfl (by decide)
theorem cl86 : Callable Try.prog 86 := callable_of Try.func86 rfl (by decide)
theorem cl88 : Callable Try.prog 88 := callable_of Try.func88 rfl (by decide)
theorem cl89 : Callable Try.prog 89 := callable_of Try.func89 rfl (by decide)
theorem cl90 : Callable Try.prog 90 := callable_of Try.func90 rfl (by decide)
theorem cl91 : Callable Try.prog 91 := callable_of Try.func91 rfl (by decide)
theorem cl92 : Callable Try.prog 92 := callable_of Try.func92 rfl (by decide)
theorem cl93 : Callable Try.prog 93 := callable_of Try.func93 rfl (by decide)
theorem cl94 : Callable Try.prog 94 := callable_of Try.func94 rfl (by decide)
theorem cl100 : Callable Try.prog 100 := callable_of Try.func100 rfl (by decide)
theorem cl101 : Callable Try.prog 101 := callable_of Try.func101 rfl (by decide)
theorem cl102 : Callable Try.prog 102 := callable_of Try.func102 rfl (by decide)
theorem cl103 : Callable Try.prog 103 := callable_of Try.func103 rfl (by decide)
theorem cl104 : Callable Try.prog 104 := callable_of Try.func104 rfl (by decide)
theorem cl105 : Callable Try.prog 105 := callable_of Try.func105 rfl (by decide)
theorem cl106 : Callable Try.prog 106 := callable_of Try.func106 rfl (by decide)
theorem cl107 : Callable Try.prog 107 := callable_of Try.func107 rfl (by decide)
theorem cl108 : Callable Try.prog 108 := callable_of Try.func108 rfl (by decide)
theorem cl109 : Callable Try.prog 109 := callable_of Try.func109 rfl (by decide)
theorem cl110 : Callable Try.prog 110 := callable_of Try.func110 rfl (by decide)
theorem cl113 : Callable Try.prog 113 := callable_of Try.func113 rfl (by decide)
theorem cl114 : Callable Try.prog 114 := callable_of Try.func114 rfl (by decide)
theorem cl115 : Callable Try.prog 115 := callable_of Try.func115 rfl (by decide)
theorem cl119 : Callable Try.prog 119 := callable_of Try.func119 rfl (by decide)
theorem cl120 : Callable Try.prog 120 := callable_of Try.func120 rfl (by decide)
theorem cl121 : Callable Try.prog 121 := callable_of Try.func121 rfl (by decide)
theorem cl122 : Callable Try.prog 122 := callable_of Try.func122 rfl (by decide)
theorem cl124 : Callable Try.prog 124 := callable_of Try.func124 rfl (by decide)
theorem cl125 : Callable Try.prog 125 := callable_of Try.func125 rfl (by decide)
theorem cl126 : Callable Try.prog 126 := callable_of Try.func126 rfl (by decide)
theorem cl129 : Callable Try.prog 129 := callable_of Try.func129 rfl (by decide)
theorem cl130 : Callable Try.prog 130 := callable_of Try.func130 rfl (by decide)
theorem cl131 : Callable Try.prog 131 := callable_of Try.func131 rfl (by decide)
theorem cl136 : Callable Try.prog 136 := callable_of Try.func136 rfl (by decide)
theorem cl137 : Callable Try.prog 137 := callable_of Try.func137 rfl (by decide)
theorem cl138 : Callable Try.prog 138 := callable_of Try.func138 rfl (by decide)
theorem cl139 : Callable Try.prog 139 := callable_of Try.func139 rfl (by decide)
theorem cl142 : Callable Try.prog 142 := callable_of Try.func142 rfl (by decide)
theorem cl143 : Callable Try.prog 143 := callable_of Try.func143 rfl (by decide)
theorem cl144 : Callable Try.prog 144 := callable_of Try.func144 rfl (by decide)
theorem cl147 : Callable Try.prog 147 := callable_of Try.func147 rfl (by decide)
theorem cl152 : Callable Try.prog 152 := callable_of Try.func152 rfl (by decide)
theorem cl153 : Callable Try.prog 153 := callable_of Try.func153 rfl (by decide)
theorem cl156 : Callable Try.prog 156 := callable_of Try.func156 rfl (by decide)
theorem cl157 : Callable Try.prog 157 := callable_of Try.func157 rfl (by decide)
theorem cl164 : Callable Try.prog 164 := callable_of Try.func164 rfl (by decide)
theorem cl186 : Callable Try.prog 186 := callable_of Try.func186 rfl (by decide)
theorem cl187 : Callable Try.prog 187 := callable_of Try.func187 rfl (by decide)
theorem cl188 : Callable Try.prog 188 := callable_of Try.func188 rfl (by decide)
theorem cl189 : Callable Try.prog 189 := callable_of Try.func189 rfl (by decide)
theorem cl190 : Callable Try.prog 190 := callable_of Try.func190 rfl (by decide)
theorem cl191 : Callable Try.prog 191 := callable_of Try.func191 rfl (by decide)
theorem cl192 : Callable Try.prog 192 := callable_of Try.func192 rfl (by decide)
theorem cl193 : Callable Try.prog 193 := callable_of Try.func193 rfl (by decide)
theorem cl194 : Callable Try.prog 194 := callable_of Try.func194 rfl (by decide)
theorem mix : Try.prog.follows .mixedOrders = true := by kernel_rfl
end Go.Proofs.Ytebkfinhhpelbaa
