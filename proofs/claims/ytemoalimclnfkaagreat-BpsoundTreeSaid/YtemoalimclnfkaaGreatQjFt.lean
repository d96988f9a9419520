/- Facts on types and functions of this seat, by program (seat.py). No condition. -/
import Derived.Test.YtemoalimclnfkaaGreatProg
import Derived.Test.YtemoalimclnfkaaGreatQjGa
set_option maxRecDepth 100000
set_option linter.unusedVariables false
namespace Go.Proofs.YtemoalimclnfkaaGreat
open Go.Fw
theorem sl22 : sliceK Tryz.prog 22 = some 33 := by kernel_rfl
theorem ty33 : tyK Tryz.prog 33 = some (true, 6) := by kernel_rfl
theorem zr33 : zeroK Tryz.prog 33 = some [.int .i64 0, .string ⟨#[]⟩, .string ⟨#[]⟩, .bool false, .string ⟨#[]⟩, .int .i64 0] := by kernel_rfl
theorem by33 : bytesK Tryz.prog 33 = some 72 := by kernel_rfl
theorem ty26 : tyK Tryz.prog 26 = some (true, 5) := by kernel_rfl
theorem zr26 : zeroK Tryz.prog 26 = some [.int .i64 0, .int .i64 0, .int .i64 0, .int .i64 0, .int .i64 0] := by kernel_rfl
theorem pl26 : placesK Tryz.prog 26 = some [(0, 1), (1, 1), (2, 1), (3, 1), (4, 1)] := by kernel_rfl
theorem ty35 : tyK Tryz.prog 35 = some (true, 4) := by kernel_rfl
theorem zr35 : zeroK Tryz.prog 35 = some [.int .i64 0, .bool false, .string ⟨#[]⟩, .slice none 0 0] := by kernel_rfl
theorem sl31 : sliceK Tryz.prog 31 = some 84 := by kernel_rfl
theorem ty84 : tyK Tryz.prog 84 = some (true, 2) := by kernel_rfl
theorem zr84 : zeroK Tryz.prog 84 = some [.string ⟨#[]⟩, .string ⟨#[]⟩] := by kernel_rfl
theorem by84 : bytesK Tryz.prog 84 = some 32 := by kernel_rfl
theorem pp27 : ptrT Tryz.prog 27 = true := by kernel_rfl
theorem fd33_1 : fieldK Tryz.prog 33 1 = some 1 := by kernel_rfl
theorem ty9 : tyK Tryz.prog 9 = some (false, 1) := by kernel_rfl
theorem zr9 : zeroK Tryz.prog 9 = some [.string ⟨#[]⟩] := by kernel_rfl
theorem st9 : Tryz.prog.underlying 9 = some .string := by kernel_rfl
theorem fd26_3 : fieldK Tryz.prog 26 3 = some 3 := by kernel_rfl
theorem ty3 : tyK Tryz.prog 3 = some (false, 1) := by kernel_rfl
theorem zr3 : zeroK Tryz.prog 3 = some [.int .i64 0] := by kernel_rfl
theorem fd35_0 : fieldK Tryz.prog 35 0 = some 0 := by kernel_rfl
theorem ty28 : tyK Tryz.prog 28 = some (false, 1) := by kernel_rfl
theorem fd33_0 : fieldK Tryz.prog 33 0 = some 0 := by kernel_rfl
theorem pl35 : placesK Tryz.prog 35 = some [(0, 1), (1, 1), (2, 1), (3, 1)] := by kernel_rfl
theorem sl47 : sliceK Tryz.prog 47 = some 58 := by kernel_rfl
theorem ty58 : tyK Tryz.prog 58 = some (true, 10) := by kernel_rfl
theorem zr58 : zeroK Tryz.prog 58 = some [.int .i64 0, .int .i64 0, .slice none 0 0, .slice none 0 0, .string ⟨#[]⟩, .bool false, .int .i64 0, .int .i64 0, .slice none 0 0, .slice none 0 0] := by kernel_rfl
theorem by58 : bytesK Tryz.prog 58 = some 152 := by kernel_rfl
theorem un3 : Tryz.prog.underlying 3 = some (.int .i64) := by kernel_rfl
theorem un51 : Tryz.prog.underlying 51 = some (.int .u64) := by kernel_rfl
theorem sl54 : sliceK Tryz.prog 54 = some 9 := by kernel_rfl
theorem by9 : bytesK Tryz.prog 9 = some 16 := by kernel_rfl
theorem fd35_1 : fieldK Tryz.prog 35 1 = some 1 := by kernel_rfl
theorem ty4 : tyK Tryz.prog 4 = some (false, 1) := by kernel_rfl
theorem zr4 : zeroK Tryz.prog 4 = some [.bool false] := by kernel_rfl
theorem fd35_2 : fieldK Tryz.prog 35 2 = some 2 := by kernel_rfl
theorem fd26_0 : fieldK Tryz.prog 26 0 = some 0 := by kernel_rfl
theorem fd26_1 : fieldK Tryz.prog 26 1 = some 1 := by kernel_rfl
theorem zr66 : zeroK Tryz.prog 66 = some [.pointer none, .int .i64 0, .int .i64 0, .int .i64 0] := by kernel_rfl
theorem pl66 : placesK Tryz.prog 66 = some [(0, 1), (1, 1), (2, 1), (3, 1)] := by kernel_rfl
theorem zr70 : zeroK Tryz.prog 70 = some [.int .i64 0, .slice none 0 0, .slice none 0 0, .slice none 0 0] := by kernel_rfl
theorem pl70 : placesK Tryz.prog 70 = some [(0, 1), (1, 1), (2, 1), (3, 1)] := by kernel_rfl
theorem fd66_1 : fieldK Tryz.prog 66 1 = some 1 := by kernel_rfl
theorem fd33_5 : fieldK Tryz.prog 33 5 = some 5 := by kernel_rfl
theorem fd35_3 : fieldK Tryz.prog 35 3 = some 3 := by kernel_rfl
theorem ty31 : tyK Tryz.prog 31 = some (false, 1) := by kernel_rfl
theorem zr31 : zeroK Tryz.prog 31 = some [.slice none 0 0] := by kernel_rfl
theorem fd33_2 : fieldK Tryz.prog 33 2 = some 2 := by kernel_rfl
theorem fd33_3 : fieldK Tryz.prog 33 3 = some 3 := by kernel_rfl
theorem fd33_4 : fieldK Tryz.prog 33 4 = some 4 := by kernel_rfl
theorem ty78 : tyK Tryz.prog 78 = some (true, 6) := by kernel_rfl
theorem zr78 : zeroK Tryz.prog 78 = some [.int .i64 0, .int .i64 0, .string ⟨#[]⟩, .string ⟨#[]⟩, .bool false, .string ⟨#[]⟩] := by kernel_rfl
theorem pl78 : placesK Tryz.prog 78 = some [(0, 1), (1, 1), (2, 1), (3, 1), (4, 1), (5, 1)] := by kernel_rfl
theorem bo4 : Tryz.prog.underlying 4 = some .bool := by kernel_rfl
theorem sl80 : sliceK Tryz.prog 80 = some 64 := by kernel_rfl
theorem ty64 : tyK Tryz.prog 64 = some (false, 1) := by kernel_rfl
theorem zr64 : zeroK Tryz.prog 64 = some [.pointer none] := by kernel_rfl
theorem by64 : bytesK Tryz.prog 64 = some 8 := by kernel_rfl
theorem fd70_3 : fieldK Tryz.prog 70 3 = some 3 := by kernel_rfl
theorem fd84_0 : fieldK Tryz.prog 84 0 = some 0 := by kernel_rfl
theorem eq84 : fieldKs Tryz.prog 84 = some [.string, .string] := by kernel_rfl
theorem fd84_1 : fieldK Tryz.prog 84 1 = some 1 := by kernel_rfl
theorem fd66_0 : fieldK Tryz.prog 66 0 = some 0 := by kernel_rfl
theorem ty61 : tyK Tryz.prog 61 = some (false, 1) := by kernel_rfl
theorem fd70_0 : fieldK Tryz.prog 70 0 = some 0 := by kernel_rfl
theorem sl55 : sliceK Tryz.prog 55 = some 3 := by kernel_rfl
theorem by3 : bytesK Tryz.prog 3 = some 8 := by kernel_rfl
theorem fd70_1 : fieldK Tryz.prog 70 1 = some 1 := by kernel_rfl
theorem ty54 : tyK Tryz.prog 54 = some (false, 1) := by kernel_rfl
theorem zr54 : zeroK Tryz.prog 54 = some [.slice none 0 0] := by kernel_rfl
theorem fd70_2 : fieldK Tryz.prog 70 2 = some 2 := by kernel_rfl
theorem ty55 : tyK Tryz.prog 55 = some (false, 1) := by kernel_rfl
theorem zr55 : zeroK Tryz.prog 55 = some [.slice none 0 0] := by kernel_rfl
theorem pl58 : placesK Tryz.prog 58 = some [(0, 1), (1, 1), (2, 1), (3, 1), (4, 1), (5, 1), (6, 1), (7, 1), (8, 1), (9, 1)] := by kernel_rfl
theorem fd58_1 : fieldK Tryz.prog 58 1 = some 1 := by kernel_rfl
theorem pp105 : ptrT Tryz.prog 105 = true := by kernel_rfl
theorem fd110_3 : fieldK Tryz.prog 110 3 = some 7 := by kernel_rfl
theorem fd110_1 : fieldK Tryz.prog 110 1 = some 5 := by kernel_rfl
theorem ty107 : tyK Tryz.prog 107 = some (false, 1) := by kernel_rfl
theorem pt58_1 : partK Tryz.prog 58 1 = some (false, 1, 1) := by kernel_rfl
theorem sl111 : sliceK Tryz.prog 111 = some 4 := by kernel_rfl
theorem by4 : bytesK Tryz.prog 4 = some 1 := by kernel_rfl
theorem zr114 : zeroK Tryz.prog 114 = some [.slice none 0 0, .slice none 0 0, .slice none 0 0] := by kernel_rfl
theorem pl114 : placesK Tryz.prog 114 = some [(0, 1), (1, 1), (2, 1)] := by kernel_rfl
theorem fd114_2 : fieldK Tryz.prog 114 2 = some 2 := by kernel_rfl
theorem ty112 : tyK Tryz.prog 112 = some (false, 1) := by kernel_rfl
theorem sl112 : sliceK Tryz.prog 112 = some 3 := by kernel_rfl
theorem pi116 : plainT Tryz.prog 116 = true := by kernel_rfl
theorem pp61 : ptrT Tryz.prog 61 = true := by kernel_rfl
theorem pi3 : plainT Tryz.prog 3 = true := by kernel_rfl
theorem fd114_0 : fieldK Tryz.prog 114 0 = some 0 := by kernel_rfl
theorem ty80 : tyK Tryz.prog 80 = some (false, 1) := by kernel_rfl
theorem fd114_1 : fieldK Tryz.prog 114 1 = some 1 := by kernel_rfl
theorem ty111 : tyK Tryz.prog 111 = some (false, 1) := by kernel_rfl
theorem ty74 : tyK Tryz.prog 74 = some (true, 3) := by kernel_rfl
theorem zr74 : zeroK Tryz.prog 74 = some [.string ⟨#[]⟩, .string ⟨#[]⟩, .bool false] := by kernel_rfl
theorem pl74 : placesK Tryz.prog 74 = some [(0, 1), (1, 1), (2, 1)] := by kernel_rfl
theorem fd78_1 : fieldK Tryz.prog 78 1 = some 1 := by kernel_rfl
theorem fd78_2 : fieldK Tryz.prog 78 2 = some 2 := by kernel_rfl
theorem ty90 : tyK Tryz.prog 90 = some (true, 2) := by kernel_rfl
theorem zr90 : zeroK Tryz.prog 90 = some [.int .i64 0, .string ⟨#[]⟩] := by kernel_rfl
theorem fd66_3 : fieldK Tryz.prog 66 3 = some 3 := by kernel_rfl
theorem pl90 : placesK Tryz.prog 90 = some [(0, 1), (1, 1)] := by kernel_rfl
theorem fd78_5 : fieldK Tryz.prog 78 5 = some 5 := by kernel_rfl
theorem fd58_2 : fieldK Tryz.prog 58 2 = some 2 := by kernel_rfl
theorem fd58_3 : fieldK Tryz.prog 58 3 = some 3 := by kernel_rfl
theorem fd58_0 : fieldK Tryz.prog 58 0 = some 0 := by kernel_rfl
theorem fd58_9 : fieldK Tryz.prog 58 9 = some 9 := by kernel_rfl
theorem fd74_0 : fieldK Tryz.prog 74 0 = some 0 := by kernel_rfl
theorem fd110_2 : fieldK Tryz.prog 110 2 = some 6 := by kernel_rfl
theorem ty108 : tyK Tryz.prog 108 = some (false, 1) := by kernel_rfl
theorem fd74_2 : fieldK Tryz.prog 74 2 = some 2 := by kernel_rfl
theorem fd74_1 : fieldK Tryz.prog 74 1 = some 1 := by kernel_rfl
theorem pl84 : placesK Tryz.prog 84 = some [(0, 1), (1, 1)] := by kernel_rfl
theorem fd78_3 : fieldK Tryz.prog 78 3 = some 3 := by kernel_rfl
theorem fd78_4 : fieldK Tryz.prog 78 4 = some 4 := by kernel_rfl
theorem fd66_2 : fieldK Tryz.prog 66 2 = some 2 := by kernel_rfl
theorem zr110 : zeroK Tryz.prog 110 = some [.int .i64 0, .int .i64 0, .int .i64 0, .int .i64 0, .int .i64 0, .map none, .map none, .slice none 0 0] := by kernel_rfl
theorem pl110 : placesK Tryz.prog 110 = some [(0, 5), (5, 1), (6, 1), (7, 1)] := by kernel_rfl
theorem fd110_0 : fieldK Tryz.prog 110 0 = some 0 := by kernel_rfl
theorem fd90_0 : fieldK Tryz.prog 90 0 = some 0 := by kernel_rfl
theorem fd90_1 : fieldK Tryz.prog 90 1 = some 1 := by kernel_rfl
theorem sl195 : sliceK Tryz.prog 195 = some 31 := by kernel_rfl
theorem sl199 : sliceK Tryz.prog 199 = some 54 := by kernel_rfl
theorem sl201 : sliceK Tryz.prog 201 = some 55 := by kernel_rfl
theorem cl5 : Callable Tryz.prog 5 := callable_of Tryz.func5 rfl (by decide)
theorem cl6 : Callable Tryz.prog 6 := callable_of Tryz.func6 rfl (by decide)
theorem cl8 : Callable Tryz.prog 8 := callable_of Tryz.func8 rfl (by decide)
theorem cl11 : Callable Tryz.prog 11 := callable_of Tryz.func11 rfl (by decide)
theorem cl12 : Callable Tryz.prog 12 := callable_of Tryz.func12 rfl (by decide)
theorem cl13 : Callable Tryz.prog 13 := callable_of Tryz.func13 rfl (by decide)
theorem cl17 : Callable Tryz.prog 17 := callable_of Tryz.func17 rfl (by decide)
theorem cl18 : Callable Tryz.prog 18 := callable_of Tryz.func18 rfl (by decide)
theorem cl20 : Callable Tryz.prog 20 := callable_of Tryz.func20 rfl (by decide)
theorem cl21 : Callable Tryz.prog 21 := callable_of Tryz.func21 rfl (by decide)
theorem cl22 : Callable Tryz.prog 22 := callable_of Tryz.func22 rfl (by decide)
theorem cl23 : Callable Tryz.prog 23 := callable_of Tryz.func23 rfl (by decide)
theorem cl24 : Callable Tryz.prog 24 := callable_of Tryz.func24 rfl (by decide)
theorem cl25 : Callable Tryz.prog 25 := callable_of Tryz.func25 rfl (by decide)
theorem cl26 : Callable Tryz.prog 26 := callable_of Tryz.func26 rfl (by decide)
theorem cl27 : Callable Tryz.prog 27 := callable_of Tryz.func27 rfl (by decide)
theorem cl32 : Callable Tryz.prog 32 := callable_of Tryz.func32 rfl (by decide)
theorem cl33 : Callable Tryz.prog 33 := callable_of Tryz.func33 rfl (by decide)
theorem cl34 : Callable Tryz.prog 34 := callable_of Tryz.func34 rfl (by decide)
theorem cl35 : Callable Tryz.prog 35 := callable_of Tryz.func35 rfl (by decide)
theorem cl36 : Callable Tryz.prog 36 := callable_of Tryz.func36 rfl (by decide)
theorem cl37 : Callable Tryz.prog 37 := callable_of Tryz.func37 rfl (by decide)
theorem cl38 : Callable Tryz.prog 38 := callable_of Tryz.func38 rfl (by decide)
theorem cl39 : Callable Tryz.prog 39 := callable_of Tryz.func39 rfl (by decide)
theorem cl40 : Callable Tryz.prog 40 := callable_of Tryz.func40 rfl (by decide)
theorem cl41 : Callable Tryz.prog 41 := callable_of Tryz.func41 rfl (by decide)
theorem cl43 : Callable Tryz.prog 43 := callable_of Tryz.func43 rfl (by decide)
theorem cl44 : Callable Tryz.prog 44 := callable_of Tryz.func44 rfl (by decide)
theorem cl45 : Callable Tryz.prog 45 := callable_of Tryz.func45 rfl (by decide)
theorem cl46 : Callable Tryz.prog 46 := callable_of Tryz.func46 rfl (by decide)
theorem cl47 : Callable Tryz.prog 47 := callable_of Tryz.func47 rfl (by decide)
theorem cl52 : Callable Tryz.prog 52 := callable_of Tryz.func52 rfl (by decide)
theorem cl53 : Callable Tryz.prog 53 := callable_of Tryz.func53 rfl (by decide)
theorem cl54 : Callable Tryz.prog 54 := callable_of Tryz.func54 rfl (by decide)
theorem cl60 : Callable Tryz.prog 60 := callable_of Tryz.func60 rfl (by decide)
theorem cl61 : Callable Tryz.prog 61 := callable_of Tryz.func61 rfl (by decide)
theorem cl62 : Callable Tryz.prog 62 := callable_of Tryz.func62 rfl (by decide)
theorem cl63 : Callable Tryz.prog 63 := callable_of Tryz.func63 rfl (by decide)
theorem cl64 : Callable Tryz.prog 64 := callable_of Tryz.func64 rfl (by decide)
theorem cl65 : Callable Tryz.prog 65 := callable_of Tryz.func65 rfl (by decide)
theorem cl66 : Callable Tryz.prog 66 := callable_of Tryz.func66 rfl (by decide)
theorem cl67 : Callable Tryz.prog 67 := callable_of Tryz.func67 rfl (by decide)
theorem cl68 : Callable Tryz.prog 68 := callable_of Tryz.func68 rfl (by decide)
theorem cl69 : Callable Tryz.prog 69 := callable_of Tryz.func69 rfl (by decide)
theorem cl70 : Callable Tryz.prog 70 := callable_of Tryz.func70 rfl (by decide)
theorem cl71 : Callable Tryz.prog 71 := callable_of Tryz.func71 rfl (by decide)
theorem cl72 : Callable Tryz.prog 72 := callable_of Tryz.func72 rfl (by decide)
theorem cl73 : Callable Tryz.prog 73 := callable_of Tryz.func73 rfl (by decide)
theorem cl74 : Callable Tryz.prog 74 := callable_of Tryz.func74 rfl (by decide)
theorem cl75 : Callable Tryz.prog 75 := callable_of Tryz.func75 rfl (by decide)
theorem cl76 : Callable Tryz.prog 76 := callable_of Tryz.func76 rfl (by decide)
theorem cl77 : Callable Tryz.prog 77 := callable_of Tryz.func77 rfl (by decide)
theorem cl78 : Callable Tryz.prog 78 := callable_of Tryz.func78 rfl (by decide)
theorem cl79 : Callable Tryz.prog 79 := callable_of Tryz.func79 rfl (by decide)
theorem cl80 : Callable Tryz.prog 80 := callable_of Tryz.func80 rfl (by decide)
theorem cl86 : Callable Tryz.prog 86 := callable_of Tryz.func86 rfl (by decide)
theorem cl87 : Callable Tryz.prog 87 := callable_of Tryz.func87 rfl (by decide)
theorem cl88 : Callable Tryz.prog 88 := callable_of Tryz.func88 rfl (by decide)
theorem cl91 : Callable Tryz.prog 91 := callable_of Tryz.func91 rfl (by decide)
theorem cl92 : Callable Tryz.prog 92 := callable_of Tryz.func92 rfl (by decide)
theorem cl93 : Callable Tryz.prog 93 := callable_of Tryz.func93 rfl (by decide)
theorem cl94 : Callable Tryz.prog 94 := callable_of Tryz.func94 rfl (by decide)
theorem cl95 : Callable Tryz.prog 95 := callable_of Tryz.func95 rfl (by decide)
theorem cl96 : Callable Tryz.prog 96 := callable_of Tryz.func96 rfl (by decide)
theorem cl97 : Callable Tryz.prog 97 := callable_of Tryz.func97 rfl (by decide)
theorem cl98 : Callable Tryz.prog 98 := callable_of Tryz.func98 rfl (by decide)
theorem cl99 : Callable Tryz.prog 99 := callable_of Tryz.func99 rfl (by decide)
theorem cl100 : Callable Tryz.prog 100 := callable_of Tryz.func100 rfl (by decide)
theorem cl101 : Callable Tryz.prog 101 := callable_of Tryz.func101 rfl (by decide)
theorem cl102 : Callable Tryz.prog 102 := callable_of Tryz.func102 rfl (by decide)
theorem cl103 : Callable Tryz.prog 103 := callable_of Tryz.func103 rfl (by decide)
theorem cl104 : Callable Tryz.prog 104 := callable_of Tryz.func104 rfl (by decide)
theorem cl105 : Callable Tryz.prog 105 := callable_of Tryz.func105 rfl (by decide)
theorem cl106 : Callable Tryz.prog 106 := callable_of Tryz.func106 rfl (by decide)
theorem cl107 : Callable Tryz.prog 107 := callable_of Tryz.func107 rfl (by decide)
theorem cl108 : Callable Tryz.prog 108 := callable_of Tryz.func108 rfl (by decide)
theorem cl111 : Callable Tryz.prog 111 := callable_of Tryz.func111 rfl (by decide)
theorem cl112 : Callable Tryz.prog 112 := callable_of Tryz.func112 rfl (by decide)
theorem cl114 : Callable Tryz.prog 114 := callable_of Tryz.func114 rfl (by decide)
theorem cl115 : Callable Tryz.prog 115 := callable_of Tryz.func115 rfl (by decide)
theorem cl116 : Callable Tryz.prog 116 := callable_of Tryz.func116 rfl (by decide)
theorem cl117 : Callable Tryz.prog 117 := callable_of Tryz.func117 rfl (by decide)
theorem cl118 : Callable Tryz.prog 118 := callable_of Tryz.func118 rfl (by decide)
theorem cl119 : Callable Tryz.prog 119 := callable_of Tryz.func119 rfl (by decide)
theorem cl120 : Callable Tryz.prog 120 := callable_of Tryz.func120 rfl (by decide)
theorem cl121 : Callable Tryz.prog 121 := callable_of Tryz.func121 rfl (by decide)
theorem cl122 : Callable Tryz.prog 122 := callable_of Tryz.func122 rfl (by decide)
theorem cl123 : Callable Tryz.prog 123 := callable_of Tryz.func123 rfl (by decide)
theorem cl124 : Callable Tryz.prog 124 := callable_of Tryz.func124 rfl (by decide)
theorem cl125 : Callable Tryz.prog 125 := callable_of Tryz.func125 rfl (by decide)
theorem cl126 : Callable Tryz.prog 126 := callable_of Tryz.func126 rfl (by decide)
theorem cl127 : Callable Tryz.prog 127 := callable_of Tryz.func127 rfl (by decide)
theorem cl128 : Callable Tryz.prog 128 := callable_of Tryz.func128 rfl (by decide)
theorem cl129 : Callable Tryz.prog 129 := callable_of Tryz.func129 rfl (by decide)
theorem cl130 : Callable Tryz.prog 130 := callable_of Tryz.func130 rfl (by decide)
theorem cl131 : Callable Tryz.prog 131 := callable_of Tryz.func131 rfl (by decide)
theorem cl132 : Callable Tryz.prog 132 := callable_of Tryz.func132 rfl (by decide)
theorem cl135 : Callable Tryz.prog 135 := callable_of Tryz.func135 rfl (by decide)
theorem cl136 : Callable Tryz.prog 136 := callable_of Tryz.func136 rfl (by decide)
theorem cl137 : Callable Tryz.prog 137 := callable_of Tryz.func137 rfl (by decide)
theorem cl138 : Callable Tryz.prog 138 := callable_of Tryz.func138 rfl (by decide)
theorem cl139 : Callable Tryz.prog 139 := callable_of Tryz.func139 rfl (by decide)
theorem cl144 : Callable Tryz.prog 144 := callable_of Tryz.func144 rfl (by decide)
theorem cl145 : Callable Tryz.prog 145 := callable_of Tryz.func145 rfl (by decide)
theorem cl147 : Callable Tryz.prog 147 := callable_of Tryz.func147 rfl (by decide)
theorem cl148 : Callable Tryz.prog 148 := callable_of Tryz.func148 rfl (by decide)
theorem cl149 : Callable Tryz.prog 149 := callable_of Tryz.func149 rfl (by decide)
theorem cl150 : Callable Tryz.prog 150 := callable_of Tryz.func150 rfl (by decide)
theorem cl151 : Callable Tryz.prog 151 := callable_of Tryz.func151 rfl (by decide)
theorem cl173 : Callable Tryz.prog 173 := callable_of Tryz.func173 rfl (by decide)
theorem cl174 : Callable Tryz.prog 174 := callable_of Tryz.func174 rfl (by decide)
theorem cl175 : Callable Tryz.prog 175 := callable_of Tryz.func175 rfl (by decide)
theorem cl176 : Callable Tryz.prog 176 := callable_of Tryz.func176 rfl (by decide)
theorem cl177 : Callable Tryz.prog 177 := callable_of Tryz.func177 rfl (by decide)
theorem mix : Tryz.prog.follows .mixedOrders = true := by kernel_rfl
end Go.Proofs.YtemoalimclnfkaaGreat
theorem List.Sublist.k9 {α : Type} {a : α} {l l' : List α} (h : l.Sublist l') : (a :: l).Sublist (a :: l') := h.cons_cons a
namespace Go.Fw
open Go Go.RowKit
theorem sn9 {α : Type} {l : List α} : List.Sublist [] l := List.nil_sublist l
theorem sr9 {α : Type} {l : List α} : List.Sublist l l := List.Sublist.refl l
theorem pr9 {α : Type} {l : List α} : List.Perm l l := List.Perm.refl l
abbrev nd9 {a b : Int} {c : Option Addr} {d e : Nat} {f : Option Addr} {g h : Nat} {i : ByteArray} {j : Bool} {k l : Int} {m : Option Addr} {n o : Nat} {p : Option Addr} {q r : Nat} : List Value := [.int .i64 a, .int .i64 b, .slice c d e, .slice f g h, .string i, .bool j, .int .i64 k, .int .i64 l, .slice m n o, .slice p q r]
abbrev ndl (x : Nd) (a1 : Option Addr) (c1 : Nat) (a2 : Option Addr) (c2 : Nat) (a3 : Option Addr) (c3 : Nat) (a4 : Option Addr) (c4 : Nat) : List Value := [.int .i64 x.slot, .int .i64 x.level, .slice a1 x.pivots.length c1, .slice a2 x.kids.length c2, .string x.high.b, .bool x.top, .int .i64 x.right, .int .i64 x.seen, .slice a3 x.msgs.length c3, .slice a4 x.rows.length c4]
abbrev ms9 {a b : Int} {c d : ByteArray} {e : Bool} {f : ByteArray} : List Value := [.int .i64 a, .int .i64 b, .string c, .string d, .bool e, .string f]
abbrev sp9 {a b : ByteArray} {c : Bool} : List Value := [.string a, .string b, .bool c]
abbrev cf9 {a b c d e : Int} : List Value := [.int .i64 a, .int .i64 b, .int .i64 c, .int .i64 d, .int .i64 e]
abbrev ic9 {a : Int} : List Value := [.int .i64 a]
abbrev sc9 {a : ByteArray} : List Value := [.string a]
abbrev bc9 {a : Bool} : List Value := [.bool a]
abbrev lc9 {a : Option Addr} {b c : Nat} : List Value := [.slice a b c]
abbrev ef9 {a : Int} {b : ByteArray} : List Value := [.int .i64 a, .string b]
abbrev pr29 {a b : ByteArray} : List Value := [.string a, .string b]
theorem ok_ld {E : Env} {f : Fr} {G : GH} {M : MH} {d : Nat} {t ty : TypeId} {pos : String} {aft : Array Edge} {x : Operand} (i : Nat) (vs : List Value) {b o : Nat} {L : List Value} {T : TypeId} {bb : Bool} {j : Nat} (ht : tyK E.P t = some (bb, j))
    (hq : (ev f x, nthM M i, (L.drop o).take j, vs.length) = (.pointer (some ⟨b, o, none⟩), some (b, .cells L.toArray T (0, 0)), vs, j)) (hb : bb = false → j = 1 := by simp) : Ok E f G M ⟨some d, .load t x, ty, pos, aft, none⟩ (mkV bb vs) := by
  obtain ⟨h1, h⟩ := Prod.mk.inj hq
  obtain ⟨h2, h⟩ := Prod.mk.inj h
  obtain ⟨h3, h4⟩ := Prod.mk.inj h
  exact ok_loadB ht h1 h2 h3 h4 hb
theorem W.fb {E : Env} {f : Fr} {G : GH} {M : MH} {ops rest : List Oper} {q : Bool} {K : Kt} {d : Nat} {t ty : TypeId} {pos : String} {aft : Array Edge} {x : Operand} {b o off j : Nat} (ht : fieldK E.P t j = some off) (hx : ev f x = .pointer (some ⟨b, o, none⟩))
    (k : W E ops.toArray q rest (upd f d (.pointer (some ⟨b, o + off, none⟩))) G M K) (hd : Nat.blt d E.n = true := by rfl) : W E ops.toArray q (⟨some d, .fieldAddr t x j, ty, pos, aft, none⟩ :: rest) f G M K := W.ok (ok_fieldB ht hx) k hd
theorem W.st {E : Env} {f : Fr} {G : GH} {M : MH} {ops rest : List Oper} {K : Kt} {t ty : TypeId} {pos : String} {aft : Array Edge} {x y : Operand} (i : Nat) (vs L' : List Value) {b o : Nat} {L : List Value} {T : TypeId} {bb : Bool} {j : Nat} {v : Value} (ht : tyK E.P t = some (bb, j))
    (hq : (ev f x, nthM M i, ev f y, v.cells.toList, vs.length, vs.all Value.oneCell', Nat.ble (o + j) L.length, setAt L o vs) = (.pointer (some ⟨b, o, none⟩), some (b, .cells L.toArray T (0, 0)), v, vs, j, true, true, L'))
    (k : W E ops.toArray false rest f G (setM M i (.cells L'.toArray T (0, 0))) K) : W E ops.toArray false (⟨none, .store t x y, ty, pos, aft, none⟩ :: rest) f G M K := by
  obtain ⟨h1, h⟩ := Prod.mk.inj hq
  obtain ⟨h2, h⟩ := Prod.mk.inj h
  obtain ⟨h3, h⟩ := Prod.mk.inj h
  obtain ⟨h4, h⟩ := Prod.mk.inj h
  obtain ⟨h5, h⟩ := Prod.mk.inj h
  obtain ⟨h6, h⟩ := Prod.mk.inj h
  obtain ⟨h7, h8⟩ := Prod.mk.inj h
  exact W.store ht h1 h2 h3 h4 h5 h6 h7 h8 k
theorem W.y9 {E : Env} {f : Fr} {G : GH} {M : MH} {ops rest : List Oper} {q : Bool} {K : Kt} {op : Op} {ty : TypeId} {pos : String} {aft : Array Edge} {dst : Option Nat} {j dj : Nat} {want b : Bool} (hn : b = want) (hq : ((ops.toArray[j]?).bind (·.dst), f dj) = (some dj, .bool b))
    (k : W E ops.toArray q (⟨dst, op, ty, pos, aft, none⟩ :: rest) f G M K) (hdj : Nat.blt dj E.n = true := by rfl) : W E ops.toArray q (⟨dst, op, ty, pos, aft, some (j, want)⟩ :: rest) f G M K := W.yes (Prod.mk.inj hq).1 (Prod.mk.inj hq).2 hn k hdj
theorem W.n8 {E : Env} {f : Fr} {G : GH} {M : MH} {ops rest : List Oper} {q : Bool} {K : Kt} {d : Nat} {op : Op} {ty : TypeId} {pos : String} {aft : Array Edge} {j dj : Nat} {want b : Bool} (hn : b = !want) (hq : ((ops.toArray[j]?).bind (·.dst), f dj) = (some dj, .bool b))
    (k : W E ops.toArray q rest (upd f d undef) G M K) (hd : Nat.blt d E.n = true := by rfl) : W E ops.toArray q (⟨some d, op, ty, pos, aft, some (j, want)⟩ :: rest) f G M K := W.no (Prod.mk.inj hq).1 (Prod.mk.inj hq).2 hn k hd
theorem W.nt {E : Env} {f : Fr} {G : GH} {M : MH} {ops : List Oper} {q : Bool} {K : Kt} {Q : Exit → Kt} (h : K f G M) : W E ops.toArray q [] f G M (thn K Q .normal) := W.nil (thn_n h)
theorem WC.sr {E : Env} {f : Fr} {G : GH} {M : MH} {Q : Exit → Kt} {id : Nat} {l : List Oper} {y : Code} (h : W E l.toArray false l f G M (thn (WC E y Q) Q .normal)) : WC E (.seq (.region id l.toArray false) y) Q f G M := WC.seq (WC.region h)
theorem W.ns {E : Env} {f : Fr} {G : GH} {M : MH} {ops : List Oper} {q : Bool} {Q Q' : Exit → Kt} {id : Nat} {l : List Oper} {y : Code} (h : W E l.toArray false l f G M (thn (WC E y Q) Q .normal)) : W E ops.toArray q [] f G M (thn (WC E (.seq (.region id l.toArray false) y) Q) Q' .normal) := W.nt (WC.sr h)
theorem W.an {E : Env} {f : Fr} {G : GH} {M : MH} {ops : List Oper} {q : Bool} {K : Kt} {Q : Exit → Kt} {d : Nat} {ty : TypeId} {pos : String} {aft : Array Edge} {x : Operand} (k : K (upd f d (ev f x)) G M) (hd : Nat.blt d E.n = true := by rfl) : W E ops.toArray q [⟨some d, .assign x, ty, pos, aft, none⟩] f G M (thn K Q .normal) := W.as (W.nt k) hd
theorem WC.sk {E : Env} {f : Fr} {G : GH} {M : MH} {K : Kt} {Q : Exit → Kt} (h : K f G M) : WC E .skip (thn K Q) f G M := WC.skip (thn_n h)
theorem WC.rt {E : Env} {f : Fr} {G : GH} {M : MH} {K : Kt} {Q : Exit → Kt} (h : Q .ret f G M) : WC E .ret (thn K Q) f G M := WC.ret (thn_r h)
theorem WD.dn {E : Env} {f : Fr} {G : GH} {M Mk : MH} {ops : Array Oper} {K : Kt} {Q : Exit → Kt} {fuel : Nat} {listed : Array Bool} (h : K f G M) (hr : Region.ready .any ops listed = [] := by kernel_rfl) : WD E ops fuel listed f G M Mk (thn K Q .normal) := WD.done hr (thn_n h)
theorem odt {p : Prop} [Decidable p] (h : decide p = true) : p := of_decide_eq_true h
theorem odf {p : Prop} [Decidable p] (h : decide p = false) : ¬ p := of_decide_eq_false h
theorem nk9 {G : GH} {n : Nd} {a1 a2 a3 a4 : Option Addr} {c1 c2 c3 c4 : Nat} (h1 : SlR eStr G (.slice a1 n.pivots.length c1) n.pivots) (h2 : SlR eInt G (.slice a2 n.kids.length c2) n.kids) (h3 : SlR eMsg G (.slice a3 n.msgs.length c3) n.msgs) (h4 : SlR ePair G (.slice a4 n.rows.length c4) n.rows) (h : n.Ok) :
    NodeC G [.int .i64 n.slot, .int .i64 n.level, .slice a1 n.pivots.length c1, .slice a2 n.kids.length c2, .string n.high.b, .bool n.top, .int .i64 n.right, .int .i64 n.seen, .slice a3 n.msgs.length c3, .slice a4 n.rows.length c4] n := ⟨_, _, _, _, _, _, _, _, rfl, h1, h2, h3, h4, h⟩
theorem nm9 {G G' : GH} {n : Nd} {a1 a2 a3 a4 : Option Addr} {c1 c2 c3 c4 : Nat} (hl : Le G G') (h1 : SlR eStr G (.slice a1 n.pivots.length c1) n.pivots) (h2 : SlR eInt G (.slice a2 n.kids.length c2) n.kids) (h3 : SlR eMsg G (.slice a3 n.msgs.length c3) n.msgs) (h4 : SlR ePair G (.slice a4 n.rows.length c4) n.rows) (h : n.Ok) :
    NodeC G' [.int .i64 n.slot, .int .i64 n.level, .slice a1 n.pivots.length c1, .slice a2 n.kids.length c2, .string n.high.b, .bool n.top, .int .i64 n.right, .int .i64 n.seen, .slice a3 n.msgs.length c3, .slice a4 n.rows.length c4] n := (nk9 h1 h2 h3 h4 h).mono hl
end Go.Fw
namespace Go.Proofs.YtemoalimclnfkaaGreat
open Go Go.Fw
instance : SlK Tryz.prog 22 33 := ⟨sl22⟩
instance : TyK Tryz.prog 33 true 6 := ⟨ty33⟩
instance : TyK Tryz.prog 26 true 5 := ⟨ty26⟩
instance : TyK Tryz.prog 35 true 4 := ⟨ty35⟩
instance : SlK Tryz.prog 31 84 := ⟨sl31⟩
instance : TyK Tryz.prog 84 true 2 := ⟨ty84⟩
instance : FdK Tryz.prog 33 1 1 := ⟨fd33_1⟩
instance : TyK Tryz.prog 9 false 1 := ⟨ty9⟩
instance : StK Tryz.prog 9 := ⟨st9⟩
instance : FdK Tryz.prog 26 3 3 := ⟨fd26_3⟩
instance : TyK Tryz.prog 3 false 1 := ⟨ty3⟩
instance : FdK Tryz.prog 35 0 0 := ⟨fd35_0⟩
instance : TyK Tryz.prog 28 false 1 := ⟨ty28⟩
instance : FdK Tryz.prog 33 0 0 := ⟨fd33_0⟩
instance : SlK Tryz.prog 47 58 := ⟨sl47⟩
instance : TyK Tryz.prog 58 true 10 := ⟨ty58⟩
instance : SlK Tryz.prog 54 9 := ⟨sl54⟩
instance : FdK Tryz.prog 35 1 1 := ⟨fd35_1⟩
instance : TyK Tryz.prog 4 false 1 := ⟨ty4⟩
instance : FdK Tryz.prog 35 2 2 := ⟨fd35_2⟩
instance : FdK Tryz.prog 26 0 0 := ⟨fd26_0⟩
instance : FdK Tryz.prog 26 1 1 := ⟨fd26_1⟩
instance : FdK Tryz.prog 66 1 1 := ⟨fd66_1⟩
instance : FdK Tryz.prog 33 5 5 := ⟨fd33_5⟩
instance : FdK Tryz.prog 35 3 3 := ⟨fd35_3⟩
instance : TyK Tryz.prog 31 false 1 := ⟨ty31⟩
instance : FdK Tryz.prog 33 2 2 := ⟨fd33_2⟩
instance : FdK Tryz.prog 33 3 3 := ⟨fd33_3⟩
instance : FdK Tryz.prog 33 4 4 := ⟨fd33_4⟩
instance : TyK Tryz.prog 78 true 6 := ⟨ty78⟩
instance : BoK Tryz.prog 4 := ⟨bo4⟩
instance : SlK Tryz.prog 80 64 := ⟨sl80⟩
instance : TyK Tryz.prog 64 false 1 := ⟨ty64⟩
instance : FdK Tryz.prog 70 3 3 := ⟨fd70_3⟩
instance : FdK Tryz.prog 84 0 0 := ⟨fd84_0⟩
instance : FdK Tryz.prog 84 1 1 := ⟨fd84_1⟩
instance : FdK Tryz.prog 66 0 0 := ⟨fd66_0⟩
instance : TyK Tryz.prog 61 false 1 := ⟨ty61⟩
instance : FdK Tryz.prog 70 0 0 := ⟨fd70_0⟩
instance : SlK Tryz.prog 55 3 := ⟨sl55⟩
instance : FdK Tryz.prog 70 1 1 := ⟨fd70_1⟩
instance : TyK Tryz.prog 54 false 1 := ⟨ty54⟩
instance : FdK Tryz.prog 70 2 2 := ⟨fd70_2⟩
instance : TyK Tryz.prog 55 false 1 := ⟨ty55⟩
instance : FdK Tryz.prog 58 1 1 := ⟨fd58_1⟩
instance : FdK Tryz.prog 110 3 7 := ⟨fd110_3⟩
instance : FdK Tryz.prog 110 1 5 := ⟨fd110_1⟩
instance : TyK Tryz.prog 107 false 1 := ⟨ty107⟩
instance : SlK Tryz.prog 111 4 := ⟨sl111⟩
instance : FdK Tryz.prog 114 2 2 := ⟨fd114_2⟩
instance : TyK Tryz.prog 112 false 1 := ⟨ty112⟩
instance : SlK Tryz.prog 112 3 := ⟨sl112⟩
instance : FdK Tryz.prog 114 0 0 := ⟨fd114_0⟩
instance : TyK Tryz.prog 80 false 1 := ⟨ty80⟩
instance : FdK Tryz.prog 114 1 1 := ⟨fd114_1⟩
instance : TyK Tryz.prog 111 false 1 := ⟨ty111⟩
instance : TyK Tryz.prog 74 true 3 := ⟨ty74⟩
instance : FdK Tryz.prog 78 1 1 := ⟨fd78_1⟩
instance : FdK Tryz.prog 78 2 2 := ⟨fd78_2⟩
instance : TyK Tryz.prog 90 true 2 := ⟨ty90⟩
instance : FdK Tryz.prog 66 3 3 := ⟨fd66_3⟩
instance : FdK Tryz.prog 78 5 5 := ⟨fd78_5⟩
instance : FdK Tryz.prog 58 2 2 := ⟨fd58_2⟩
instance : FdK Tryz.prog 58 3 3 := ⟨fd58_3⟩
instance : FdK Tryz.prog 58 0 0 := ⟨fd58_0⟩
instance : FdK Tryz.prog 58 9 9 := ⟨fd58_9⟩
instance : FdK Tryz.prog 74 0 0 := ⟨fd74_0⟩
instance : FdK Tryz.prog 110 2 6 := ⟨fd110_2⟩
instance : TyK Tryz.prog 108 false 1 := ⟨ty108⟩
instance : FdK Tryz.prog 74 2 2 := ⟨fd74_2⟩
instance : FdK Tryz.prog 74 1 1 := ⟨fd74_1⟩
instance : FdK Tryz.prog 78 3 3 := ⟨fd78_3⟩
instance : FdK Tryz.prog 78 4 4 := ⟨fd78_4⟩
instance : FdK Tryz.prog 66 2 2 := ⟨fd66_2⟩
instance : FdK Tryz.prog 110 0 0 := ⟨fd110_0⟩
instance : FdK Tryz.prog 90 0 0 := ⟨fd90_0⟩
instance : FdK Tryz.prog 90 1 1 := ⟨fd90_1⟩
instance : SlK Tryz.prog 195 31 := ⟨sl195⟩
instance : SlK Tryz.prog 199 54 := ⟨sl199⟩
instance : SlK Tryz.prog 201 55 := ⟨sl201⟩
instance : MixK Tryz.prog := ⟨mix⟩
end Go.Proofs.YtemoalimclnfkaaGreat
