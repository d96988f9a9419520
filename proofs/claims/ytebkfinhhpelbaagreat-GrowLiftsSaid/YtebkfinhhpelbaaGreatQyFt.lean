/- Facts on types and functions of this seat, by program (seat.py). No condition. -/
import Derived.Test.YtebkfinhhpelbaaGreatProg
import Derived.Test.YtebkfinhhpelbaaGreatQyX2
namespace Go.Proofs.YtebkfinhhpelbaaGreat
open Go.Fw
set_option maxRecDepth 100000
theorem ty23 : tyK Tryz.prog 23 = some (true, 5) := by kernel_rfl
theorem zr23 : zeroK Tryz.prog 23 = some [.int .i64 0, .int .i64 0, .int .i64 0, .int .i64 0, .int .i64 0] := by kernel_rfl
theorem sl24 : sliceK Tryz.prog 24 = some 47 := by kernel_rfl
theorem ty47 : tyK Tryz.prog 47 = some (true, 10) := by kernel_rfl
theorem zr47 : zeroK Tryz.prog 47 = some [.int .i64 0, .int .i64 0, .slice none 0 0, .slice none 0 0, .string ⟨#[]⟩, .bool false, .int .i64 0, .int .i64 0, .slice none 0 0, .slice none 0 0] := by kernel_rfl
theorem by47 : bytesK Tryz.prog 47 = some 152 := by kernel_rfl
theorem fd38_1 : fieldK Tryz.prog 38 1 = some 5 := by kernel_rfl
theorem ty24 : tyK Tryz.prog 24 = some (false, 1) := by kernel_rfl
theorem sl41 : sliceK Tryz.prog 41 = some 69 := by kernel_rfl
theorem ty69 : tyK Tryz.prog 69 = some (true, 2) := by kernel_rfl
theorem zr69 : zeroK Tryz.prog 69 = some [.string ⟨#[]⟩, .string ⟨#[]⟩] := by kernel_rfl
theorem by69 : bytesK Tryz.prog 69 = some 32 := by kernel_rfl
theorem st9 : Tryz.prog.underlying 9 = some .string := by kernel_rfl
theorem fd47_8 : fieldK Tryz.prog 47 8 = some 8 := by kernel_rfl
theorem ty45 : tyK Tryz.prog 45 = some (false, 1) := by kernel_rfl
theorem zr45 : zeroK Tryz.prog 45 = some [.slice none 0 0] := by kernel_rfl
theorem sl45 : sliceK Tryz.prog 45 = some 49 := by kernel_rfl
theorem ty49 : tyK Tryz.prog 49 = some (true, 6) := by kernel_rfl
theorem zr49 : zeroK Tryz.prog 49 = some [.int .i64 0, .int .i64 0, .string ⟨#[]⟩, .string ⟨#[]⟩, .bool false, .string ⟨#[]⟩] := by kernel_rfl
theorem by49 : bytesK Tryz.prog 49 = some 72 := by kernel_rfl
theorem bo4 : Tryz.prog.underlying 4 = some .bool := by kernel_rfl
theorem ty9 : tyK Tryz.prog 9 = some (false, 1) := by kernel_rfl
theorem zr9 : zeroK Tryz.prog 9 = some [.string ⟨#[]⟩] := by kernel_rfl
theorem ty3 : tyK Tryz.prog 3 = some (false, 1) := by kernel_rfl
theorem zr3 : zeroK Tryz.prog 3 = some [.int .i64 0] := by kernel_rfl
theorem eq69 : fieldKs Tryz.prog 69 = some [.string, .string] := by kernel_rfl
theorem pl69 : placesK Tryz.prog 69 = some [(0, 1), (1, 1)] := by kernel_rfl
theorem ty52 : tyK Tryz.prog 52 = some (true, 3) := by kernel_rfl
theorem zr52 : zeroK Tryz.prog 52 = some [.string ⟨#[]⟩, .string ⟨#[]⟩, .bool false] := by kernel_rfl
theorem fd47_0 : fieldK Tryz.prog 47 0 = some 0 := by kernel_rfl
theorem fd47_7 : fieldK Tryz.prog 47 7 = some 7 := by kernel_rfl
theorem pl47 : placesK Tryz.prog 47 = some [(0, 1), (1, 1), (2, 1), (3, 1), (4, 1), (5, 1), (6, 1), (7, 1), (8, 1), (9, 1)] := by kernel_rfl
theorem pl23 : placesK Tryz.prog 23 = some [(0, 1), (1, 1), (2, 1), (3, 1), (4, 1)] := by kernel_rfl
theorem fd47_3 : fieldK Tryz.prog 47 3 = some 3 := by kernel_rfl
theorem ty44 : tyK Tryz.prog 44 = some (false, 1) := by kernel_rfl
theorem sl44 : sliceK Tryz.prog 44 = some 3 := by kernel_rfl
theorem by3 : bytesK Tryz.prog 3 = some 8 := by kernel_rfl
theorem zr38 : zeroK Tryz.prog 38 = some [.int .i64 0, .int .i64 0, .int .i64 0, .int .i64 0, .int .i64 0, .slice none 0 0] := by kernel_rfl
theorem pl38 : placesK Tryz.prog 38 = some [(0, 5), (5, 1)] := by kernel_rfl
theorem fd38_0 : fieldK Tryz.prog 38 0 = some 0 := by kernel_rfl
theorem fd23_3 : fieldK Tryz.prog 23 3 = some 3 := by kernel_rfl
theorem pp27 : ptrT Tryz.prog 27 = true := by kernel_rfl
theorem fd103_1 : fieldK Tryz.prog 103 1 = some 5 := by kernel_rfl
theorem ty101 : tyK Tryz.prog 101 = some (false, 1) := by kernel_rfl
theorem sl105 : sliceK Tryz.prog 105 = some 111 := by kernel_rfl
theorem ty111 : tyK Tryz.prog 111 = some (true, 14) := by kernel_rfl
theorem zr111 : zeroK Tryz.prog 111 = some [.int .i64 0, .int .i64 0, .slice none 0 0, .slice none 0 0, .string ⟨#[]⟩, .bool false, .int .i64 0, .int .i64 0, .slice none 0 0, .slice none 0 0, .string ⟨#[]⟩, .string ⟨#[]⟩, .bool false, .slice none 0 0] := by kernel_rfl
theorem by111 : bytesK Tryz.prog 111 = some 216 := by kernel_rfl
theorem fd111_0 : fieldK Tryz.prog 111 0 = some 0 := by kernel_rfl
theorem fd111_2 : fieldK Tryz.prog 111 2 = some 13 := by kernel_rfl
theorem fd49_0 : fieldK Tryz.prog 49 0 = some 0 := by kernel_rfl
theorem fd47_1 : fieldK Tryz.prog 47 1 = some 1 := by kernel_rfl
theorem fd47_9 : fieldK Tryz.prog 47 9 = some 9 := by kernel_rfl
theorem ty41 : tyK Tryz.prog 41 = some (false, 1) := by kernel_rfl
theorem fd111_1 : fieldK Tryz.prog 111 1 = some 10 := by kernel_rfl
theorem pl49 : placesK Tryz.prog 49 = some [(0, 1), (1, 1), (2, 1), (3, 1), (4, 1), (5, 1)] := by kernel_rfl
theorem fd52_0 : fieldK Tryz.prog 52 0 = some 0 := by kernel_rfl
theorem fd52_2 : fieldK Tryz.prog 52 2 = some 2 := by kernel_rfl
theorem ty4 : tyK Tryz.prog 4 = some (false, 1) := by kernel_rfl
theorem zr4 : zeroK Tryz.prog 4 = some [.bool false] := by kernel_rfl
theorem fd52_1 : fieldK Tryz.prog 52 1 = some 1 := by kernel_rfl
theorem fd49_1 : fieldK Tryz.prog 49 1 = some 1 := by kernel_rfl
theorem fd49_2 : fieldK Tryz.prog 49 2 = some 2 := by kernel_rfl
theorem fd49_3 : fieldK Tryz.prog 49 3 = some 3 := by kernel_rfl
theorem fd49_4 : fieldK Tryz.prog 49 4 = some 4 := by kernel_rfl
theorem pl52 : placesK Tryz.prog 52 = some [(0, 1), (1, 1), (2, 1)] := by kernel_rfl
theorem fd69_0 : fieldK Tryz.prog 69 0 = some 0 := by kernel_rfl
theorem fd69_1 : fieldK Tryz.prog 69 1 = some 1 := by kernel_rfl
theorem sl43 : sliceK Tryz.prog 43 = some 9 := by kernel_rfl
theorem by9 : bytesK Tryz.prog 9 = some 16 := by kernel_rfl
theorem fd47_2 : fieldK Tryz.prog 47 2 = some 2 := by kernel_rfl
theorem ty43 : tyK Tryz.prog 43 = some (false, 1) := by kernel_rfl
theorem sl187 : sliceK Tryz.prog 187 = some 45 := by kernel_rfl
theorem fd23_0 : fieldK Tryz.prog 23 0 = some 0 := by kernel_rfl
theorem fd23_1 : fieldK Tryz.prog 23 1 = some 1 := by kernel_rfl
theorem fd23_2 : fieldK Tryz.prog 23 2 = some 2 := by kernel_rfl
theorem fd23_4 : fieldK Tryz.prog 23 4 = some 4 := by kernel_rfl
theorem fd47_4 : fieldK Tryz.prog 47 4 = some 4 := by kernel_rfl
theorem zr103 : zeroK Tryz.prog 103 = some [.int .i64 0, .int .i64 0, .int .i64 0, .int .i64 0, .int .i64 0, .pointer none] := by kernel_rfl
theorem pl103 : placesK Tryz.prog 103 = some [(0, 5), (5, 1)] := by kernel_rfl
theorem fd47_5 : fieldK Tryz.prog 47 5 = some 5 := by kernel_rfl
theorem fd47_6 : fieldK Tryz.prog 47 6 = some 6 := by kernel_rfl
theorem pp101 : ptrT Tryz.prog 101 = true := by kernel_rfl
theorem fd182_1 : fieldK Tryz.prog 182 1 = some 1 := by kernel_rfl
theorem ty179 : tyK Tryz.prog 179 = some (false, 1) := by kernel_rfl
theorem sl179 : sliceK Tryz.prog 179 = some 4 := by kernel_rfl
theorem by4 : bytesK Tryz.prog 4 = some 1 := by kernel_rfl
theorem pl111 : placesK Tryz.prog 111 = some [(0, 10), (10, 3), (13, 1)] := by kernel_rfl
theorem eq52 : fieldKs Tryz.prog 52 = some [.string, .string, .bool] := by kernel_rfl
theorem fd49_5 : fieldK Tryz.prog 49 5 = some 5 := by kernel_rfl
theorem fd182_0 : fieldK Tryz.prog 182 0 = some 0 := by kernel_rfl
theorem fd182_2 : fieldK Tryz.prog 182 2 = some 2 := by kernel_rfl
theorem ty180 : tyK Tryz.prog 180 = some (false, 1) := by kernel_rfl
theorem sl180 : sliceK Tryz.prog 180 = some 3 := by kernel_rfl
theorem zr182 : zeroK Tryz.prog 182 = some [.slice none 0 0, .slice none 0 0, .slice none 0 0] := by kernel_rfl
theorem pl182 : placesK Tryz.prog 182 = some [(0, 1), (1, 1), (2, 1)] := by kernel_rfl
theorem pi239 : plainT Tryz.prog 239 = true := by kernel_rfl
theorem pi3 : plainT Tryz.prog 3 = true := by kernel_rfl
theorem eq49 : fieldKs Tryz.prog 49 = some [.int .i64, .int .i64, .string, .string, .bool, .string] := by kernel_rfl
theorem ty211 : tyK Tryz.prog 211 = some (true, 2) := by kernel_rfl
theorem zr211 : zeroK Tryz.prog 211 = some [.int .i64 0, .string ⟨#[]⟩] := by kernel_rfl
theorem fd211_0 : fieldK Tryz.prog 211 0 = some 0 := by kernel_rfl
theorem fd211_1 : fieldK Tryz.prog 211 1 = some 1 := by kernel_rfl
theorem pl211 : placesK Tryz.prog 211 = some [(0, 1), (1, 1)] := by kernel_rfl
theorem cl3 : Callable Tryz.prog 3 := callable_of Tryz.func3 rfl (by decide)
theorem cl11 : Callable Tryz.prog 11 := callable_of Tryz.func11 rfl (by decide)
theorem cl12 : Callable Tryz.prog 12 := callable_of Tryz.func12 rfl (by decide)
theorem cl13 : Callable Tryz.prog 13 := callable_of Tryz.func13 rfl (by decide)
theorem cl14 : Callable Tryz.prog 14 := callable_of Tryz.func14 rfl (by decide)
theorem cl15 : Callable Tryz.prog 15 := callable_of Tryz.func15 rfl (by decide)
theorem cl16 : Callable Tryz.prog 16 := callable_of Tryz.func16 rfl (by decide)
theorem cl17 : Callable Tryz.prog 17 := callable_of Tryz.func17 rfl (by decide)
theorem cl18 : Callable Tryz.prog 18 := callable_of Tryz.func18 rfl (by decide)
theorem cl19 : Callable Tryz.prog 19 := callable_of Tryz.func19 rfl (by decide)
theorem cl20 : Callable Tryz.prog 20 := callable_of Tryz.func20 rfl (by decide)
theorem cl21 : Callable Tryz.prog 21 := callable_of Tryz.func21 rfl (by decide)
theorem cl23 : Callable Tryz.prog 23 := callable_of Tryz.func23 rfl (by decide)
theorem cl24 : Callable Tryz.prog 24 := callable_of Tryz.func24 rfl (by decide)
theorem cl26 : Callable Tryz.prog 26 := callable_of Tryz.func26 rfl (by decide)
theorem cl50 : Callable Tryz.prog 50 := callable_of Tryz.func50 rfl (by decide)
theorem cl52 : Callable Tryz.prog 52 := callable_of Tryz.func52 rfl (by decide)
theorem cl53 : Callable Tryz.prog 53 := callable_of Tryz.func53 rfl (by decide)
theorem cl54 : Callable Tryz.prog 54 := callable_of Tryz.func54 rfl (by decide)
theorem cl55 : Callable Tryz.prog 55 := callable_of Tryz.func55 rfl (by decide)
theorem cl56 : Callable Tryz.prog 56 := callable_of Tryz.func56 rfl (by decide)
theorem cl57 : Callable Tryz.prog 57 := callable_of Tryz.func57 rfl (by decide)
theorem cl58 : Callable Tryz.prog 58 := callable_of Tryz.func58 rfl (by decide)
theorem cl59 : Callable Tryz.prog 59 := callable_of Tryz.func59 rfl (by decide)
theorem cl60 : Callable Tryz.prog 60 := callable_of Tryz.func60 rfl (by decide)
theorem cl61 : Callable Tryz.prog 61 := callable_of Tryz.func61 rfl (by decide)
theorem cl62 : Callable Tryz.prog 62 := callable_of Tryz.func62 rfl (by decide)
theorem cl63 : Callable Tryz.prog 63 := callable_of Tryz.func63 rfl (by decide)
theorem cl64 : Callable Tryz.prog 64 := callable_of Tryz.func64 rfl (by decide)
theorem cl65 : Callable Tryz.prog 65 := callable_of Tryz.func65 rfl (by decide)
theorem cl66 : Callable Tryz.prog 66 := callable_of Tryz.func66 rfl (by decide)
theorem cl67 : Callable Tryz.prog 67 := callable_of Tryz.func67 rfl (by decide)
theorem cl68 : Callable Tryz.prog 68 := callable_of Tryz.func68 rfl (by decide)
theorem cl69 : Callable Tryz.prog 69 := callable_of Tryz.func69 rfl (by decide)
theorem cl71 : Callable Tryz.prog 71 := callable_of Tryz.func71 rfl (by decide)
theorem cl74 : Callable Tryz.prog 74 := callable_of Tryz.func74 rfl (by decide)
theorem cl75 : Callable Tryz.prog 75 := callable_of Tryz.func75 rfl (by decide)
theorem cl93 : Callable Tryz.prog 93 := callable_of Tryz.func93 rfl (by decide)
theorem cl97 : Callable Tryz.prog 97 := callable_of Tryz.func97 rfl (by decide)
theorem cl105 : Callable Tryz.prog 105 := callable_of Tryz.func105 rfl (by decide)
theorem cl106 : Callable Tryz.prog 106 := callable_of Tryz.func106 rfl (by decide)
theorem cl108 : Callable Tryz.prog 108 := callable_of Tryz.func108 rfl (by decide)
theorem cl110 : Callable Tryz.prog 110 := callable_of Tryz.func110 rfl (by decide)
theorem cl111 : Callable Tryz.prog 111 := callable_of Tryz.func111 rfl (by decide)
theorem cl112 : Callable Tryz.prog 112 := callable_of Tryz.func112 rfl (by decide)
theorem cl113 : Callable Tryz.prog 113 := callable_of Tryz.func113 rfl (by decide)
theorem cl114 : Callable Tryz.prog 114 := callable_of Tryz.func114 rfl (by decide)
theorem cl115 : Callable Tryz.prog 115 := callable_of Tryz.func115 rfl (by decide)
theorem cl116 : Callable Tryz.prog 116 := callable_of Tryz.func116 rfl (by decide)
theorem cl117 : Callable Tryz.prog 117 := callable_of Tryz.func117 rfl (by decide)
theorem cl118 : Callable Tryz.prog 118 := callable_of Tryz.func118 rfl (by decide)
theorem cl119 : Callable Tryz.prog 119 := callable_of Tryz.func119 rfl (by decide)
theorem cl120 : Callable Tryz.prog 120 := callable_of Tryz.func120 rfl (by decide)
theorem cl121 : Callable Tryz.prog 121 := callable_of Tryz.func121 rfl (by decide)
theorem cl122 : Callable Tryz.prog 122 := callable_of Tryz.func122 rfl (by decide)
theorem cl123 : Callable Tryz.prog 123 := callable_of Tryz.func123 rfl (by decide)
theorem cl124 : Callable Tryz.prog 124 := callable_of Tryz.func124 rfl (by decide)
theorem cl125 : Callable Tryz.prog 125 := callable_of Tryz.func125 rfl (by decide)
theorem cl126 : Callable Tryz.prog 126 := callable_of Tryz.func126 rfl (by decide)
theorem cl127 : Callable Tryz.prog 127 := callable_of Tryz.func127 rfl (by decide)
theorem cl128 : Callable Tryz.prog 128 := callable_of Tryz.func128 rfl (by decide)
theorem cl129 : Callable Tryz.prog 129 := callable_of Tryz.func129 rfl (by decide)
theorem cl130 : Callable Tryz.prog 130 := callable_of Tryz.func130 rfl (by decide)
theorem cl131 : Callable Tryz.prog 131 := callable_of Tryz.func131 rfl (by decide)
theorem cl132 : Callable Tryz.prog 132 := callable_of Tryz.func132 rfl (by decide)
theorem cl133 : Callable Tryz.prog 133 := callable_of Tryz.func133 rfl (by decide)
theorem cl134 : Callable Tryz.prog 134 := callable_of Tryz.func134 rfl (by decide)
theorem cl137 : Callable Tryz.prog 137 := callable_of Tryz.func137 rfl (by decide)
theorem cl138 : Callable Tryz.prog 138 := callable_of Tryz.func138 rfl (by decide)
theorem cl147 : Callable Tryz.prog 147 := callable_of Tryz.func147 rfl (by decide)
theorem cl154 : Callable Tryz.prog 154 := callable_of Tryz.func154 rfl (by decide)
theorem cl156 : Callable Tryz.prog 156 := callable_of Tryz.func156 rfl (by decide)
theorem cl157 : Callable Tryz.prog 157 := callable_of Tryz.func157 rfl (by decide)
theorem cl158 : Callable Tryz.prog 158 := callable_of Tryz.func158 rfl (by decide)
theorem cl167 : Callable Tryz.prog 167 := callable_of Tryz.func167 rfl (by decide)
theorem cl170 : Callable Tryz.prog 170 := callable_of Tryz.func170 rfl (by decide)
theorem cl171 : Callable Tryz.prog 171 := callable_of Tryz.func171 rfl (by decide)
theorem cl172 : Callable Tryz.prog 172 := callable_of Tryz.func172 rfl (by decide)
theorem cl173 : Callable Tryz.prog 173 := callable_of Tryz.func173 rfl (by decide)
theorem cl174 : Callable Tryz.prog 174 := callable_of Tryz.func174 rfl (by decide)
theorem cl175 : Callable Tryz.prog 175 := callable_of Tryz.func175 rfl (by decide)
theorem cl176 : Callable Tryz.prog 176 := callable_of Tryz.func176 rfl (by decide)
theorem cl177 : Callable Tryz.prog 177 := callable_of Tryz.func177 rfl (by decide)
theorem cl178 : Callable Tryz.prog 178 := callable_of Tryz.func178 rfl (by decide)
theorem cl179 : Callable Tryz.prog 179 := callable_of Tryz.func179 rfl (by decide)
theorem cl180 : Callable Tryz.prog 180 := callable_of Tryz.func180 rfl (by decide)
theorem cl181 : Callable Tryz.prog 181 := callable_of Tryz.func181 rfl (by decide)
theorem cl182 : Callable Tryz.prog 182 := callable_of Tryz.func182 rfl (by decide)
theorem cl183 : Callable Tryz.prog 183 := callable_of Tryz.func183 rfl (by decide)
theorem cl184 : Callable Tryz.prog 184 := callable_of Tryz.func184 rfl (by decide)
theorem cl185 : Callable Tryz.prog 185 := callable_of Tryz.func185 rfl (by decide)
theorem cl186 : Callable Tryz.prog 186 := callable_of Tryz.func186 rfl (by decide)
theorem cl191 : Callable Tryz.prog 191 := callable_of Tryz.func191 rfl (by decide)
theorem cl199 : Callable Tryz.prog 199 := callable_of Tryz.func199 rfl (by decide)
theorem cl200 : Callable Tryz.prog 200 := callable_of Tryz.func200 rfl (by decide)
theorem cl208 : Callable Tryz.prog 208 := callable_of Tryz.func208 rfl (by decide)
theorem cl209 : Callable Tryz.prog 209 := callable_of Tryz.func209 rfl (by decide)
theorem cl210 : Callable Tryz.prog 210 := callable_of Tryz.func210 rfl (by decide)
theorem cl211 : Callable Tryz.prog 211 := callable_of Tryz.func211 rfl (by decide)
theorem cl212 : Callable Tryz.prog 212 := callable_of Tryz.func212 rfl (by decide)
theorem cl219 : Callable Tryz.prog 219 := callable_of Tryz.func219 rfl (by decide)
theorem cl224 : Callable Tryz.prog 224 := callable_of Tryz.func224 rfl (by decide)
theorem cl229 : Callable Tryz.prog 229 := callable_of Tryz.func229 rfl (by decide)
theorem cl232 : Callable Tryz.prog 232 := callable_of Tryz.func232 rfl (by decide)
theorem cl256 : Callable Tryz.prog 256 := callable_of Tryz.func256 rfl (by decide)
theorem cl257 : Callable Tryz.prog 257 := callable_of Tryz.func257 rfl (by decide)
theorem cl258 : Callable Tryz.prog 258 := callable_of Tryz.func258 rfl (by decide)
theorem cl263 : Callable Tryz.prog 263 := callable_of Tryz.func263 rfl (by decide)
theorem cl264 : Callable Tryz.prog 264 := callable_of Tryz.func264 rfl (by decide)
theorem mix : Tryz.prog.follows .mixedOrders = true := by kernel_rfl
end Go.Proofs.YtebkfinhhpelbaaGreat
