/- Facts on types and functions of this seat, by program (seat.py). No condition. -/
import Derived.Test.YtebkfinhhpelbaaGreatProg
import Derived.Test.YtebkfinhhpelbaaGreatQxX2
namespace Go.Proofs.YtebkfinhhpelbaaGreat
open Go.Fw
set_option maxRecDepth 100000
theorem ty23 : tyK Tryz.prog 23 = some (true, 5) := by kernel_rfl
theorem sl24 : sliceK Tryz.prog 24 = some 47 := by kernel_rfl
theorem ty47 : tyK Tryz.prog 47 = some (true, 10) := by kernel_rfl
theorem zr47 : zeroK Tryz.prog 47 = some [.int .i64 0, .int .i64 0, .slice none 0 0, .slice none 0 0, .string ⟨#[]⟩, .bool false, .int .i64 0, .int .i64 0, .slice none 0 0, .slice none 0 0] := by kernel_rfl
theorem by47 : bytesK Tryz.prog 47 = some 152 := by kernel_rfl
theorem sl41 : sliceK Tryz.prog 41 = some 69 := by kernel_rfl
theorem ty69 : tyK Tryz.prog 69 = some (true, 2) := by kernel_rfl
theorem zr69 : zeroK Tryz.prog 69 = some [.string ⟨#[]⟩, .string ⟨#[]⟩] := by kernel_rfl
theorem by69 : bytesK Tryz.prog 69 = some 32 := by kernel_rfl
theorem st9 : Tryz.prog.underlying 9 = some .string := by kernel_rfl
theorem fd47_8 : fieldK Tryz.prog 47 8 = some 8 := by kernel_rfl
theorem ty45 : tyK Tryz.prog 45 = some (false, 1) := by kernel_rfl
theorem zr45 : zeroK Tryz.prog 45 = some [.slice none 0 0] := by kernel_rfl
theorem sl45 : sliceK Tryz.prog 45 = some 49 := by kernel_rfl
theorem ty49 : tyK Tryz.prog 49 = some (true, 6) := by kernel_rfl
theorem zr49 : zeroK Tryz.prog 49 = some [.int .i64 0, .int .i64 0, .string ⟨#[]⟩, .string ⟨#[]⟩, .bool false, .string ⟨#[]⟩] := by kernel_rfl
theorem by49 : bytesK Tryz.prog 49 = some 72 := by kernel_rfl
theorem bo4 : Tryz.prog.underlying 4 = some .bool := by kernel_rfl
theorem ty9 : tyK Tryz.prog 9 = some (false, 1) := by kernel_rfl
theorem zr9 : zeroK Tryz.prog 9 = some [.string ⟨#[]⟩] := by kernel_rfl
theorem ty3 : tyK Tryz.prog 3 = some (false, 1) := by kernel_rfl
theorem zr3 : zeroK Tryz.prog 3 = some [.int .i64 0] := by kernel_rfl
theorem un3 : Tryz.prog.underlying 3 = some (.int .i64) := by kernel_rfl
theorem un64 : Tryz.prog.underlying 64 = some (.int .u64) := by kernel_rfl
theorem eq69 : fieldKs Tryz.prog 69 = some [.string, .string] := by kernel_rfl
theorem pl69 : placesK Tryz.prog 69 = some [(0, 1), (1, 1)] := by kernel_rfl
theorem sl77 : sliceK Tryz.prog 77 = some 155 := by kernel_rfl
theorem ty155 : tyK Tryz.prog 155 = some (true, 6) := by kernel_rfl
theorem zr155 : zeroK Tryz.prog 155 = some [.int .i64 0, .string ⟨#[]⟩, .string ⟨#[]⟩, .bool false, .string ⟨#[]⟩, .int .i64 0] := by kernel_rfl
theorem by155 : bytesK Tryz.prog 155 = some 72 := by kernel_rfl
theorem ty52 : tyK Tryz.prog 52 = some (true, 3) := by kernel_rfl
theorem zr52 : zeroK Tryz.prog 52 = some [.string ⟨#[]⟩, .string ⟨#[]⟩, .bool false] := by kernel_rfl
theorem fd47_0 : fieldK Tryz.prog 47 0 = some 0 := by kernel_rfl
theorem fd47_7 : fieldK Tryz.prog 47 7 = some 7 := by kernel_rfl
theorem pl47 : placesK Tryz.prog 47 = some [(0, 1), (1, 1), (2, 1), (3, 1), (4, 1), (5, 1), (6, 1), (7, 1), (8, 1), (9, 1)] := by kernel_rfl
theorem fd47_3 : fieldK Tryz.prog 47 3 = some 3 := by kernel_rfl
theorem ty44 : tyK Tryz.prog 44 = some (false, 1) := by kernel_rfl
theorem sl44 : sliceK Tryz.prog 44 = some 3 := by kernel_rfl
theorem by3 : bytesK Tryz.prog 3 = some 8 := by kernel_rfl
theorem fd23_3 : fieldK Tryz.prog 23 3 = some 3 := by kernel_rfl
theorem sl105 : sliceK Tryz.prog 105 = some 111 := by kernel_rfl
theorem ty111 : tyK Tryz.prog 111 = some (true, 14) := by kernel_rfl
theorem zr111 : zeroK Tryz.prog 111 = some [.int .i64 0, .int .i64 0, .slice none 0 0, .slice none 0 0, .string ⟨#[]⟩, .bool false, .int .i64 0, .int .i64 0, .slice none 0 0, .slice none 0 0, .string ⟨#[]⟩, .string ⟨#[]⟩, .bool false, .slice none 0 0] := by kernel_rfl
theorem by111 : bytesK Tryz.prog 111 = some 216 := by kernel_rfl
theorem fd111_0 : fieldK Tryz.prog 111 0 = some 0 := by kernel_rfl
theorem fd111_2 : fieldK Tryz.prog 111 2 = some 13 := by kernel_rfl
theorem fd49_0 : fieldK Tryz.prog 49 0 = some 0 := by kernel_rfl
theorem fd47_1 : fieldK Tryz.prog 47 1 = some 1 := by kernel_rfl
theorem fd47_9 : fieldK Tryz.prog 47 9 = some 9 := by kernel_rfl
theorem ty41 : tyK Tryz.prog 41 = some (false, 1) := by kernel_rfl
theorem zr41 : zeroK Tryz.prog 41 = some [.slice none 0 0] := by kernel_rfl
theorem fd111_1 : fieldK Tryz.prog 111 1 = some 10 := by kernel_rfl
theorem pl49 : placesK Tryz.prog 49 = some [(0, 1), (1, 1), (2, 1), (3, 1), (4, 1), (5, 1)] := by kernel_rfl
theorem fd52_0 : fieldK Tryz.prog 52 0 = some 0 := by kernel_rfl
theorem fd52_2 : fieldK Tryz.prog 52 2 = some 2 := by kernel_rfl
theorem ty4 : tyK Tryz.prog 4 = some (false, 1) := by kernel_rfl
theorem fd52_1 : fieldK Tryz.prog 52 1 = some 1 := by kernel_rfl
theorem fd49_1 : fieldK Tryz.prog 49 1 = some 1 := by kernel_rfl
theorem fd49_2 : fieldK Tryz.prog 49 2 = some 2 := by kernel_rfl
theorem fd49_3 : fieldK Tryz.prog 49 3 = some 3 := by kernel_rfl
theorem fd49_4 : fieldK Tryz.prog 49 4 = some 4 := by kernel_rfl
theorem pl52 : placesK Tryz.prog 52 = some [(0, 1), (1, 1), (2, 1)] := by kernel_rfl
theorem fd69_0 : fieldK Tryz.prog 69 0 = some 0 := by kernel_rfl
theorem fd69_1 : fieldK Tryz.prog 69 1 = some 1 := by kernel_rfl
theorem sl43 : sliceK Tryz.prog 43 = some 9 := by kernel_rfl
theorem by9 : bytesK Tryz.prog 9 = some 16 := by kernel_rfl
theorem ty137 : tyK Tryz.prog 137 = some (true, 4) := by kernel_rfl
theorem zr137 : zeroK Tryz.prog 137 = some [.string ⟨#[]⟩, .string ⟨#[]⟩, .bool false, .slice none 0 0] := by kernel_rfl
theorem pl137 : placesK Tryz.prog 137 = some [(0, 3), (3, 1)] := by kernel_rfl
theorem fd47_2 : fieldK Tryz.prog 47 2 = some 2 := by kernel_rfl
theorem ty43 : tyK Tryz.prog 43 = some (false, 1) := by kernel_rfl
theorem fd137_1 : fieldK Tryz.prog 137 1 = some 3 := by kernel_rfl
theorem sl187 : sliceK Tryz.prog 187 = some 45 := by kernel_rfl
theorem zr146 : zeroK Tryz.prog 146 = some [.map none, .map none, .nilFunc] := by kernel_rfl
theorem pl146 : placesK Tryz.prog 146 = some [(0, 1), (1, 1), (2, 1)] := by kernel_rfl
theorem pl155 : placesK Tryz.prog 155 = some [(0, 1), (1, 1), (2, 1), (3, 1), (4, 1), (5, 1)] := by kernel_rfl
theorem eq155 : fieldKs Tryz.prog 155 = some [.int .i64, .string, .string, .bool, .string, .int .i64] := by kernel_rfl
theorem fd23_0 : fieldK Tryz.prog 23 0 = some 0 := by kernel_rfl
theorem fd23_1 : fieldK Tryz.prog 23 1 = some 1 := by kernel_rfl
theorem fd23_2 : fieldK Tryz.prog 23 2 = some 2 := by kernel_rfl
theorem fd23_4 : fieldK Tryz.prog 23 4 = some 4 := by kernel_rfl
theorem fd47_4 : fieldK Tryz.prog 47 4 = some 4 := by kernel_rfl
theorem fd47_5 : fieldK Tryz.prog 47 5 = some 5 := by kernel_rfl
theorem fd47_6 : fieldK Tryz.prog 47 6 = some 6 := by kernel_rfl
theorem pl111 : placesK Tryz.prog 111 = some [(0, 10), (10, 3), (13, 1)] := by kernel_rfl
theorem eq52 : fieldKs Tryz.prog 52 = some [.string, .string, .bool] := by kernel_rfl
theorem sl202 : sliceK Tryz.prog 202 = some 205 := by kernel_rfl
theorem ty205 : tyK Tryz.prog 205 = some (true, 2) := by kernel_rfl
theorem zr205 : zeroK Tryz.prog 205 = some [.slice none 0 0, .int .i64 0] := by kernel_rfl
theorem by205 : bytesK Tryz.prog 205 = some 32 := by kernel_rfl
theorem ty202 : tyK Tryz.prog 202 = some (false, 1) := by kernel_rfl
theorem pi200 : plainT Tryz.prog 200 = true := by kernel_rfl
theorem pl205 : placesK Tryz.prog 205 = some [(0, 1), (1, 1)] := by kernel_rfl
theorem pi205 : plainT Tryz.prog 205 = true := by kernel_rfl
theorem fd205_0 : fieldK Tryz.prog 205 0 = some 0 := by kernel_rfl
theorem fd137_0 : fieldK Tryz.prog 137 0 = some 0 := by kernel_rfl
theorem fd146_0 : fieldK Tryz.prog 146 0 = some 0 := by kernel_rfl
theorem ty125 : tyK Tryz.prog 125 = some (false, 1) := by kernel_rfl
theorem fd146_1 : fieldK Tryz.prog 146 1 = some 1 := by kernel_rfl
theorem ty142 : tyK Tryz.prog 142 = some (false, 1) := by kernel_rfl
theorem fd146_2 : fieldK Tryz.prog 146 2 = some 2 := by kernel_rfl
theorem ty144 : tyK Tryz.prog 144 = some (false, 1) := by kernel_rfl
theorem sl221 : sliceK Tryz.prog 221 = some 225 := by kernel_rfl
theorem ty225 : tyK Tryz.prog 225 = some (true, 5) := by kernel_rfl
theorem zr225 : zeroK Tryz.prog 225 = some [.string ⟨#[]⟩, .string ⟨#[]⟩, .string ⟨#[]⟩, .bool false, .bool false] := by kernel_rfl
theorem by225 : bytesK Tryz.prog 225 = some 56 := by kernel_rfl
theorem fd225_0 : fieldK Tryz.prog 225 0 = some 0 := by kernel_rfl
theorem fd155_3 : fieldK Tryz.prog 155 3 = some 3 := by kernel_rfl
theorem fd155_2 : fieldK Tryz.prog 155 2 = some 2 := by kernel_rfl
theorem fd155_0 : fieldK Tryz.prog 155 0 = some 0 := by kernel_rfl
theorem fd155_1 : fieldK Tryz.prog 155 1 = some 1 := by kernel_rfl
theorem fd155_4 : fieldK Tryz.prog 155 4 = some 4 := by kernel_rfl
theorem fd155_5 : fieldK Tryz.prog 155 5 = some 5 := by kernel_rfl
theorem ty231 : tyK Tryz.prog 231 = some (true, 4) := by kernel_rfl
theorem zr231 : zeroK Tryz.prog 231 = some [.int .i64 0, .bool false, .string ⟨#[]⟩, .slice none 0 0] := by kernel_rfl
theorem sl158 : sliceK Tryz.prog 158 = some 231 := by kernel_rfl
theorem by231 : bytesK Tryz.prog 231 = some 56 := by kernel_rfl
theorem fd49_5 : fieldK Tryz.prog 49 5 = some 5 := by kernel_rfl
theorem ty211 : tyK Tryz.prog 211 = some (true, 2) := by kernel_rfl
theorem zr211 : zeroK Tryz.prog 211 = some [.int .i64 0, .string ⟨#[]⟩] := by kernel_rfl
theorem fd211_0 : fieldK Tryz.prog 211 0 = some 0 := by kernel_rfl
theorem fd211_1 : fieldK Tryz.prog 211 1 = some 1 := by kernel_rfl
theorem pl225 : placesK Tryz.prog 225 = some [(0, 1), (1, 1), (2, 1), (3, 1), (4, 1)] := by kernel_rfl
theorem fd225_4 : fieldK Tryz.prog 225 4 = some 4 := by kernel_rfl
theorem fd225_3 : fieldK Tryz.prog 225 3 = some 3 := by kernel_rfl
theorem fd225_1 : fieldK Tryz.prog 225 1 = some 1 := by kernel_rfl
theorem fd225_2 : fieldK Tryz.prog 225 2 = some 2 := by kernel_rfl
theorem pl231 : placesK Tryz.prog 231 = some [(0, 1), (1, 1), (2, 1), (3, 1)] := by kernel_rfl
theorem fd231_2 : fieldK Tryz.prog 231 2 = some 2 := by kernel_rfl
theorem fd231_1 : fieldK Tryz.prog 231 1 = some 1 := by kernel_rfl
theorem fd231_3 : fieldK Tryz.prog 231 3 = some 3 := by kernel_rfl
theorem pl211 : placesK Tryz.prog 211 = some [(0, 1), (1, 1)] := by kernel_rfl
theorem fd205_1 : fieldK Tryz.prog 205 1 = some 1 := by kernel_rfl
theorem cl9 : Callable Tryz.prog 9 := callable_of Tryz.func9 rfl (by decide)
theorem cl11 : Callable Tryz.prog 11 := callable_of Tryz.func11 rfl (by decide)
theorem cl19 : Callable Tryz.prog 19 := callable_of Tryz.func19 rfl (by decide)
theorem cl20 : Callable Tryz.prog 20 := callable_of Tryz.func20 rfl (by decide)
theorem cl21 : Callable Tryz.prog 21 := callable_of Tryz.func21 rfl (by decide)
theorem cl23 : Callable Tryz.prog 23 := callable_of Tryz.func23 rfl (by decide)
theorem cl24 : Callable Tryz.prog 24 := callable_of Tryz.func24 rfl (by decide)
theorem cl26 : Callable Tryz.prog 26 := callable_of Tryz.func26 rfl (by decide)
theorem cl39 : Callable Tryz.prog 39 := callable_of Tryz.func39 rfl (by decide)
theorem cl42 : Callable Tryz.prog 42 := callable_of Tryz.func42 rfl (by decide)
theorem cl43 : Callable Tryz.prog 43 := callable_of Tryz.func43 rfl (by decide)
theorem cl44 : Callable Tryz.prog 44 := callable_of Tryz.func44 rfl (by decide)
theorem cl45 : Callable Tryz.prog 45 := callable_of Tryz.func45 rfl (by decide)
theorem cl46 : Callable Tryz.prog 46 := callable_of Tryz.func46 rfl (by decide)
theorem cl50 : Callable Tryz.prog 50 := callable_of Tryz.func50 rfl (by decide)
theorem cl52 : Callable Tryz.prog 52 := callable_of Tryz.func52 rfl (by decide)
theorem cl53 : Callable Tryz.prog 53 := callable_of Tryz.func53 rfl (by decide)
theorem cl64 : Callable Tryz.prog 64 := callable_of Tryz.func64 rfl (by decide)
theorem cl65 : Callable Tryz.prog 65 := callable_of Tryz.func65 rfl (by decide)
theorem cl66 : Callable Tryz.prog 66 := callable_of Tryz.func66 rfl (by decide)
theorem cl67 : Callable Tryz.prog 67 := callable_of Tryz.func67 rfl (by decide)
theorem cl68 : Callable Tryz.prog 68 := callable_of Tryz.func68 rfl (by decide)
theorem cl69 : Callable Tryz.prog 69 := callable_of Tryz.func69 rfl (by decide)
theorem cl71 : Callable Tryz.prog 71 := callable_of Tryz.func71 rfl (by decide)
theorem cl74 : Callable Tryz.prog 74 := callable_of Tryz.func74 rfl (by decide)
theorem cl75 : Callable Tryz.prog 75 := callable_of Tryz.func75 rfl (by decide)
theorem cl77 : Callable Tryz.prog 77 := callable_of Tryz.func77 rfl (by decide)
theorem cl84 : Callable Tryz.prog 84 := callable_of Tryz.func84 rfl (by decide)
theorem cl85 : Callable Tryz.prog 85 := callable_of Tryz.func85 rfl (by decide)
theorem cl88 : Callable Tryz.prog 88 := callable_of Tryz.func88 rfl (by decide)
theorem cl89 : Callable Tryz.prog 89 := callable_of Tryz.func89 rfl (by decide)
theorem cl90 : Callable Tryz.prog 90 := callable_of Tryz.func90 rfl (by decide)
theorem cl99 : Callable Tryz.prog 99 := callable_of Tryz.func99 rfl (by decide)
theorem cl100 : Callable Tryz.prog 100 := callable_of Tryz.func100 rfl (by decide)
theorem cl101 : Callable Tryz.prog 101 := callable_of Tryz.func101 rfl (by decide)
theorem cl102 : Callable Tryz.prog 102 := callable_of Tryz.func102 rfl (by decide)
theorem cl103 : Callable Tryz.prog 103 := callable_of Tryz.func103 rfl (by decide)
theorem cl104 : Callable Tryz.prog 104 := callable_of Tryz.func104 rfl (by decide)
theorem cl105 : Callable Tryz.prog 105 := callable_of Tryz.func105 rfl (by decide)
theorem cl106 : Callable Tryz.prog 106 := callable_of Tryz.func106 rfl (by decide)
theorem cl108 : Callable Tryz.prog 108 := callable_of Tryz.func108 rfl (by decide)
theorem cl110 : Callable Tryz.prog 110 := callable_of Tryz.func110 rfl (by decide)
theorem cl111 : Callable Tryz.prog 111 := callable_of Tryz.func111 rfl (by decide)
theorem cl112 : Callable Tryz.prog 112 := callable_of Tryz.func112 rfl (by decide)
theorem cl125 : Callable Tryz.prog 125 := callable_of Tryz.func125 rfl (by decide)
theorem cl126 : Callable Tryz.prog 126 := callable_of Tryz.func126 rfl (by decide)
theorem cl127 : Callable Tryz.prog 127 := callable_of Tryz.func127 rfl (by decide)
theorem cl128 : Callable Tryz.prog 128 := callable_of Tryz.func128 rfl (by decide)
theorem cl129 : Callable Tryz.prog 129 := callable_of Tryz.func129 rfl (by decide)
theorem cl130 : Callable Tryz.prog 130 := callable_of Tryz.func130 rfl (by decide)
theorem cl131 : Callable Tryz.prog 131 := callable_of Tryz.func131 rfl (by decide)
theorem cl132 : Callable Tryz.prog 132 := callable_of Tryz.func132 rfl (by decide)
theorem cl133 : Callable Tryz.prog 133 := callable_of Tryz.func133 rfl (by decide)
theorem cl134 : Callable Tryz.prog 134 := callable_of Tryz.func134 rfl (by decide)
theorem cl137 : Callable Tryz.prog 137 := callable_of Tryz.func137 rfl (by decide)
theorem cl138 : Callable Tryz.prog 138 := callable_of Tryz.func138 rfl (by decide)
theorem cl139 : Callable Tryz.prog 139 := callable_of Tryz.func139 rfl (by decide)
theorem cl143 : Callable Tryz.prog 143 := callable_of Tryz.func143 rfl (by decide)
theorem cl145 : Callable Tryz.prog 145 := callable_of Tryz.func145 rfl (by decide)
theorem cl146 : Callable Tryz.prog 146 := callable_of Tryz.func146 rfl (by decide)
theorem cl147 : Callable Tryz.prog 147 := callable_of Tryz.func147 rfl (by decide)
theorem cl149 : Callable Tryz.prog 149 := callable_of Tryz.func149 rfl (by decide)
theorem cl150 : Callable Tryz.prog 150 := callable_of Tryz.func150 rfl (by decide)
theorem cl152 : Callable Tryz.prog 152 := callable_of Tryz.func152 rfl (by decide)
theorem cl153 : Callable Tryz.prog 153 := callable_of Tryz.func153 rfl (by decide)
theorem cl159 : Callable Tryz.prog 159 := callable_of Tryz.func159 rfl (by decide)
theorem cl160 : Callable Tryz.prog 160 := callable_of Tryz.func160 rfl (by decide)
theorem cl161 : Callable Tryz.prog 161 := callable_of Tryz.func161 rfl (by decide)
theorem cl162 : Callable Tryz.prog 162 := callable_of Tryz.func162 rfl (by decide)
theorem cl163 : Callable Tryz.prog 163 := callable_of Tryz.func163 rfl (by decide)
theorem cl164 : Callable Tryz.prog 164 := callable_of Tryz.func164 rfl (by decide)
theorem cl165 : Callable Tryz.prog 165 := callable_of Tryz.func165 rfl (by decide)
theorem cl166 : Callable Tryz.prog 166 := callable_of Tryz.func166 rfl (by decide)
theorem cl167 : Callable Tryz.prog 167 := callable_of Tryz.func167 rfl (by decide)
theorem cl168 : Callable Tryz.prog 168 := callable_of Tryz.func168 rfl (by decide)
theorem cl169 : Callable Tryz.prog 169 := callable_of Tryz.func169 rfl (by decide)
theorem cl176 : Callable Tryz.prog 176 := callable_of Tryz.func176 rfl (by decide)
theorem cl177 : Callable Tryz.prog 177 := callable_of Tryz.func177 rfl (by decide)
theorem cl178 : Callable Tryz.prog 178 := callable_of Tryz.func178 rfl (by decide)
theorem cl179 : Callable Tryz.prog 179 := callable_of Tryz.func179 rfl (by decide)
theorem cl180 : Callable Tryz.prog 180 := callable_of Tryz.func180 rfl (by decide)
theorem cl181 : Callable Tryz.prog 181 := callable_of Tryz.func181 rfl (by decide)
theorem cl182 : Callable Tryz.prog 182 := callable_of Tryz.func182 rfl (by decide)
theorem cl183 : Callable Tryz.prog 183 := callable_of Tryz.func183 rfl (by decide)
theorem cl185 : Callable Tryz.prog 185 := callable_of Tryz.func185 rfl (by decide)
theorem cl186 : Callable Tryz.prog 186 := callable_of Tryz.func186 rfl (by decide)
theorem cl187 : Callable Tryz.prog 187 := callable_of Tryz.func187 rfl (by decide)
theorem cl189 : Callable Tryz.prog 189 := callable_of Tryz.func189 rfl (by decide)
theorem cl190 : Callable Tryz.prog 190 := callable_of Tryz.func190 rfl (by decide)
theorem cl191 : Callable Tryz.prog 191 := callable_of Tryz.func191 rfl (by decide)
theorem cl194 : Callable Tryz.prog 194 := callable_of Tryz.func194 rfl (by decide)
theorem cl195 : Callable Tryz.prog 195 := callable_of Tryz.func195 rfl (by decide)
theorem cl197 : Callable Tryz.prog 197 := callable_of Tryz.func197 rfl (by decide)
theorem cl198 : Callable Tryz.prog 198 := callable_of Tryz.func198 rfl (by decide)
theorem cl203 : Callable Tryz.prog 203 := callable_of Tryz.func203 rfl (by decide)
theorem cl204 : Callable Tryz.prog 204 := callable_of Tryz.func204 rfl (by decide)
theorem cl205 : Callable Tryz.prog 205 := callable_of Tryz.func205 rfl (by decide)
theorem cl206 : Callable Tryz.prog 206 := callable_of Tryz.func206 rfl (by decide)
theorem cl207 : Callable Tryz.prog 207 := callable_of Tryz.func207 rfl (by decide)
theorem cl208 : Callable Tryz.prog 208 := callable_of Tryz.func208 rfl (by decide)
theorem cl209 : Callable Tryz.prog 209 := callable_of Tryz.func209 rfl (by decide)
theorem cl210 : Callable Tryz.prog 210 := callable_of Tryz.func210 rfl (by decide)
theorem cl211 : Callable Tryz.prog 211 := callable_of Tryz.func211 rfl (by decide)
theorem cl212 : Callable Tryz.prog 212 := callable_of Tryz.func212 rfl (by decide)
theorem cl213 : Callable Tryz.prog 213 := callable_of Tryz.func213 rfl (by decide)
theorem cl214 : Callable Tryz.prog 214 := callable_of Tryz.func214 rfl (by decide)
theorem cl215 : Callable Tryz.prog 215 := callable_of Tryz.func215 rfl (by decide)
theorem cl216 : Callable Tryz.prog 216 := callable_of Tryz.func216 rfl (by decide)
theorem cl217 : Callable Tryz.prog 217 := callable_of Tryz.func217 rfl (by decide)
theorem cl218 : Callable Tryz.prog 218 := callable_of Tryz.func218 rfl (by decide)
theorem cl224 : Callable Tryz.prog 224 := callable_of Tryz.func224 rfl (by decide)
theorem cl225 : Callable Tryz.prog 225 := callable_of Tryz.func225 rfl (by decide)
theorem cl226 : Callable Tryz.prog 226 := callable_of Tryz.func226 rfl (by decide)
theorem cl227 : Callable Tryz.prog 227 := callable_of Tryz.func227 rfl (by decide)
theorem cl228 : Callable Tryz.prog 228 := callable_of Tryz.func228 rfl (by decide)
theorem cl232 : Callable Tryz.prog 232 := callable_of Tryz.func232 rfl (by decide)
theorem cl233 : Callable Tryz.prog 233 := callable_of Tryz.func233 rfl (by decide)
theorem cl259 : Callable Tryz.prog 259 := callable_of Tryz.func259 rfl (by decide)
theorem cl260 : Callable Tryz.prog 260 := callable_of Tryz.func260 rfl (by decide)
theorem cl261 : Callable Tryz.prog 261 := callable_of Tryz.func261 rfl (by decide)
theorem cl262 : Callable Tryz.prog 262 := callable_of Tryz.func262 rfl (by decide)
theorem mix : Tryz.prog.follows .mixedOrders = true := by kernel_rfl
end Go.Proofs.YtebkfinhhpelbaaGreat
