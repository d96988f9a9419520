/- Facts on types and functions of this seat, by program (seat.py). No condition. -/
import Derived.Test.YtipdjeemjiimbaaX1
import Derived.Test.YtipdjeemjiimbaaProg
namespace Go.Proofs.Ytipdjeemjiimbaa
open Go.Fw
set_option maxRecDepth 100000
theorem sl22 : sliceK Try.prog 22 = some 112 := by kernel_rfl
theorem ty112 : tyK Try.prog 112 = some (true, 2) := by kernel_rfl
theorem zr112 : zeroK Try.prog 112 = some [.string ⟨#[]⟩, .string ⟨#[]⟩] := by kernel_rfl
theorem by112 : bytesK Try.prog 112 = some 32 := by kernel_rfl
theorem sl23 : sliceK Try.prog 23 = some 115 := by kernel_rfl
theorem ty115 : tyK Try.prog 115 = some (true, 6) := by kernel_rfl
theorem zr115 : zeroK Try.prog 115 = some [.int .i64 0, .int .i64 0, .string ⟨#[]⟩, .string ⟨#[]⟩, .bool false, .string ⟨#[]⟩] := by kernel_rfl
theorem by115 : bytesK Try.prog 115 = some 72 := by kernel_rfl
theorem st9 : Try.prog.underlying 9 = some .string := by kernel_rfl
theorem bo4 : Try.prog.underlying 4 = some .bool := by kernel_rfl
theorem sl34 : sliceK Try.prog 34 = some 43 := by kernel_rfl
theorem ty43 : tyK Try.prog 43 = some (true, 3) := by kernel_rfl
theorem zr43 : zeroK Try.prog 43 = some [.int .i64 0, .int .i64 0, .int .i64 0] := by kernel_rfl
theorem by43 : bytesK Try.prog 43 = some 24 := by kernel_rfl
theorem fd43_0 : fieldK Try.prog 43 0 = some 0 := by kernel_rfl
theorem ty3 : tyK Try.prog 3 = some (false, 1) := by kernel_rfl
theorem zr3 : zeroK Try.prog 3 = some [.int .i64 0] := by kernel_rfl
theorem un3 : Try.prog.underlying 3 = some (.int .i64) := by kernel_rfl
theorem un44 : Try.prog.underlying 44 = some (.int .u64) := by kernel_rfl
theorem fd43_1 : fieldK Try.prog 43 1 = some 1 := by kernel_rfl
theorem fd50_1 : fieldK Try.prog 50 1 = some 1 := by kernel_rfl
theorem ty48 : tyK Try.prog 48 = some (false, 1) := by kernel_rfl
theorem zr48 : zeroK Try.prog 48 = some [.slice none 0 0] := by kernel_rfl
theorem sl48 : sliceK Try.prog 48 = some 4 := by kernel_rfl
theorem ty4 : tyK Try.prog 4 = some (false, 1) := by kernel_rfl
theorem zr4 : zeroK Try.prog 4 = some [.bool false] := by kernel_rfl
theorem by4 : bytesK Try.prog 4 = some 1 := by kernel_rfl
theorem fd43_2 : fieldK Try.prog 43 2 = some 2 := by kernel_rfl
theorem fd50_0 : fieldK Try.prog 50 0 = some 0 := by kernel_rfl
theorem ty47 : tyK Try.prog 47 = some (false, 1) := by kernel_rfl
theorem zr47 : zeroK Try.prog 47 = some [.slice none 0 0] := by kernel_rfl
theorem sl47 : sliceK Try.prog 47 = some 3 := by kernel_rfl
theorem by3 : bytesK Try.prog 3 = some 8 := by kernel_rfl
theorem sl61 : sliceK Try.prog 61 = some 9 := by kernel_rfl
theorem ty9 : tyK Try.prog 9 = some (false, 1) := by kernel_rfl
theorem zr9 : zeroK Try.prog 9 = some [.string ⟨#[]⟩] := by kernel_rfl
theorem by9 : bytesK Try.prog 9 = some 16 := by kernel_rfl
theorem ty68 : tyK Try.prog 68 = some (true, 3) := by kernel_rfl
theorem zr68 : zeroK Try.prog 68 = some [.string ⟨#[]⟩, .string ⟨#[]⟩, .bool false] := by kernel_rfl
theorem fd68_0 : fieldK Try.prog 68 0 = some 0 := by kernel_rfl
theorem sl79 : sliceK Try.prog 79 = some 23 := by kernel_rfl
theorem ty23 : tyK Try.prog 23 = some (false, 1) := by kernel_rfl
theorem zr23 : zeroK Try.prog 23 = some [.slice none 0 0] := by kernel_rfl
theorem by23 : bytesK Try.prog 23 = some 24 := by kernel_rfl
theorem ty88 : tyK Try.prog 88 = some (true, 2) := by kernel_rfl
theorem zr88 : zeroK Try.prog 88 = some [.int .i64 0, .string ⟨#[]⟩] := by kernel_rfl
theorem ty101 : tyK Try.prog 101 = some (true, 10) := by kernel_rfl
theorem zr101 : zeroK Try.prog 101 = some [.int .i64 0, .int .i64 0, .slice none 0 0, .slice none 0 0, .string ⟨#[]⟩, .bool false, .int .i64 0, .int .i64 0, .slice none 0 0, .slice none 0 0] := by kernel_rfl
theorem fd101_1 : fieldK Try.prog 101 1 = some 1 := by kernel_rfl
theorem fd101_2 : fieldK Try.prog 101 2 = some 2 := by kernel_rfl
theorem ty61 : tyK Try.prog 61 = some (false, 1) := by kernel_rfl
theorem zr61 : zeroK Try.prog 61 = some [.slice none 0 0] := by kernel_rfl
theorem fd101_3 : fieldK Try.prog 101 3 = some 3 := by kernel_rfl
theorem fd112_0 : fieldK Try.prog 112 0 = some 0 := by kernel_rfl
theorem fd68_1 : fieldK Try.prog 68 1 = some 1 := by kernel_rfl
theorem fd68_2 : fieldK Try.prog 68 2 = some 2 := by kernel_rfl
theorem pl115 : placesK Try.prog 115 = some [(0, 1), (1, 1), (2, 1), (3, 1), (4, 1), (5, 1)] := by kernel_rfl
theorem sl126 : sliceK Try.prog 126 = some 134 := by kernel_rfl
theorem ty134 : tyK Try.prog 134 = some (true, 6) := by kernel_rfl
theorem zr134 : zeroK Try.prog 134 = some [.int .i64 0, .string ⟨#[]⟩, .string ⟨#[]⟩, .bool false, .string ⟨#[]⟩, .int .i64 0] := by kernel_rfl
theorem by134 : bytesK Try.prog 134 = some 72 := by kernel_rfl
theorem fd134_0 : fieldK Try.prog 134 0 = some 0 := by kernel_rfl
theorem fd112_1 : fieldK Try.prog 112 1 = some 1 := by kernel_rfl
theorem pl68 : placesK Try.prog 68 = some [(0, 1), (1, 1), (2, 1)] := by kernel_rfl
theorem pl112 : placesK Try.prog 112 = some [(0, 1), (1, 1)] := by kernel_rfl
theorem eq112 : fieldKs Try.prog 112 = some [.string, .string] := by kernel_rfl
theorem ty146 : tyK Try.prog 146 = some (true, 5) := by kernel_rfl
theorem zr146 : zeroK Try.prog 146 = some [.int .i64 0, .int .i64 0, .int .i64 0, .int .i64 0, .int .i64 0] := by kernel_rfl
theorem sl148 : sliceK Try.prog 148 = some 101 := by kernel_rfl
theorem by101 : bytesK Try.prog 101 = some 152 := by kernel_rfl
theorem fd101_7 : fieldK Try.prog 101 7 = some 7 := by kernel_rfl
theorem fd101_9 : fieldK Try.prog 101 9 = some 9 := by kernel_rfl
theorem ty22 : tyK Try.prog 22 = some (false, 1) := by kernel_rfl
theorem zr22 : zeroK Try.prog 22 = some [.slice none 0 0] := by kernel_rfl
theorem fd101_8 : fieldK Try.prog 101 8 = some 8 := by kernel_rfl
theorem fd115_2 : fieldK Try.prog 115 2 = some 2 := by kernel_rfl
theorem fd115_3 : fieldK Try.prog 115 3 = some 3 := by kernel_rfl
theorem fd115_5 : fieldK Try.prog 115 5 = some 5 := by kernel_rfl
theorem fd115_0 : fieldK Try.prog 115 0 = some 0 := by kernel_rfl
theorem ty163 : tyK Try.prog 163 = some (true, 3) := by kernel_rfl
theorem zr163 : zeroK Try.prog 163 = some [.slice none 0 0, .slice none 0 0, .slice none 0 0] := by kernel_rfl
theorem pl163 : placesK Try.prog 163 = some [(0, 1), (1, 1), (2, 1)] := by kernel_rfl
theorem fd163_2 : fieldK Try.prog 163 2 = some 2 := by kernel_rfl
theorem ty161 : tyK Try.prog 161 = some (false, 1) := by kernel_rfl
theorem zr161 : zeroK Try.prog 161 = some [.slice none 0 0] := by kernel_rfl
theorem sl161 : sliceK Try.prog 161 = some 3 := by kernel_rfl
theorem ty50 : tyK Try.prog 50 = some (true, 2) := by kernel_rfl
theorem zr50 : zeroK Try.prog 50 = some [.slice none 0 0, .slice none 0 0] := by kernel_rfl
theorem pl50 : placesK Try.prog 50 = some [(0, 1), (1, 1)] := by kernel_rfl
theorem fd163_0 : fieldK Try.prog 163 0 = some 0 := by kernel_rfl
theorem fd163_1 : fieldK Try.prog 163 1 = some 1 := by kernel_rfl
theorem eq68 : fieldKs Try.prog 68 = some [.string, .string, .bool] := by kernel_rfl
theorem pl88 : placesK Try.prog 88 = some [(0, 1), (1, 1)] := by kernel_rfl
theorem eq115 : fieldKs Try.prog 115 = some [.int .i64, .int .i64, .string, .string, .bool, .string] := by kernel_rfl
theorem sl184 : sliceK Try.prog 184 = some 186 := by kernel_rfl
theorem ty186 : tyK Try.prog 186 = some (true, 2) := by kernel_rfl
theorem zr186 : zeroK Try.prog 186 = some [.slice none 0 0, .int .i64 0] := by kernel_rfl
theorem by186 : bytesK Try.prog 186 = some 32 := by kernel_rfl
theorem ty184 : tyK Try.prog 184 = some (false, 1) := by kernel_rfl
theorem zr184 : zeroK Try.prog 184 = some [.slice none 0 0] := by kernel_rfl
theorem pl186 : placesK Try.prog 186 = some [(0, 1), (1, 1)] := by kernel_rfl
theorem fd186_0 : fieldK Try.prog 186 0 = some 0 := by kernel_rfl
theorem fd88_0 : fieldK Try.prog 88 0 = some 0 := by kernel_rfl
theorem fd88_1 : fieldK Try.prog 88 1 = some 1 := by kernel_rfl
theorem pl101 : placesK Try.prog 101 = some [(0, 1), (1, 1), (2, 1), (3, 1), (4, 1), (5, 1), (6, 1), (7, 1), (8, 1), (9, 1)] := by kernel_rfl
theorem fd101_4 : fieldK Try.prog 101 4 = some 4 := by kernel_rfl
theorem fd101_6 : fieldK Try.prog 101 6 = some 6 := by kernel_rfl
theorem fd101_0 : fieldK Try.prog 101 0 = some 0 := by kernel_rfl
theorem fd101_5 : fieldK Try.prog 101 5 = some 5 := by kernel_rfl
theorem sl239 : sliceK Try.prog 239 = some 22 := by kernel_rfl
theorem by22 : bytesK Try.prog 22 = some 24 := by kernel_rfl
theorem fd115_1 : fieldK Try.prog 115 1 = some 1 := by kernel_rfl
theorem fd115_4 : fieldK Try.prog 115 4 = some 4 := by kernel_rfl
theorem pl134 : placesK Try.prog 134 = some [(0, 1), (1, 1), (2, 1), (3, 1), (4, 1), (5, 1)] := by kernel_rfl
theorem eq134 : fieldKs Try.prog 134 = some [.int .i64, .string, .string, .bool, .string, .int .i64] := by kernel_rfl
theorem sl205 : sliceK Try.prog 205 = some 208 := by kernel_rfl
theorem ty208 : tyK Try.prog 208 = some (true, 5) := by kernel_rfl
theorem zr208 : zeroK Try.prog 208 = some [.string ⟨#[]⟩, .string ⟨#[]⟩, .string ⟨#[]⟩, .bool false, .bool false] := by kernel_rfl
theorem by208 : bytesK Try.prog 208 = some 56 := by kernel_rfl
theorem fd208_0 : fieldK Try.prog 208 0 = some 0 := by kernel_rfl
theorem fd134_3 : fieldK Try.prog 134 3 = some 3 := by kernel_rfl
theorem fd134_2 : fieldK Try.prog 134 2 = some 2 := by kernel_rfl
theorem fd134_1 : fieldK Try.prog 134 1 = some 1 := by kernel_rfl
theorem fd134_4 : fieldK Try.prog 134 4 = some 4 := by kernel_rfl
theorem fd134_5 : fieldK Try.prog 134 5 = some 5 := by kernel_rfl
theorem ty137 : tyK Try.prog 137 = some (true, 4) := by kernel_rfl
theorem zr137 : zeroK Try.prog 137 = some [.int .i64 0, .bool false, .string ⟨#[]⟩, .slice none 0 0] := by kernel_rfl
theorem pl137 : placesK Try.prog 137 = some [(0, 1), (1, 1), (2, 1), (3, 1)] := by kernel_rfl
theorem fd137_0 : fieldK Try.prog 137 0 = some 0 := by kernel_rfl
theorem ty36 : tyK Try.prog 36 = some (false, 1) := by kernel_rfl
theorem zr36 : zeroK Try.prog 36 = some [.int .i64 0] := by kernel_rfl
theorem fd137_2 : fieldK Try.prog 137 2 = some 2 := by kernel_rfl
theorem fd137_1 : fieldK Try.prog 137 1 = some 1 := by kernel_rfl
theorem fd137_3 : fieldK Try.prog 137 3 = some 3 := by kernel_rfl
theorem fd208_3 : fieldK Try.prog 208 3 = some 3 := by kernel_rfl
theorem fd208_4 : fieldK Try.prog 208 4 = some 4 := by kernel_rfl
theorem fd208_1 : fieldK Try.prog 208 1 = some 1 := by kernel_rfl
theorem fd208_2 : fieldK Try.prog 208 2 = some 2 := by kernel_rfl
theorem pl146 : placesK Try.prog 146 = some [(0, 1), (1, 1), (2, 1), (3, 1), (4, 1)] := by kernel_rfl
theorem ty228 : tyK Try.prog 228 = some (true, 3) := by kernel_rfl
theorem zr228 : zeroK Try.prog 228 = some [.slice none 0 0, .slice none 0 0, .slice none 0 0] := by kernel_rfl
theorem pl228 : placesK Try.prog 228 = some [(0, 1), (1, 1), (2, 1)] := by kernel_rfl
theorem fd228_2 : fieldK Try.prog 228 2 = some 2 := by kernel_rfl
theorem fd228_0 : fieldK Try.prog 228 0 = some 0 := by kernel_rfl
theorem fd228_1 : fieldK Try.prog 228 1 = some 1 := by kernel_rfl
theorem pl208 : placesK Try.prog 208 = some [(0, 1), (1, 1), (2, 1), (3, 1), (4, 1)] := by kernel_rfl
theorem sl214 : sliceK Try.prog 214 = some 137 := by kernel_rfl
theorem by137 : bytesK Try.prog 137 = some 56 := by kernel_rfl
theorem fd146_1 : fieldK Try.prog 146 1 = some 1 := by kernel_rfl
theorem fd146_2 : fieldK Try.prog 146 2 = some 2 := by kernel_rfl
theorem fd146_0 : fieldK Try.prog 146 0 = some 0 := by kernel_rfl
theorem fd186_1 : fieldK Try.prog 186 1 = some 1 := by kernel_rfl
theorem cl3 : Callable Try.prog 3 := callable_of Try.func3 rfl (by decide)
theorem cl4 : Callable Try.prog 4 := callable_of Try.func4 rfl (by decide)
theorem cl5 : Callable Try.prog 5 := callable_of Try.func5 rfl (by decide)
theorem cl6 : Callable Try.prog 6 := callable_of Try.func6 rfl (by decide)
theorem cl7 : Callable Try.prog 7 := callable_of Try.func7 rfl (by decide)
theorem cl8 : Callable Try.prog 8 := callable_of Try.func8 rfl (by decide)
theorem cl9 : Callable Try.prog 9 := callable_of Try.func9 rfl (by decide)
theorem cl10 : Callable Try.prog 10 := callable_of Try.func10 rfl (by decide)
theorem cl11 : Callable Try.prog 11 := callable_of Try.func11 rfl (by decide)
theorem cl12 : Callable Try.prog 12 := callable_of Try.func12 rfl (by decide)
theorem cl13 : Callable Try.prog 13 := callable_of Try.func13 rfl (by decide)
theorem cl14 : Callable Try.prog 14 := callable_of Try.func14 rfl (by decide)
theorem cl15 : Callable Try.prog 15 := callable_of Try.func15 rfl (by decide)
theorem cl16 : Callable Try.prog 16 := callable_of Try.func16 rfl (by decide)
theorem cl17 : Callable Try.prog 17 := callable_of Try.func17 rfl (by decide)
theorem cl18 : Callable Try.prog 18 := callable_of Try.func18 rfl (by decide)
theorem cl19 : Callable Try.prog 19 := callable_of Try.func19 rfl (by decide)
theorem cl20 : Callable Try.prog 20 := callable_of Try.func20 rfl (by decide)
theorem cl21 : Callable Try.prog 21 := callable_of Try.func21 rfl (by decide)
theorem cl22 : Callable Try.prog 22 := callable_of Try.func22 rfl (by decide)
theorem cl23 : Callable Try.prog 23 := callable_of Try.func23 rfl (by decide)
theorem cl24 : Callable Try.prog 24 := callable_of Try.func24 rfl (by decide)
theorem cl25 : Callable Try.prog 25 := callable_of Try.func25 rfl (by decide)
theorem cl26 : Callable Try.prog 26 := callable_of Try.func26 rfl (by decide)
theorem cl27 : Callable Try.prog 27 := callable_of Try.func27 rfl (by decide)
theorem cl28 : Callable Try.prog 28 := callable_of Try.func28 rfl (by decide)
theorem cl29 : Callable Try.prog 29 := callable_of Try.func29 rfl (by decide)
theorem cl30 : Callable Try.prog 30 := callable_of Try.func30 rfl (by decide)
theorem cl31 : Callable Try.prog 31 := callable_of Try.func31 rfl (by decide)
theorem cl32 : Callable Try.prog 32 := callable_of Try.func32 rfl (by decide)
theorem cl33 : Callable Try.prog 33 := callable_of Try.func33 rfl (by decide)
theorem cl34 : Callable Try.prog 34 := callable_of Try.func34 rfl (by decide)
theorem cl35 : Callable Try.prog 35 := callable_of Try.func35 rfl (by decide)
theorem cl36 : Callable Try.prog 36 := callable_of Try.func36 rfl (by decide)
theorem cl37 : Callable Try.prog 37 := callable_of Try.func37 rfl (by decide)
theorem cl38 : Callable Try.prog 38 := callable_of Try.func38 rfl (by decide)
theorem cl39 : Callable Try.prog 39 := callable_of Try.func39 rfl (by decide)
theorem cl40 : Callable Try.prog 40 := callable_of Try.func40 rfl (by decide)
theorem cl41 : Callable Try.prog 41 := callable_of Try.func41 rfl (by decide)
theorem cl42 : Callable Try.prog 42 := callable_of Try.func42 rfl (by decide)
theorem cl43 : Callable Try.prog 43 := callable_of Try.func43 rfl (by decide)
theorem cl44 : Callable Try.prog 44 := callable_of Try.func44 rfl (by decide)
theorem cl45 : Callable Try.prog 45 := callable_of Try.func45 rfl (by decide)
theorem cl46 : Callable Try.prog 46 := callable_of Try.func46 rfl (by decide)
theorem cl47 : Callable Try.prog 47 := callable_of Try.func47 rfl (by decide)
theorem cl48 : Callable Try.prog 48 := callable_of Try.func48 rfl (by decide)
theorem cl49 : Callable Try.prog 49 := callable_of Try.func49 rfl (by decide)
theorem cl50 : Callable Try.prog 50 := callable_of Try.func50 rfl (by decide)
theorem cl51 : Callable Try.prog 51 := callable_of Try.func51 rfl (by decide)
theorem cl52 : Callable Try.prog 52 := callable_of Try.func52 rfl (by decide)
theorem cl53 : Callable Try.prog 53 := callable_of Try.func53 rfl (by decide)
theorem cl54 : Callable Try.prog 54 := callable_of Try.func54 rfl (by decide)
theorem cl55 : Callable Try.prog 55 := callable_of Try.func55 rfl (by decide)
theorem cl56 : Callable Try.prog 56 := callable_of Try.func56 rfl (by decide)
theorem cl57 : Callable Try.prog 57 := callable_of Try.func57 rfl (by decide)
theorem cl58 : Callable Try.prog 58 := callable_of Try.func58 rfl (by decide)
theorem cl59 : Callable Try.prog 59 := callable_of Try.func59 rfl (by decide)
theorem cl60 : Callable Try.prog 60 := callable_of Try.func60 rfl (by decide)
theorem cl61 : Callable Try.prog 61 := callable_of Try.func61 rfl (by decide)
theorem cl62 : Callable Try.prog 62 := callable_of Try.func62 rfl (by decide)
theorem cl63 : Callable Try.prog 63 := callable_of Try.func63 rfl (by decide)
theorem cl64 : Callable Try.prog 64 := callable_of Try.func64 rfl (by decide)
theorem cl65 : Callable Try.prog 65 := callable_of Try.func65 rfl (by decide)
theorem cl66 : Callable Try.prog 66 := callable_of Try.func66 rfl (by decide)
theorem cl67 : Callable Try.prog 67 := callable_of Try.func67 rfl (by decide)
theorem cl68 : Callable Try.prog 68 := callable_of Try.func68 rfl (by decide)
theorem cl69 : Callable Try.prog 69 := callable_of Try.func69 rfl (by decide)
theorem cl70 : Callable Try.prog 70 := callable_of Try.func70 rfl (by decide)
theorem cl71 : Callable Try.prog 71 := callable_of Try.func71 rfl (by decide)
theorem cl72 : Callable Try.prog 72 := callable_of Try.func72 rfl (by decide)
theorem cl73 : Callable Try.prog 73 := callable_of Try.func73 rfl (by decide)
theorem cl74 : Callable Try.prog 74 := callable_of Try.func74 rfl (by decide)
theorem cl75 : Callable Try.prog 75 := callable_of Try.func75 rfl (by decide)
theorem cl76 : Callable Try.prog 76 := callable_of Try.func76 rfl (by decide)
theorem cl77 : Callable Try.prog 77 := callable_of Try.func77 rfl (by decide)
theorem cl78 : Callable Try.prog 78 := callable_of Try.func78 rfl (by decide)
theorem cl79 : Callable Try.prog 79 := callable_of Try.func79 rfl (by decide)
theorem cl80 : Callable Try.prog 80 := callable_of Try.func80 rfl (by decide)
theorem cl81 : Callable Try.prog 81 := callable_of Try.func81 rfl (by decide)
theorem cl82 : Callable Try.prog 82 := callable_of Try.func82 rfl (by decide)
theorem cl83 : Callable Try.prog 83 := callable_of Try.func83 rfl (by decide)
theorem cl84 : Callable Try.prog 84 := callable_of Try.func84 rfl (by decide)
theorem cl85 : Callable Try.prog 85 := callable_of Try.func85 rfl (by decide)
theorem cl86 : Callable Try.prog 86 := callable_of Try.func86 rfl (by decide)
theorem cl87 : Callable Try.prog 87 := callable_of Try.func87 rfl (by decide)
theorem cl88 : Callable Try.prog 88 := callable_of Try.func88 rfl (by decide)
theorem cl89 : Callable Try.prog 89 := callable_of Try.func89 rfl (by decide)
theorem cl90 : Callable Try.prog 90 := callable_of Try.func90 rfl (by decide)
theorem cl91 : Callable Try.prog 91 := callable_of Try.func91 rfl (by decide)
theorem cl92 : Callable Try.prog 92 := callable_of Try.func92 rfl (by decide)
theorem cl93 : Callable Try.prog 93 := callable_of Try.func93 rfl (by decide)
theorem cl94 : Callable Try.prog 94 := callable_of Try.func94 rfl (by decide)
theorem cl95 : Callable Try.prog 95 := callable_of Try.func95 rfl (by decide)
theorem cl96 : Callable Try.prog 96 := callable_of Try.func96 rfl (by decide)
theorem cl97 : Callable Try.prog 97 := callable_of Try.func97 rfl (by decide)
theorem cl98 : Callable Try.prog 98 := callable_of Try.func98 rfl (by decide)
theorem cl99 : Callable Try.prog 99 := callable_of Try.func99 rfl (by decide)
theorem cl100 : Callable Try.prog 100 := callable_of Try.func100 rfl (by decide)
theorem cl101 : Callable Try.prog 101 := callable_of Try.func101 rfl (by decide)
theorem cl102 : Callable Try.prog 102 := callable_of Try.func102 rfl (by decide)
theorem cl103 : Callable Try.prog 103 := callable_of Try.func103 rfl (by decide)
theorem cl104 : Callable Try.prog 104 := callable_of Try.func104 rfl (by decide)
theorem cl105 : Callable Try.prog 105 := callable_of Try.func105 rfl (by decide)
theorem cl106 : Callable Try.prog 106 := callable_of Try.func106 rfl (by decide)
theorem cl107 : Callable Try.prog 107 := callable_of Try.func107 rfl (by decide)
theorem cl108 : Callable Try.prog 108 := callable_of Try.func108 rfl (by decide)
theorem cl109 : Callable Try.prog 109 := callable_of Try.func109 rfl (by decide)
theorem cl110 : Callable Try.prog 110 := callable_of Try.func110 rfl (by decide)
theorem cl111 : Callable Try.prog 111 := callable_of Try.func111 rfl (by decide)
theorem cl112 : Callable Try.prog 112 := callable_of Try.func112 rfl (by decide)
theorem cl113 : Callable Try.prog 113 := callable_of Try.func113 rfl (by decide)
theorem cl114 : Callable Try.prog 114 := callable_of Try.func114 rfl (by decide)
theorem cl115 : Callable Try.prog 115 := callable_of Try.func115 rfl (by decide)
theorem cl116 : Callable Try.prog 116 := callable_of Try.func116 rfl (by decide)
theorem cl117 : Callable Try.prog 117 := callable_of Try.func117 rfl (by decide)
theorem cl118 : Callable Try.prog 118 := callable_of Try.func118 rfl (by decide)
theorem cl119 : Callable Try.prog 119 := callable_of Try.func119 rfl (by decide)
theorem cl120 : Callable Try.prog 120 := callable_of Try.func120 rfl (by decide)
theorem cl121 : Callable Try.prog 121 := callable_of Try.func121 rfl (by decide)
theorem cl122 : Callable Try.prog 122 := callable_of Try.func122 rfl (by decide)
theorem cl123 : Callable Try.prog 123 := callable_of Try.func123 rfl (by decide)
theorem cl124 : Callable Try.prog 124 := callable_of Try.func124 rfl (by decide)
theorem cl125 : Callable Try.prog 125 := callable_of Try.func125 rfl (by decide)
theorem cl126 : Callable Try.prog 126 := callable_of Try.func126 rfl (by decide)
theorem cl127 : Callable Try.prog 127 := callable_of Try.func127 rfl (by decide)
theorem cl128 : Callable Try.prog 128 := callable_of Try.func128 rfl (by decide)
theorem cl129 : Callable Try.prog 129 := callable_of Try.func129 rfl (by decide)
theorem cl130 : Callable Try.prog 130 := callable_of Try.func130 rfl (by decide)
theorem cl131 : Callable Try.prog 131 := callable_of Try.func131 rfl (by decide)
theorem cl132 : Callable Try.prog 132 := callable_of Try.func132 rfl (by decide)
theorem cl133 : Callable Try.prog 133 := callable_of Try.func133 rfl (by decide)
theorem cl134 : Callable Try.prog 134 := callable_of Try.func134 rfl (by decide)
theorem cl135 : Callable Try.prog 135 := callable_of Try.func135 rfl (by decide)
theorem cl136 : Callable Try.prog 136 := callable_of Try.func136 rfl (by decide)
theorem cl137 : Callable Try.prog 137 := callable_of Try.func137 rfl (by decide)
theorem cl138 : Callable Try.prog 138 := callable_of Try.func138 rfl (by decide)
theorem cl139 : Callable Try.prog 139 := callable_of Try.func139 rfl (by decide)
theorem cl140 : Callable Try.prog 140 := callable_of Try.func140 rfl (by decide)
theorem cl141 : Callable Try.prog 141 := callable_of Try.func141 rfl (by decide)
theorem cl142 : Callable Try.prog 142 := callable_of Try.func142 rfl (by decide)
theorem cl143 : Callable Try.prog 143 := callable_of Try.func143 rfl (by decide)
theorem cl144 : Callable Try.prog 144 := callable_of Try.func144 rfl (by decide)
theorem cl145 : Callable Try.prog 145 := callable_of Try.func145 rfl (by decide)
theorem cl146 : Callable Try.prog 146 := callable_of Try.func146 rfl (by decide)
theorem cl147 : Callable Try.prog 147 := callable_of Try.func147 rfl (by decide)
theorem cl148 : Callable Try.prog 148 := callable_of Try.func148 rfl (by decide)
theorem cl149 : Callable Try.prog 149 := callable_of Try.func149 rfl (by decide)
theorem cl150 : Callable Try.prog 150 := callable_of Try.func150 rfl (by decide)
theorem cl151 : Callable Try.prog 151 := callable_of Try.func151 rfl (by decide)
theorem cl152 : Callable Try.prog 152 := callable_of Try.func152 rfl (by decide)
theorem cl153 : Callable Try.prog 153 := callable_of Try.func153 rfl (by decide)
theorem cl154 : Callable Try.prog 154 := callable_of Try.func154 rfl (by decide)
theorem cl155 : Callable Try.prog 155 := callable_of Try.func155 rfl (by decide)
theorem cl156 : Callable Try.prog 156 := callable_of Try.func156 rfl (by decide)
theorem cl157 : Callable Try.prog 157 := callable_of Try.func157 rfl (by decide)
theorem cl158 : Callable Try.prog 158 := callable_of Try.func158 rfl (by decide)
theorem cl159 : Callable Try.prog 159 := callable_of Try.func159 rfl (by decide)
theorem cl160 : Callable Try.prog 160 := callable_of Try.func160 rfl (by decide)
theorem cl161 : Callable Try.prog 161 := callable_of Try.func161 rfl (by decide)
theorem cl162 : Callable Try.prog 162 := callable_of Try.func162 rfl (by decide)
theorem cl163 : Callable Try.prog 163 := callable_of Try.func163 rfl (by decide)
theorem cl164 : Callable Try.prog 164 := callable_of Try.func164 rfl (by decide)
theorem cl165 : Callable Try.prog 165 := callable_of Try.func165 rfl (by decide)
theorem cl166 : Callable Try.prog 166 := callable_of Try.func166 rfl (by decide)
theorem cl167 : Callable Try.prog 167 := callable_of Try.func167 rfl (by decide)
theorem cl168 : Callable Try.prog 168 := callable_of Try.func168 rfl (by decide)
theorem cl169 : Callable Try.prog 169 := callable_of Try.func169 rfl (by decide)
theorem cl170 : Callable Try.prog 170 := callable_of Try.func170 rfl (by decide)
theorem cl171 : Callable Try.prog 171 := callable_of Try.func171 rfl (by decide)
theorem cl172 : Callable Try.prog 172 := callable_of Try.func172 rfl (by decide)
theorem cl173 : Callable Try.prog 173 := callable_of Try.func173 rfl (by decide)
theorem cl174 : Callable Try.prog 174 := callable_of Try.func174 rfl (by decide)
theorem cl175 : Callable Try.prog 175 := callable_of Try.func175 rfl (by decide)
theorem cl176 : Callable Try.prog 176 := callable_of Try.func176 rfl (by decide)
theorem cl177 : Callable Try.prog 177 := callable_of Try.func177 rfl (by decide)
theorem cl178 : Callable Try.prog 178 := callable_of Try.func178 rfl (by decide)
theorem cl179 : Callable Try.prog 179 := callable_of Try.func179 rfl (by decide)
theorem cl180 : Callable Try.prog 180 := callable_of Try.func180 rfl (by decide)
theorem cl181 : Callable Try.prog 181 := callable_of Try.func181 rfl (by decide)
theorem cl182 : Callable Try.prog 182 := callable_of Try.func182 rfl (by decide)
theorem cl183 : Callable Try.prog 183 := callable_of Try.func183 rfl (by decide)
theorem cl184 : Callable Try.prog 184 := callable_of Try.func184 rfl (by decide)
theorem cl185 : Callable Try.prog 185 := callable_of Try.func185 rfl (by decide)
theorem cl186 : Callable Try.prog 186 := callable_of Try.func186 rfl (by decide)
theorem cl187 : Callable Try.prog 187 := callable_of Try.func187 rfl (by decide)
theorem cl188 : Callable Try.prog 188 := callable_of Try.func188 rfl (by decide)
theorem cl189 : Callable Try.prog 189 := callable_of Try.func189 rfl (by decide)
theorem cl190 : Callable Try.prog 190 := callable_of Try.func190 rfl (by decide)
theorem cl191 : Callable Try.prog 191 := callable_of Try.func191 rfl (by decide)
theorem cl192 : Callable Try.prog 192 := callable_of Try.func192 rfl (by decide)
theorem cl193 : Callable Try.prog 193 := callable_of Try.func193 rfl (by decide)
theorem cl194 : Callable Try.prog 194 := callable_of Try.func194 rfl (by decide)
theorem cl196 : Callable Try.prog 196 := callable_of Try.func196 rfl (by decide)
theorem cl198 : Callable Try.prog 198 := callable_of Try.func198 rfl (by decide)
theorem cl199 : Callable Try.prog 199 := callable_of Try.func199 rfl (by decide)
theorem cl200 : Callable Try.prog 200 := callable_of Try.func200 rfl (by decide)
theorem cl201 : Callable Try.prog 201 := callable_of Try.func201 rfl (by decide)
theorem cl202 : Callable Try.prog 202 := callable_of Try.func202 rfl (by decide)
theorem cl203 : Callable Try.prog 203 := callable_of Try.func203 rfl (by decide)
theorem cl204 : Callable Try.prog 204 := callable_of Try.func204 rfl (by decide)
theorem cl205 : Callable Try.prog 205 := callable_of Try.func205 rfl (by decide)
theorem cl206 : Callable Try.prog 206 := callable_of Try.func206 rfl (by decide)
theorem cl207 : Callable Try.prog 207 := callable_of Try.func207 rfl (by decide)
theorem cl208 : Callable Try.prog 208 := callable_of Try.func208 rfl (by decide)
theorem cl209 : Callable Try.prog 209 := callable_of Try.func209 rfl (by decide)
theorem cl211 : Callable Try.prog 211 := callable_of Try.func211 rfl (by decide)
theorem cl212 : Callable Try.prog 212 := callable_of Try.func212 rfl (by decide)
theorem cl213 : Callable Try.prog 213 := callable_of Try.func213 rfl (by decide)
theorem cl214 : Callable Try.prog 214 := callable_of Try.func214 rfl (by decide)
theorem cl215 : Callable Try.prog 215 := callable_of Try.func215 rfl (by decide)
theorem cl216 : Callable Try.prog 216 := callable_of Try.func216 rfl (by decide)
theorem cl217 : Callable Try.prog 217 := callable_of Try.func217 rfl (by decide)
theorem cl218 : Callable Try.prog 218 := callable_of Try.func218 rfl (by decide)
theorem cl219 : Callable Try.prog 219 := callable_of Try.func219 rfl (by decide)
theorem cl220 : Callable Try.prog 220 := callable_of Try.func220 rfl (by decide)
theorem cl221 : Callable Try.prog 221 := callable_of Try.func221 rfl (by decide)
theorem cl222 : Callable Try.prog 222 := callable_of Try.func222 rfl (by decide)
theorem cl223 : Callable Try.prog 223 := callable_of Try.func223 rfl (by decide)
theorem cl224 : Callable Try.prog 224 := callable_of Try.func224 rfl (by decide)
theorem cl225 : Callable Try.prog 225 := callable_of Try.func225 rfl (by decide)
theorem cl226 : Callable Try.prog 226 := callable_of Try.func226 rfl (by decide)
theorem cl227 : Callable Try.prog 227 := callable_of Try.func227 rfl (by decide)
theorem cl228 : Callable Try.prog 228 := callable_of Try.func228 rfl (by decide)
theorem cl229 : Callable Try.prog 229 := callable_of Try.func229 rfl (by decide)
theorem cl230 : Callable Try.prog 230 := callable_of Try.func230 rfl (by decide)
theorem cl231 : Callable Try.prog 231 := callable_of Try.func231 rfl (by decide)
theorem cl232 : Callable Try.prog 232 := callable_of Try.func232 rfl (by decide)
theorem cl233 : Callable Try.prog 233 := callable_of Try.func233 rfl (by decide)
theorem cl234 : Callable Try.prog 234 := callable_of Try.func234 rfl (by decide)
theorem cl235 : Callable Try.prog 235 := callable_of Try.func235 rfl (by decide)
theorem cl236 : Callable Try.prog 236 := callable_of Try.func236 rfl (by decide)
theorem cl237 : Callable Try.prog 237 := callable_of Try.func237 rfl (by decide)
theorem cl238 : Callable Try.prog 238 := callable_of Try.func238 rfl (by decide)
theorem cl239 : Callable Try.prog 239 := callable_of Try.func239 rfl (by decide)
theorem cl240 : Callable Try.prog 240 := callable_of Try.func240 rfl (by decide)
theorem cl241 : Callable Try.prog 241 := callable_of Try.func241 rfl (by decide)
theorem cl242 : Callable Try.prog 242 := callable_of Try.func242 rfl (by decide)
theorem cl243 : Callable Try.prog 243 := callable_of Try.func243 rfl (by decide)
theorem cl244 : Callable Try.prog 244 := callable_of Try.func244 rfl (by decide)
theorem cl245 : Callable Try.prog 245 := callable_of Try.func245 rfl (by decide)
theorem cl246 : Callable Try.prog 246 := callable_of Try.func246 rfl (by decide)
theorem cl263 : Callable Try.prog 263 := callable_of Try.func263 rfl (by decide)
theorem cl264 : Callable Try.prog 264 := callable_of Try.func264 rfl (by decide)
theorem cl265 : Callable Try.prog 265 := callable_of Try.func265 rfl (by decide)
theorem cl266 : Callable Try.prog 266 := callable_of Try.func266 rfl (by decide)
theorem cl267 : Callable Try.prog 267 := callable_of Try.func267 rfl (by decide)
theorem cl272 : Callable Try.prog 272 := callable_of Try.func272 rfl (by decide)
theorem cl273 : Callable Try.prog 273 := callable_of Try.func273 rfl (by decide)
theorem cl274 : Callable Try.prog 274 := callable_of Try.func274 rfl (by decide)
theorem cl275 : Callable Try.prog 275 := callable_of Try.func275 rfl (by decide)
theorem mix : Try.prog.follows .mixedOrders = true := by kernel_rfl
end Go.Proofs.Ytipdjeemjiimbaa
