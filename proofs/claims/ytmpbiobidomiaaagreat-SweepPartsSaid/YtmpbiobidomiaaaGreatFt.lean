/- Facts on types and functions of this seat, by program (seat.py). No condition. -/
import Derived.Test.YtmpbiobidomiaaaGreatX2
import Derived.Test.YtmpbiobidomiaaaGreatProg
namespace Go.Proofs.YtmpbiobidomiaaaGreat
open Go.Fw
set_option maxRecDepth 100000
theorem ty24 : tyK Tryz.prog 24 = some (true, 3) := by kernel_rfl
theorem zr24 : zeroK Tryz.prog 24 = some [.string ⟨#[]⟩, .string ⟨#[]⟩, .bool false] := by kernel_rfl
theorem sl22 : sliceK Tryz.prog 22 = some 37 := by kernel_rfl
theorem ty37 : tyK Tryz.prog 37 = some (true, 2) := by kernel_rfl
theorem zr37 : zeroK Tryz.prog 37 = some [.string ⟨#[]⟩, .string ⟨#[]⟩] := by kernel_rfl
theorem by37 : bytesK Tryz.prog 37 = some 32 := by kernel_rfl
theorem sl25 : sliceK Tryz.prog 25 = some 40 := by kernel_rfl
theorem ty40 : tyK Tryz.prog 40 = some (true, 6) := by kernel_rfl
theorem zr40 : zeroK Tryz.prog 40 = some [.int .i64 0, .int .i64 0, .string ⟨#[]⟩, .string ⟨#[]⟩, .bool false, .string ⟨#[]⟩] := by kernel_rfl
theorem by40 : bytesK Tryz.prog 40 = some 72 := by kernel_rfl
theorem st9 : Tryz.prog.underlying 9 = some .string := by kernel_rfl
theorem bo4 : Tryz.prog.underlying 4 = some .bool := by kernel_rfl
theorem fd37_0 : fieldK Tryz.prog 37 0 = some 0 := by kernel_rfl
theorem ty9 : tyK Tryz.prog 9 = some (false, 1) := by kernel_rfl
theorem zr9 : zeroK Tryz.prog 9 = some [.string ⟨#[]⟩] := by kernel_rfl
theorem fd37_1 : fieldK Tryz.prog 37 1 = some 1 := by kernel_rfl
theorem fd40_2 : fieldK Tryz.prog 40 2 = some 2 := by kernel_rfl
theorem fd40_3 : fieldK Tryz.prog 40 3 = some 3 := by kernel_rfl
theorem fd40_5 : fieldK Tryz.prog 40 5 = some 5 := by kernel_rfl
theorem fd40_0 : fieldK Tryz.prog 40 0 = some 0 := by kernel_rfl
theorem ty3 : tyK Tryz.prog 3 = some (false, 1) := by kernel_rfl
theorem zr3 : zeroK Tryz.prog 3 = some [.int .i64 0] := by kernel_rfl
theorem fd24_0 : fieldK Tryz.prog 24 0 = some 0 := by kernel_rfl
theorem fd24_1 : fieldK Tryz.prog 24 1 = some 1 := by kernel_rfl
theorem ty47 : tyK Tryz.prog 47 = some (true, 5) := by kernel_rfl
theorem zr47 : zeroK Tryz.prog 47 = some [.int .i64 0, .int .i64 0, .int .i64 0, .int .i64 0, .int .i64 0] := by kernel_rfl
theorem pl47 : placesK Tryz.prog 47 = some [(0, 1), (1, 1), (2, 1), (3, 1), (4, 1)] := by kernel_rfl
theorem pl37 : placesK Tryz.prog 37 = some [(0, 1), (1, 1)] := by kernel_rfl
theorem ty51 : tyK Tryz.prog 51 = some (true, 10) := by kernel_rfl
theorem zr51 : zeroK Tryz.prog 51 = some [.int .i64 0, .int .i64 0, .slice none 0 0, .slice none 0 0, .string ⟨#[]⟩, .bool false, .int .i64 0, .int .i64 0, .slice none 0 0, .slice none 0 0] := by kernel_rfl
theorem pl51 : placesK Tryz.prog 51 = some [(0, 1), (1, 1), (2, 1), (3, 1), (4, 1), (5, 1), (6, 1), (7, 1), (8, 1), (9, 1)] := by kernel_rfl
theorem sl52 : sliceK Tryz.prog 52 = some 51 := by kernel_rfl
theorem by51 : bytesK Tryz.prog 51 = some 152 := by kernel_rfl
theorem pl24 : placesK Tryz.prog 24 = some [(0, 1), (1, 1), (2, 1)] := by kernel_rfl
theorem fd24_2 : fieldK Tryz.prog 24 2 = some 2 := by kernel_rfl
theorem ty4 : tyK Tryz.prog 4 = some (false, 1) := by kernel_rfl
theorem zr4 : zeroK Tryz.prog 4 = some [.bool false] := by kernel_rfl
theorem pt24_1 : partK Tryz.prog 24 1 = some (false, 1, 1) := by kernel_rfl
theorem eq37 : fieldKs Tryz.prog 37 = some [.string, .string] := by kernel_rfl
theorem fd40_1 : fieldK Tryz.prog 40 1 = some 1 := by kernel_rfl
theorem fd40_4 : fieldK Tryz.prog 40 4 = some 4 := by kernel_rfl
theorem fd51_0 : fieldK Tryz.prog 51 0 = some 0 := by kernel_rfl
theorem fd51_9 : fieldK Tryz.prog 51 9 = some 9 := by kernel_rfl
theorem ty22 : tyK Tryz.prog 22 = some (false, 1) := by kernel_rfl
theorem zr22 : zeroK Tryz.prog 22 = some [.slice none 0 0] := by kernel_rfl
theorem fd47_3 : fieldK Tryz.prog 47 3 = some 3 := by kernel_rfl
theorem ty80 : tyK Tryz.prog 80 = some (true, 6) := by kernel_rfl
theorem zr80 : zeroK Tryz.prog 80 = some [.int .i64 0, .int .i64 0, .int .i64 0, .int .i64 0, .int .i64 0, .pointer none] := by kernel_rfl
theorem pl80 : placesK Tryz.prog 80 = some [(0, 5), (5, 1)] := by kernel_rfl
theorem fd80_1 : fieldK Tryz.prog 80 1 = some 5 := by kernel_rfl
theorem ty76 : tyK Tryz.prog 76 = some (false, 1) := by kernel_rfl
theorem zr76 : zeroK Tryz.prog 76 = some [.pointer none] := by kernel_rfl
theorem sl84 : sliceK Tryz.prog 84 = some 24 := by kernel_rfl
theorem by24 : bytesK Tryz.prog 24 = some 40 := by kernel_rfl
theorem fd51_8 : fieldK Tryz.prog 51 8 = some 8 := by kernel_rfl
theorem ty25 : tyK Tryz.prog 25 = some (false, 1) := by kernel_rfl
theorem zr25 : zeroK Tryz.prog 25 = some [.slice none 0 0] := by kernel_rfl
theorem sl87 : sliceK Tryz.prog 87 = some 25 := by kernel_rfl
theorem by25 : bytesK Tryz.prog 25 = some 24 := by kernel_rfl
theorem fd47_0 : fieldK Tryz.prog 47 0 = some 0 := by kernel_rfl
theorem fd47_1 : fieldK Tryz.prog 47 1 = some 1 := by kernel_rfl
theorem fd47_2 : fieldK Tryz.prog 47 2 = some 2 := by kernel_rfl
theorem fd47_4 : fieldK Tryz.prog 47 4 = some 4 := by kernel_rfl
theorem sl93 : sliceK Tryz.prog 93 = some 4 := by kernel_rfl
theorem by4 : bytesK Tryz.prog 4 = some 1 := by kernel_rfl
theorem ty96 : tyK Tryz.prog 96 = some (true, 3) := by kernel_rfl
theorem zr96 : zeroK Tryz.prog 96 = some [.slice none 0 0, .slice none 0 0, .slice none 0 0] := by kernel_rfl
theorem pl96 : placesK Tryz.prog 96 = some [(0, 1), (1, 1), (2, 1)] := by kernel_rfl
theorem fd96_2 : fieldK Tryz.prog 96 2 = some 2 := by kernel_rfl
theorem ty94 : tyK Tryz.prog 94 = some (false, 1) := by kernel_rfl
theorem zr94 : zeroK Tryz.prog 94 = some [.slice none 0 0] := by kernel_rfl
theorem sl94 : sliceK Tryz.prog 94 = some 3 := by kernel_rfl
theorem by3 : bytesK Tryz.prog 3 = some 8 := by kernel_rfl
theorem fd96_0 : fieldK Tryz.prog 96 0 = some 0 := by kernel_rfl
theorem ty52 : tyK Tryz.prog 52 = some (false, 1) := by kernel_rfl
theorem zr52 : zeroK Tryz.prog 52 = some [.slice none 0 0] := by kernel_rfl
theorem fd96_1 : fieldK Tryz.prog 96 1 = some 1 := by kernel_rfl
theorem ty93 : tyK Tryz.prog 93 = some (false, 1) := by kernel_rfl
theorem zr93 : zeroK Tryz.prog 93 = some [.slice none 0 0] := by kernel_rfl
theorem fd51_2 : fieldK Tryz.prog 51 2 = some 2 := by kernel_rfl
theorem ty48 : tyK Tryz.prog 48 = some (false, 1) := by kernel_rfl
theorem zr48 : zeroK Tryz.prog 48 = some [.slice none 0 0] := by kernel_rfl
theorem sl48 : sliceK Tryz.prog 48 = some 9 := by kernel_rfl
theorem by9 : bytesK Tryz.prog 9 = some 16 := by kernel_rfl
theorem fd51_3 : fieldK Tryz.prog 51 3 = some 3 := by kernel_rfl
theorem ty49 : tyK Tryz.prog 49 = some (false, 1) := by kernel_rfl
theorem zr49 : zeroK Tryz.prog 49 = some [.slice none 0 0] := by kernel_rfl
theorem sl49 : sliceK Tryz.prog 49 = some 3 := by kernel_rfl
theorem fd51_1 : fieldK Tryz.prog 51 1 = some 1 := by kernel_rfl
theorem pl40 : placesK Tryz.prog 40 = some [(0, 1), (1, 1), (2, 1), (3, 1), (4, 1), (5, 1)] := by kernel_rfl
theorem sl126 : sliceK Tryz.prog 126 = some 129 := by kernel_rfl
theorem ty129 : tyK Tryz.prog 129 = some (true, 2) := by kernel_rfl
theorem zr129 : zeroK Tryz.prog 129 = some [.slice none 0 0, .int .i64 0] := by kernel_rfl
theorem by129 : bytesK Tryz.prog 129 = some 32 := by kernel_rfl
theorem ty126 : tyK Tryz.prog 126 = some (false, 1) := by kernel_rfl
theorem zr126 : zeroK Tryz.prog 126 = some [.slice none 0 0] := by kernel_rfl
theorem pl129 : placesK Tryz.prog 129 = some [(0, 1), (1, 1)] := by kernel_rfl
theorem fd129_0 : fieldK Tryz.prog 129 0 = some 0 := by kernel_rfl
theorem ty113 : tyK Tryz.prog 113 = some (true, 2) := by kernel_rfl
theorem zr113 : zeroK Tryz.prog 113 = some [.int .i64 0, .string ⟨#[]⟩] := by kernel_rfl
theorem pl113 : placesK Tryz.prog 113 = some [(0, 1), (1, 1)] := by kernel_rfl
theorem un3 : Tryz.prog.underlying 3 = some (.int .i64) := by kernel_rfl
theorem un142 : Tryz.prog.underlying 142 = some (.int .u64) := by kernel_rfl
theorem fd113_0 : fieldK Tryz.prog 113 0 = some 0 := by kernel_rfl
theorem fd113_1 : fieldK Tryz.prog 113 1 = some 1 := by kernel_rfl
theorem fd129_1 : fieldK Tryz.prog 129 1 = some 1 := by kernel_rfl
theorem cl3 : Callable Tryz.prog 3 := callable_of Tryz.func3 rfl (by decide)
theorem cl4 : Callable Tryz.prog 4 := callable_of Tryz.func4 rfl (by decide)
theorem cl5 : Callable Tryz.prog 5 := callable_of Tryz.func5 rfl (by decide)
theorem cl6 : Callable Tryz.prog 6 := callable_of Tryz.func6 rfl (by decide)
theorem cl7 : Callable Tryz.prog 7 := callable_of Tryz.func7 rfl (by decide)
theorem cl8 : Callable Tryz.prog 8 := callable_of Tryz.func8 rfl (by decide)
theorem cl9 : Callable Tryz.prog 9 := callable_of Tryz.func9 rfl (by decide)
theorem cl10 : Callable Tryz.prog 10 := callable_of Tryz.func10 rfl (by decide)
theorem cl11 : Callable Tryz.prog 11 := callable_of Tryz.func11 rfl (by decide)
theorem cl12 : Callable Tryz.prog 12 := callable_of Tryz.func12 rfl (by decide)
theorem cl13 : Callable Tryz.prog 13 := callable_of Tryz.func13 rfl (by decide)
theorem cl14 : Callable Tryz.prog 14 := callable_of Tryz.func14 rfl (by decide)
theorem cl15 : Callable Tryz.prog 15 := callable_of Tryz.func15 rfl (by decide)
theorem cl16 : Callable Tryz.prog 16 := callable_of Tryz.func16 rfl (by decide)
theorem cl17 : Callable Tryz.prog 17 := callable_of Tryz.func17 rfl (by decide)
theorem cl18 : Callable Tryz.prog 18 := callable_of Tryz.func18 rfl (by decide)
theorem cl19 : Callable Tryz.prog 19 := callable_of Tryz.func19 rfl (by decide)
theorem cl20 : Callable Tryz.prog 20 := callable_of Tryz.func20 rfl (by decide)
theorem cl21 : Callable Tryz.prog 21 := callable_of Tryz.func21 rfl (by decide)
theorem cl22 : Callable Tryz.prog 22 := callable_of Tryz.func22 rfl (by decide)
theorem cl23 : Callable Tryz.prog 23 := callable_of Tryz.func23 rfl (by decide)
theorem cl24 : Callable Tryz.prog 24 := callable_of Tryz.func24 rfl (by decide)
theorem cl25 : Callable Tryz.prog 25 := callable_of Tryz.func25 rfl (by decide)
theorem cl26 : Callable Tryz.prog 26 := callable_of Tryz.func26 rfl (by decide)
theorem cl27 : Callable Tryz.prog 27 := callable_of Tryz.func27 rfl (by decide)
theorem cl28 : Callable Tryz.prog 28 := callable_of Tryz.func28 rfl (by decide)
theorem cl29 : Callable Tryz.prog 29 := callable_of Tryz.func29 rfl (by decide)
theorem cl30 : Callable Tryz.prog 30 := callable_of Tryz.func30 rfl (by decide)
theorem cl31 : Callable Tryz.prog 31 := callable_of Tryz.func31 rfl (by decide)
theorem cl32 : Callable Tryz.prog 32 := callable_of Tryz.func32 rfl (by decide)
theorem cl33 : Callable Tryz.prog 33 := callable_of Tryz.func33 rfl (by decide)
theorem cl34 : Callable Tryz.prog 34 := callable_of Tryz.func34 rfl (by decide)
theorem cl35 : Callable Tryz.prog 35 := callable_of Tryz.func35 rfl (by decide)
theorem cl36 : Callable Tryz.prog 36 := callable_of Tryz.func36 rfl (by decide)
theorem cl37 : Callable Tryz.prog 37 := callable_of Tryz.func37 rfl (by decide)
theorem cl38 : Callable Tryz.prog 38 := callable_of Tryz.func38 rfl (by decide)
theorem cl39 : Callable Tryz.prog 39 := callable_of Tryz.func39 rfl (by decide)
theorem cl40 : Callable Tryz.prog 40 := callable_of Tryz.func40 rfl (by decide)
theorem cl41 : Callable Tryz.prog 41 := callable_of Tryz.func41 rfl (by decide)
theorem cl42 : Callable Tryz.prog 42 := callable_of Tryz.func42 rfl (by decide)
theorem cl43 : Callable Tryz.prog 43 := callable_of Tryz.func43 rfl (by decide)
theorem cl44 : Callable Tryz.prog 44 := callable_of Tryz.func44 rfl (by decide)
theorem cl45 : Callable Tryz.prog 45 := callable_of Tryz.func45 rfl (by decide)
theorem cl46 : Callable Tryz.prog 46 := callable_of Tryz.func46 rfl (by decide)
theorem cl47 : Callable Tryz.prog 47 := callable_of Tryz.func47 rfl (by decide)
theorem cl48 : Callable Tryz.prog 48 := callable_of Tryz.func48 rfl (by decide)
theorem cl49 : Callable Tryz.prog 49 := callable_of Tryz.func49 rfl (by decide)
theorem cl50 : Callable Tryz.prog 50 := callable_of Tryz.func50 rfl (by decide)
theorem cl51 : Callable Tryz.prog 51 := callable_of Tryz.func51 rfl (by decide)
theorem cl52 : Callable Tryz.prog 52 := callable_of Tryz.func52 rfl (by decide)
theorem cl53 : Callable Tryz.prog 53 := callable_of Tryz.func53 rfl (by decide)
theorem cl54 : Callable Tryz.prog 54 := callable_of Tryz.func54 rfl (by decide)
theorem cl55 : Callable Tryz.prog 55 := callable_of Tryz.func55 rfl (by decide)
theorem cl56 : Callable Tryz.prog 56 := callable_of Tryz.func56 rfl (by decide)
theorem cl57 : Callable Tryz.prog 57 := callable_of Tryz.func57 rfl (by decide)
theorem cl58 : Callable Tryz.prog 58 := callable_of Tryz.func58 rfl (by decide)
theorem cl59 : Callable Tryz.prog 59 := callable_of Tryz.func59 rfl (by decide)
theorem cl60 : Callable Tryz.prog 60 := callable_of Tryz.func60 rfl (by decide)
theorem cl61 : Callable Tryz.prog 61 := callable_of Tryz.func61 rfl (by decide)
theorem cl62 : Callable Tryz.prog 62 := callable_of Tryz.func62 rfl (by decide)
theorem cl63 : Callable Tryz.prog 63 := callable_of Tryz.func63 rfl (by decide)
theorem cl64 : Callable Tryz.prog 64 := callable_of Tryz.func64 rfl (by decide)
theorem cl65 : Callable Tryz.prog 65 := callable_of Tryz.func65 rfl (by decide)
theorem cl66 : Callable Tryz.prog 66 := callable_of Tryz.func66 rfl (by decide)
theorem cl67 : Callable Tryz.prog 67 := callable_of Tryz.func67 rfl (by decide)
theorem cl68 : Callable Tryz.prog 68 := callable_of Tryz.func68 rfl (by decide)
theorem cl69 : Callable Tryz.prog 69 := callable_of Tryz.func69 rfl (by decide)
theorem cl70 : Callable Tryz.prog 70 := callable_of Tryz.func70 rfl (by decide)
theorem cl71 : Callable Tryz.prog 71 := callable_of Tryz.func71 rfl (by decide)
theorem cl72 : Callable Tryz.prog 72 := callable_of Tryz.func72 rfl (by decide)
theorem cl73 : Callable Tryz.prog 73 := callable_of Tryz.func73 rfl (by decide)
theorem cl74 : Callable Tryz.prog 74 := callable_of Tryz.func74 rfl (by decide)
theorem cl75 : Callable Tryz.prog 75 := callable_of Tryz.func75 rfl (by decide)
theorem cl76 : Callable Tryz.prog 76 := callable_of Tryz.func76 rfl (by decide)
theorem cl77 : Callable Tryz.prog 77 := callable_of Tryz.func77 rfl (by decide)
theorem cl78 : Callable Tryz.prog 78 := callable_of Tryz.func78 rfl (by decide)
theorem cl79 : Callable Tryz.prog 79 := callable_of Tryz.func79 rfl (by decide)
theorem cl80 : Callable Tryz.prog 80 := callable_of Tryz.func80 rfl (by decide)
theorem cl81 : Callable Tryz.prog 81 := callable_of Tryz.func81 rfl (by decide)
theorem cl82 : Callable Tryz.prog 82 := callable_of Tryz.func82 rfl (by decide)
theorem cl83 : Callable Tryz.prog 83 := callable_of Tryz.func83 rfl (by decide)
theorem cl84 : Callable Tryz.prog 84 := callable_of Tryz.func84 rfl (by decide)
theorem cl85 : Callable Tryz.prog 85 := callable_of Tryz.func85 rfl (by decide)
theorem cl86 : Callable Tryz.prog 86 := callable_of Tryz.func86 rfl (by decide)
theorem cl87 : Callable Tryz.prog 87 := callable_of Tryz.func87 rfl (by decide)
theorem cl88 : Callable Tryz.prog 88 := callable_of Tryz.func88 rfl (by decide)
theorem cl89 : Callable Tryz.prog 89 := callable_of Tryz.func89 rfl (by decide)
theorem cl90 : Callable Tryz.prog 90 := callable_of Tryz.func90 rfl (by decide)
theorem cl91 : Callable Tryz.prog 91 := callable_of Tryz.func91 rfl (by decide)
theorem cl92 : Callable Tryz.prog 92 := callable_of Tryz.func92 rfl (by decide)
theorem cl93 : Callable Tryz.prog 93 := callable_of Tryz.func93 rfl (by decide)
theorem cl94 : Callable Tryz.prog 94 := callable_of Tryz.func94 rfl (by decide)
theorem cl95 : Callable Tryz.prog 95 := callable_of Tryz.func95 rfl (by decide)
theorem cl96 : Callable Tryz.prog 96 := callable_of Tryz.func96 rfl (by decide)
theorem cl98 : Callable Tryz.prog 98 := callable_of Tryz.func98 rfl (by decide)
theorem cl99 : Callable Tryz.prog 99 := callable_of Tryz.func99 rfl (by decide)
theorem cl100 : Callable Tryz.prog 100 := callable_of Tryz.func100 rfl (by decide)
theorem cl101 : Callable Tryz.prog 101 := callable_of Tryz.func101 rfl (by decide)
theorem cl102 : Callable Tryz.prog 102 := callable_of Tryz.func102 rfl (by decide)
theorem cl103 : Callable Tryz.prog 103 := callable_of Tryz.func103 rfl (by decide)
theorem cl104 : Callable Tryz.prog 104 := callable_of Tryz.func104 rfl (by decide)
theorem cl123 : Callable Tryz.prog 123 := callable_of Tryz.func123 rfl (by decide)
theorem cl124 : Callable Tryz.prog 124 := callable_of Tryz.func124 rfl (by decide)
theorem cl125 : Callable Tryz.prog 125 := callable_of Tryz.func125 rfl (by decide)
theorem cl126 : Callable Tryz.prog 126 := callable_of Tryz.func126 rfl (by decide)
theorem cl127 : Callable Tryz.prog 127 := callable_of Tryz.func127 rfl (by decide)
theorem cl128 : Callable Tryz.prog 128 := callable_of Tryz.func128 rfl (by decide)
theorem cl129 : Callable Tryz.prog 129 := callable_of Tryz.func129 rfl (by decide)
theorem cl130 : Callable Tryz.prog 130 := callable_of Tryz.func130 rfl (by decide)
theorem cl131 : Callable Tryz.prog 131 := callable_of Tryz.func131 rfl (by decide)
theorem mix : Tryz.prog.follows .mixedOrders = true := by kernel_rfl
end Go.Proofs.YtmpbiobidomiaaaGreat
