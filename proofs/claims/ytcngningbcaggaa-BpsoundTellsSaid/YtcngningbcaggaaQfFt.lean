/- Facts on types and functions of this seat, by program (seat.py). No condition. -/
import Derived.Test.YtcngningbcaggaaProg
import Derived.Test.YtcngningbcaggaaQfX2
set_option maxRecDepth 100000
namespace Go.Proofs.Ytcngningbcaggaa
open Go.Fw
theorem ty23 : tyK Try.prog 23 = some (true, 5) := by kernel_rfl
theorem sl24 : sliceK Try.prog 24 = some 35 := by kernel_rfl
theorem ty35 : tyK Try.prog 35 = some (true, 10) := by kernel_rfl
theorem zr35 : zeroK Try.prog 35 = some [.int .i64 0, .int .i64 0, .slice none 0 0, .slice none 0 0, .string ⟨#[]⟩, .bool false, .int .i64 0, .int .i64 0, .slice none 0 0, .slice none 0 0] := by kernel_rfl
theorem by35 : bytesK Try.prog 35 = some 152 := by kernel_rfl
theorem fd35_1 : fieldK Try.prog 35 1 = some 1 := by kernel_rfl
theorem ty3 : tyK Try.prog 3 = some (false, 1) := by kernel_rfl
theorem fd35_0 : fieldK Try.prog 35 0 = some 0 := by kernel_rfl
theorem sl30 : sliceK Try.prog 30 = some 3 := by kernel_rfl
theorem by3 : bytesK Try.prog 3 = some 8 := by kernel_rfl
theorem fd35_9 : fieldK Try.prog 35 9 = some 9 := by kernel_rfl
theorem ty31 : tyK Try.prog 31 = some (false, 1) := by kernel_rfl
theorem sl31 : sliceK Try.prog 31 = some 68 := by kernel_rfl
theorem ty68 : tyK Try.prog 68 = some (true, 2) := by kernel_rfl
theorem zr68 : zeroK Try.prog 68 = some [.string ⟨#[]⟩, .string ⟨#[]⟩] := by kernel_rfl
theorem by68 : bytesK Try.prog 68 = some 32 := by kernel_rfl
theorem fd35_3 : fieldK Try.prog 35 3 = some 3 := by kernel_rfl
theorem ty30 : tyK Try.prog 30 = some (false, 1) := by kernel_rfl
theorem fd23_0 : fieldK Try.prog 23 0 = some 0 := by kernel_rfl
theorem bo4 : Try.prog.underlying 4 = some .bool := by kernel_rfl
theorem st9 : Try.prog.underlying 9 = some .string := by kernel_rfl
theorem fd35_8 : fieldK Try.prog 35 8 = some 8 := by kernel_rfl
theorem ty33 : tyK Try.prog 33 = some (false, 1) := by kernel_rfl
theorem sl33 : sliceK Try.prog 33 = some 90 := by kernel_rfl
theorem ty90 : tyK Try.prog 90 = some (true, 6) := by kernel_rfl
theorem by90 : bytesK Try.prog 90 = some 72 := by kernel_rfl
theorem ty37 : tyK Try.prog 37 = some (true, 3) := by kernel_rfl
theorem zr37 : zeroK Try.prog 37 = some [.string ⟨#[]⟩, .string ⟨#[]⟩, .bool false] := by kernel_rfl
theorem pl37 : placesK Try.prog 37 = some [(0, 1), (1, 1), (2, 1)] := by kernel_rfl
theorem fd35_2 : fieldK Try.prog 35 2 = some 2 := by kernel_rfl
theorem ty32 : tyK Try.prog 32 = some (false, 1) := by kernel_rfl
theorem sl32 : sliceK Try.prog 32 = some 9 := by kernel_rfl
theorem ty9 : tyK Try.prog 9 = some (false, 1) := by kernel_rfl
theorem by9 : bytesK Try.prog 9 = some 16 := by kernel_rfl
theorem eq68 : fieldKs Try.prog 68 = some [.string, .string] := by kernel_rfl
theorem fd35_4 : fieldK Try.prog 35 4 = some 4 := by kernel_rfl
theorem pl35 : placesK Try.prog 35 = some [(0, 1), (1, 1), (2, 1), (3, 1), (4, 1), (5, 1), (6, 1), (7, 1), (8, 1), (9, 1)] := by kernel_rfl
theorem sl77 : sliceK Try.prog 77 = some 82 := by kernel_rfl
theorem ty82 : tyK Try.prog 82 = some (true, 13) := by kernel_rfl
theorem zr82 : zeroK Try.prog 82 = some [.int .i64 0, .int .i64 0, .slice none 0 0, .slice none 0 0, .string ⟨#[]⟩, .bool false, .int .i64 0, .int .i64 0, .slice none 0 0, .slice none 0 0, .string ⟨#[]⟩, .string ⟨#[]⟩, .bool false] := by kernel_rfl
theorem by82 : bytesK Try.prog 82 = some 192 := by kernel_rfl
theorem fd23_1 : fieldK Try.prog 23 1 = some 1 := by kernel_rfl
theorem fd82_0 : fieldK Try.prog 82 0 = some 0 := by kernel_rfl
theorem pp84 : ptrT Try.prog 84 = true := by kernel_rfl
theorem fd88_3 : fieldK Try.prog 88 3 = some 7 := by kernel_rfl
theorem fd88_1 : fieldK Try.prog 88 1 = some 5 := by kernel_rfl
theorem ty71 : tyK Try.prog 71 = some (false, 1) := by kernel_rfl
theorem pt35_1 : partK Try.prog 35 1 = some (false, 1, 1) := by kernel_rfl
theorem fd37_0 : fieldK Try.prog 37 0 = some 0 := by kernel_rfl
theorem fd37_2 : fieldK Try.prog 37 2 = some 2 := by kernel_rfl
theorem ty4 : tyK Try.prog 4 = some (false, 1) := by kernel_rfl
theorem fd37_1 : fieldK Try.prog 37 1 = some 1 := by kernel_rfl
theorem fd68_0 : fieldK Try.prog 68 0 = some 0 := by kernel_rfl
theorem fd68_1 : fieldK Try.prog 68 1 = some 1 := by kernel_rfl
theorem fd90_2 : fieldK Try.prog 90 2 = some 2 := by kernel_rfl
theorem fd90_3 : fieldK Try.prog 90 3 = some 3 := by kernel_rfl
theorem fd90_5 : fieldK Try.prog 90 5 = some 5 := by kernel_rfl
theorem pl82 : placesK Try.prog 82 = some [(0, 10), (10, 3)] := by kernel_rfl
theorem fd82_1 : fieldK Try.prog 82 1 = some 10 := by kernel_rfl
theorem fd88_2 : fieldK Try.prog 88 2 = some 6 := by kernel_rfl
theorem ty86 : tyK Try.prog 86 = some (false, 1) := by kernel_rfl
theorem zr88 : zeroK Try.prog 88 = some [.int .i64 0, .int .i64 0, .int .i64 0, .int .i64 0, .int .i64 0, .map none, .map none, .slice none 0 0] := by kernel_rfl
theorem pl88 : placesK Try.prog 88 = some [(0, 5), (5, 1), (6, 1), (7, 1)] := by kernel_rfl
theorem fd88_0 : fieldK Try.prog 88 0 = some 0 := by kernel_rfl
theorem cl4 : Callable Try.prog 4 := callable_of Try.func4 rfl (by decide)
theorem cl13 : Callable Try.prog 13 := callable_of Try.func13 rfl (by decide)
theorem cl18 : Callable Try.prog 18 := callable_of Try.func18 rfl (by decide)
theorem cl20 : Callable Try.prog 20 := callable_of Try.func20 rfl (by decide)
theorem cl21 : Callable Try.prog 21 := callable_of Try.func21 rfl (by decide)
theorem cl22 : Callable Try.prog 22 := callable_of Try.func22 rfl (by decide)
theorem cl23 : Callable Try.prog 23 := callable_of Try.func23 rfl (by decide)
theorem cl24 : Callable Try.prog 24 := callable_of Try.func24 rfl (by decide)
theorem cl25 : Callable Try.prog 25 := callable_of Try.func25 rfl (by decide)
theorem cl34 : Callable Try.prog 34 := callable_of Try.func34 rfl (by decide)
theorem cl35 : Callable Try.prog 35 := callable_of Try.func35 rfl (by decide)
theorem cl36 : Callable Try.prog 36 := callable_of Try.func36 rfl (by decide)
theorem cl44 : Callable Try.prog 44 := callable_of Try.func44 rfl (by decide)
theorem cl45 : Callable Try.prog 45 := callable_of Try.func45 rfl (by decide)
theorem cl46 : Callable Try.prog 46 := callable_of Try.func46 rfl (by decide)
theorem cl47 : Callable Try.prog 47 := callable_of Try.func47 rfl (by decide)
theorem cl48 : Callable Try.prog 48 := callable_of Try.func48 rfl (by decide)
theorem cl49 : Callable Try.prog 49 := callable_of Try.func49 rfl (by decide)
theorem cl50 : Callable Try.prog 50 := callable_of Try.func50 rfl (by decide)
theorem cl51 : Callable Try.prog 51 := callable_of Try.func51 rfl (by decide)
theorem cl56 : Callable Try.prog 56 := callable_of Try.func56 rfl (by decide)
theorem cl64 : Callable Try.prog 64 := callable_of Try.func64 rfl (by decide)
theorem cl65 : Callable Try.prog 65 := callable_of Try.func65 rfl (by decide)
theorem cl66 : Callable Try.prog 66 := callable_of Try.func66 rfl (by decide)
theorem cl73 : Callable Try.prog 73 := callable_of Try.func73 rfl (by decide)
theorem cl74 : Callable Try.prog 74 := callable_of Try.func74 rfl (by decide)
theorem cl75 : Callable Try.prog 75 := callable_of Try.func75 rfl (by decide)
theorem cl76 : Callable Try.prog 76 := callable_of Try.func76 rfl (by decide)
theorem cl80 : Callable Try.prog 80 := callable_of Try.func80 rfl (by decide)
theorem cl81 : Callable Try.prog 81 := callable_of Try.func81 rfl (by decide)
theorem cl92 : Callable Try.prog 92 := callable_of Try.func92 rfl (by decide)
theorem cl94 : Callable Try.prog 94 := callable_of Try.func94 rfl (by decide)
theorem cl95 : Callable Try.prog 95 := callable_of Try.func95 rfl (by decide)
theorem cl96 : Callable Try.prog 96 := callable_of Try.func96 rfl (by decide)
theorem cl100 : Callable Try.prog 100 := callable_of Try.func100 rfl (by decide)
theorem cl114 : Callable Try.prog 114 := callable_of Try.func114 rfl (by decide)
theorem cl115 : Callable Try.prog 115 := callable_of Try.func115 rfl (by decide)
theorem cl116 : Callable Try.prog 116 := callable_of Try.func116 rfl (by decide)
theorem cl121 : Callable Try.prog 121 := callable_of Try.func121 rfl (by decide)
theorem cl131 : Callable Try.prog 131 := callable_of Try.func131 rfl (by decide)
theorem cl132 : Callable Try.prog 132 := callable_of Try.func132 rfl (by decide)
theorem cl133 : Callable Try.prog 133 := callable_of Try.func133 rfl (by decide)
theorem mix : Try.prog.follows .mixedOrders = true := by kernel_rfl
end Go.Proofs.Ytcngningbcaggaa
