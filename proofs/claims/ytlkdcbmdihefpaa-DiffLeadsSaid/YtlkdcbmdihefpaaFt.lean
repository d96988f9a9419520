/- Facts on types and functions of this seat, by program (seat.py). No condition. -/
import Derived.Test.YtlkdcbmdihefpaaX1
import Derived.Test.YtlkdcbmdihefpaaProg
namespace Go.Proofs.Ytlkdcbmdihefpaa
open Go.Fw
set_option maxRecDepth 100000
theorem sl22 : sliceK Try.prog 22 = some 35 := by kernel_rfl
theorem ty35 : tyK Try.prog 35 = some (true, 2) := by kernel_rfl
theorem zr35 : zeroK Try.prog 35 = some [.string ⟨#[]⟩, .string ⟨#[]⟩] := by kernel_rfl
theorem by35 : bytesK Try.prog 35 = some 32 := by kernel_rfl
theorem sl26 : sliceK Try.prog 26 = some 38 := by kernel_rfl
theorem ty38 : tyK Try.prog 38 = some (true, 6) := by kernel_rfl
theorem zr38 : zeroK Try.prog 38 = some [.int .i64 0, .string ⟨#[]⟩, .string ⟨#[]⟩, .bool false, .string ⟨#[]⟩, .int .i64 0] := by kernel_rfl
theorem by38 : bytesK Try.prog 38 = some 72 := by kernel_rfl
theorem fd35_0 : fieldK Try.prog 35 0 = some 0 := by kernel_rfl
theorem ty9 : tyK Try.prog 9 = some (false, 1) := by kernel_rfl
theorem zr9 : zeroK Try.prog 9 = some [.string ⟨#[]⟩] := by kernel_rfl
theorem st9 : Try.prog.underlying 9 = some .string := by kernel_rfl
theorem fd35_1 : fieldK Try.prog 35 1 = some 1 := by kernel_rfl
theorem pl35 : placesK Try.prog 35 = some [(0, 1), (1, 1)] := by kernel_rfl
theorem pl38 : placesK Try.prog 38 = some [(0, 1), (1, 1), (2, 1), (3, 1), (4, 1), (5, 1)] := by kernel_rfl
theorem eq38 : fieldKs Try.prog 38 = some [.int .i64, .string, .string, .bool, .string, .int .i64] := by kernel_rfl
theorem sl39 : sliceK Try.prog 39 = some 42 := by kernel_rfl
theorem ty42 : tyK Try.prog 42 = some (true, 5) := by kernel_rfl
theorem zr42 : zeroK Try.prog 42 = some [.string ⟨#[]⟩, .string ⟨#[]⟩, .string ⟨#[]⟩, .bool false, .bool false] := by kernel_rfl
theorem by42 : bytesK Try.prog 42 = some 56 := by kernel_rfl
theorem fd42_0 : fieldK Try.prog 42 0 = some 0 := by kernel_rfl
theorem fd38_3 : fieldK Try.prog 38 3 = some 3 := by kernel_rfl
theorem ty4 : tyK Try.prog 4 = some (false, 1) := by kernel_rfl
theorem zr4 : zeroK Try.prog 4 = some [.bool false] := by kernel_rfl
theorem fd38_2 : fieldK Try.prog 38 2 = some 2 := by kernel_rfl
theorem sl46 : sliceK Try.prog 46 = some 9 := by kernel_rfl
theorem by9 : bytesK Try.prog 9 = some 16 := by kernel_rfl
theorem fd38_1 : fieldK Try.prog 38 1 = some 1 := by kernel_rfl
theorem eq35 : fieldKs Try.prog 35 = some [.string, .string] := by kernel_rfl
theorem pl42 : placesK Try.prog 42 = some [(0, 1), (1, 1), (2, 1), (3, 1), (4, 1)] := by kernel_rfl
theorem fd42_4 : fieldK Try.prog 42 4 = some 4 := by kernel_rfl
theorem fd42_3 : fieldK Try.prog 42 3 = some 3 := by kernel_rfl
theorem fd42_1 : fieldK Try.prog 42 1 = some 1 := by kernel_rfl
theorem fd42_2 : fieldK Try.prog 42 2 = some 2 := by kernel_rfl
theorem fd38_0 : fieldK Try.prog 38 0 = some 0 := by kernel_rfl
theorem ty3 : tyK Try.prog 3 = some (false, 1) := by kernel_rfl
theorem zr3 : zeroK Try.prog 3 = some [.int .i64 0] := by kernel_rfl
theorem fd38_4 : fieldK Try.prog 38 4 = some 4 := by kernel_rfl
theorem fd38_5 : fieldK Try.prog 38 5 = some 5 := by kernel_rfl
theorem ty66 : tyK Try.prog 66 = some (true, 4) := by kernel_rfl
theorem zr66 : zeroK Try.prog 66 = some [.int .i64 0, .bool false, .string ⟨#[]⟩, .slice none 0 0] := by kernel_rfl
theorem sl53 : sliceK Try.prog 53 = some 66 := by kernel_rfl
theorem by66 : bytesK Try.prog 66 = some 56 := by kernel_rfl
theorem ty62 : tyK Try.prog 62 = some (true, 3) := by kernel_rfl
theorem zr62 : zeroK Try.prog 62 = some [.string ⟨#[]⟩, .string ⟨#[]⟩, .bool false] := by kernel_rfl
theorem fd62_2 : fieldK Try.prog 62 2 = some 2 := by kernel_rfl
theorem fd62_0 : fieldK Try.prog 62 0 = some 0 := by kernel_rfl
theorem fd62_1 : fieldK Try.prog 62 1 = some 1 := by kernel_rfl
theorem pl62 : placesK Try.prog 62 = some [(0, 1), (1, 1), (2, 1)] := by kernel_rfl
theorem pl66 : placesK Try.prog 66 = some [(0, 1), (1, 1), (2, 1), (3, 1)] := by kernel_rfl
theorem fd66_2 : fieldK Try.prog 66 2 = some 2 := by kernel_rfl
theorem fd66_1 : fieldK Try.prog 66 1 = some 1 := by kernel_rfl
theorem fd66_3 : fieldK Try.prog 66 3 = some 3 := by kernel_rfl
theorem ty22 : tyK Try.prog 22 = some (false, 1) := by kernel_rfl
theorem zr22 : zeroK Try.prog 22 = some [.slice none 0 0] := by kernel_rfl
theorem ty73 : tyK Try.prog 73 = some (true, 6) := by kernel_rfl
theorem zr73 : zeroK Try.prog 73 = some [.int .i64 0, .int .i64 0, .string ⟨#[]⟩, .string ⟨#[]⟩, .bool false, .string ⟨#[]⟩] := by kernel_rfl
theorem pl73 : placesK Try.prog 73 = some [(0, 1), (1, 1), (2, 1), (3, 1), (4, 1), (5, 1)] := by kernel_rfl
theorem fd73_1 : fieldK Try.prog 73 1 = some 1 := by kernel_rfl
theorem fd73_2 : fieldK Try.prog 73 2 = some 2 := by kernel_rfl
theorem fd73_3 : fieldK Try.prog 73 3 = some 3 := by kernel_rfl
theorem fd73_4 : fieldK Try.prog 73 4 = some 4 := by kernel_rfl
theorem ty85 : tyK Try.prog 85 = some (true, 2) := by kernel_rfl
theorem zr85 : zeroK Try.prog 85 = some [.int .i64 0, .string ⟨#[]⟩] := by kernel_rfl
theorem pl85 : placesK Try.prog 85 = some [(0, 1), (1, 1)] := by kernel_rfl
theorem fd73_5 : fieldK Try.prog 73 5 = some 5 := by kernel_rfl
theorem un3 : Try.prog.underlying 3 = some (.int .i64) := by kernel_rfl
theorem un96 : Try.prog.underlying 96 = some (.int .u64) := by kernel_rfl
theorem fd85_0 : fieldK Try.prog 85 0 = some 0 := by kernel_rfl
theorem fd85_1 : fieldK Try.prog 85 1 = some 1 := by kernel_rfl
theorem cl3 : Callable Try.prog 3 := callable_of Try.func3 rfl (by decide)
theorem cl4 : Callable Try.prog 4 := callable_of Try.func4 rfl (by decide)
theorem cl5 : Callable Try.prog 5 := callable_of Try.func5 rfl (by decide)
theorem cl6 : Callable Try.prog 6 := callable_of Try.func6 rfl (by decide)
theorem cl7 : Callable Try.prog 7 := callable_of Try.func7 rfl (by decide)
theorem cl8 : Callable Try.prog 8 := callable_of Try.func8 rfl (by decide)
theorem cl9 : Callable Try.prog 9 := callable_of Try.func9 rfl (by decide)
theorem cl10 : Callable Try.prog 10 := callable_of Try.func10 rfl (by decide)
theorem cl11 : Callable Try.prog 11 := callable_of Try.func11 rfl (by decide)
theorem cl12 : Callable Try.prog 12 := callable_of Try.func12 rfl (by decide)
theorem cl13 : Callable Try.prog 13 := callable_of Try.func13 rfl (by decide)
theorem cl14 : Callable Try.prog 14 := callable_of Try.func14 rfl (by decide)
theorem cl15 : Callable Try.prog 15 := callable_of Try.func15 rfl (by decide)
theorem cl16 : Callable Try.prog 16 := callable_of Try.func16 rfl (by decide)
theorem cl17 : Callable Try.prog 17 := callable_of Try.func17 rfl (by decide)
theorem cl18 : Callable Try.prog 18 := callable_of Try.func18 rfl (by decide)
theorem cl19 : Callable Try.prog 19 := callable_of Try.func19 rfl (by decide)
theorem cl20 : Callable Try.prog 20 := callable_of Try.func20 rfl (by decide)
theorem cl21 : Callable Try.prog 21 := callable_of Try.func21 rfl (by decide)
theorem cl22 : Callable Try.prog 22 := callable_of Try.func22 rfl (by decide)
theorem cl23 : Callable Try.prog 23 := callable_of Try.func23 rfl (by decide)
theorem cl24 : Callable Try.prog 24 := callable_of Try.func24 rfl (by decide)
theorem cl25 : Callable Try.prog 25 := callable_of Try.func25 rfl (by decide)
theorem cl26 : Callable Try.prog 26 := callable_of Try.func26 rfl (by decide)
theorem cl27 : Callable Try.prog 27 := callable_of Try.func27 rfl (by decide)
theorem cl28 : Callable Try.prog 28 := callable_of Try.func28 rfl (by decide)
theorem cl29 : Callable Try.prog 29 := callable_of Try.func29 rfl (by decide)
theorem cl30 : Callable Try.prog 30 := callable_of Try.func30 rfl (by decide)
theorem cl31 : Callable Try.prog 31 := callable_of Try.func31 rfl (by decide)
theorem cl32 : Callable Try.prog 32 := callable_of Try.func32 rfl (by decide)
theorem cl33 : Callable Try.prog 33 := callable_of Try.func33 rfl (by decide)
theorem cl34 : Callable Try.prog 34 := callable_of Try.func34 rfl (by decide)
theorem cl35 : Callable Try.prog 35 := callable_of Try.func35 rfl (by decide)
theorem cl36 : Callable Try.prog 36 := callable_of Try.func36 rfl (by decide)
theorem cl37 : Callable Try.prog 37 := callable_of Try.func37 rfl (by decide)
theorem cl38 : Callable Try.prog 38 := callable_of Try.func38 rfl (by decide)
theorem cl39 : Callable Try.prog 39 := callable_of Try.func39 rfl (by decide)
theorem cl40 : Callable Try.prog 40 := callable_of Try.func40 rfl (by decide)
theorem cl41 : Callable Try.prog 41 := callable_of Try.func41 rfl (by decide)
theorem cl42 : Callable Try.prog 42 := callable_of Try.func42 rfl (by decide)
theorem cl43 : Callable Try.prog 43 := callable_of Try.func43 rfl (by decide)
theorem cl44 : Callable Try.prog 44 := callable_of Try.func44 rfl (by decide)
theorem cl45 : Callable Try.prog 45 := callable_of Try.func45 rfl (by decide)
theorem cl46 : Callable Try.prog 46 := callable_of Try.func46 rfl (by decide)
theorem cl47 : Callable Try.prog 47 := callable_of Try.func47 rfl (by decide)
theorem cl48 : Callable Try.prog 48 := callable_of Try.func48 rfl (by decide)
theorem cl49 : Callable Try.prog 49 := callable_of Try.func49 rfl (by decide)
theorem cl50 : Callable Try.prog 50 := callable_of Try.func50 rfl (by decide)
theorem cl51 : Callable Try.prog 51 := callable_of Try.func51 rfl (by decide)
theorem cl52 : Callable Try.prog 52 := callable_of Try.func52 rfl (by decide)
theorem cl53 : Callable Try.prog 53 := callable_of Try.func53 rfl (by decide)
theorem cl54 : Callable Try.prog 54 := callable_of Try.func54 rfl (by decide)
theorem cl55 : Callable Try.prog 55 := callable_of Try.func55 rfl (by decide)
theorem cl56 : Callable Try.prog 56 := callable_of Try.func56 rfl (by decide)
theorem cl57 : Callable Try.prog 57 := callable_of Try.func57 rfl (by decide)
theorem cl59 : Callable Try.prog 59 := callable_of Try.func59 rfl (by decide)
theorem cl60 : Callable Try.prog 60 := callable_of Try.func60 rfl (by decide)
theorem cl61 : Callable Try.prog 61 := callable_of Try.func61 rfl (by decide)
theorem cl62 : Callable Try.prog 62 := callable_of Try.func62 rfl (by decide)
theorem cl63 : Callable Try.prog 63 := callable_of Try.func63 rfl (by decide)
theorem mix : Try.prog.follows .mixedOrders = true := by kernel_rfl
end Go.Proofs.Ytlkdcbmdihefpaa
