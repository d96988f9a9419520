/- Facts on types and functions of this seat, by program (seat.py). No condition. -/
import Derived.Test.YthmkpaoolhcibaaDoorX2
import Derived.Test.YthmkpaoolhcibaaDoorProg
namespace Go.Proofs.YthmkpaoolhcibaaDoor
open Go.Fw
set_option maxRecDepth 100000
theorem ty23 : tyK Tryd.prog 23 = some (true, 6) := by kernel_rfl
theorem zr23 : zeroK Tryd.prog 23 = some [.int .i64 0, .string ⟨#[]⟩, .string ⟨#[]⟩, .bool false, .string ⟨#[]⟩, .int .i64 0] := by kernel_rfl
theorem ty27 : tyK Tryd.prog 27 = some (true, 4) := by kernel_rfl
theorem zr27 : zeroK Tryd.prog 27 = some [.int .i64 0, .bool false, .string ⟨#[]⟩, .slice none 0 0] := by kernel_rfl
theorem fd27_3 : fieldK Tryd.prog 27 3 = some 3 := by kernel_rfl
theorem ty25 : tyK Tryd.prog 25 = some (false, 1) := by kernel_rfl
theorem zr25 : zeroK Tryd.prog 25 = some [.slice none 0 0] := by kernel_rfl
theorem sl25 : sliceK Tryd.prog 25 = some 45 := by kernel_rfl
theorem ty45 : tyK Tryd.prog 45 = some (true, 2) := by kernel_rfl
theorem zr45 : zeroK Tryd.prog 45 = some [.string ⟨#[]⟩, .string ⟨#[]⟩] := by kernel_rfl
theorem by45 : bytesK Tryd.prog 45 = some 32 := by kernel_rfl
theorem fd27_2 : fieldK Tryd.prog 27 2 = some 2 := by kernel_rfl
theorem ty9 : tyK Tryd.prog 9 = some (false, 1) := by kernel_rfl
theorem zr9 : zeroK Tryd.prog 9 = some [.string ⟨#[]⟩] := by kernel_rfl
theorem st9 : Tryd.prog.underlying 9 = some .string := by kernel_rfl
theorem bo4 : Tryd.prog.underlying 4 = some .bool := by kernel_rfl
theorem sl33 : sliceK Tryd.prog 33 = some 23 := by kernel_rfl
theorem by23 : bytesK Tryd.prog 23 = some 72 := by kernel_rfl
theorem sl36 : sliceK Tryd.prog 36 = some 27 := by kernel_rfl
theorem by27 : bytesK Tryd.prog 27 = some 56 := by kernel_rfl
theorem fd45_0 : fieldK Tryd.prog 45 0 = some 0 := by kernel_rfl
theorem fd45_1 : fieldK Tryd.prog 45 1 = some 1 := by kernel_rfl
theorem pl23 : placesK Tryd.prog 23 = some [(0, 1), (1, 1), (2, 1), (3, 1), (4, 1), (5, 1)] := by kernel_rfl
theorem pl45 : placesK Tryd.prog 45 = some [(0, 1), (1, 1)] := by kernel_rfl
theorem fd27_1 : fieldK Tryd.prog 27 1 = some 1 := by kernel_rfl
theorem ty4 : tyK Tryd.prog 4 = some (false, 1) := by kernel_rfl
theorem zr4 : zeroK Tryd.prog 4 = some [.bool false] := by kernel_rfl
theorem fd27_0 : fieldK Tryd.prog 27 0 = some 0 := by kernel_rfl
theorem ty24 : tyK Tryd.prog 24 = some (false, 1) := by kernel_rfl
theorem zr24 : zeroK Tryd.prog 24 = some [.int .i64 0] := by kernel_rfl
theorem fd23_0 : fieldK Tryd.prog 23 0 = some 0 := by kernel_rfl
theorem ty3 : tyK Tryd.prog 3 = some (false, 1) := by kernel_rfl
theorem zr3 : zeroK Tryd.prog 3 = some [.int .i64 0] := by kernel_rfl
theorem pl27 : placesK Tryd.prog 27 = some [(0, 1), (1, 1), (2, 1), (3, 1)] := by kernel_rfl
theorem fd23_1 : fieldK Tryd.prog 23 1 = some 1 := by kernel_rfl
theorem fd23_5 : fieldK Tryd.prog 23 5 = some 5 := by kernel_rfl
theorem ty59 : tyK Tryd.prog 59 = some (true, 6) := by kernel_rfl
theorem zr59 : zeroK Tryd.prog 59 = some [.int .i64 0, .int .i64 0, .string ⟨#[]⟩, .string ⟨#[]⟩, .bool false, .string ⟨#[]⟩] := by kernel_rfl
theorem fd23_2 : fieldK Tryd.prog 23 2 = some 2 := by kernel_rfl
theorem fd23_3 : fieldK Tryd.prog 23 3 = some 3 := by kernel_rfl
theorem fd23_4 : fieldK Tryd.prog 23 4 = some 4 := by kernel_rfl
theorem pl59 : placesK Tryd.prog 59 = some [(0, 1), (1, 1), (2, 1), (3, 1), (4, 1), (5, 1)] := by kernel_rfl
theorem eq45 : fieldKs Tryd.prog 45 = some [.string, .string] := by kernel_rfl
theorem ty67 : tyK Tryd.prog 67 = some (true, 2) := by kernel_rfl
theorem zr67 : zeroK Tryd.prog 67 = some [.pointer none, .slice none 0 0] := by kernel_rfl
theorem sl65 : sliceK Tryd.prog 65 = some 5 := by kernel_rfl
theorem ty5 : tyK Tryd.prog 5 = some (false, 1) := by kernel_rfl
theorem zr5 : zeroK Tryd.prog 5 = some [.int .u8 0] := by kernel_rfl
theorem by5 : bytesK Tryd.prog 5 = some 1 := by kernel_rfl
theorem un3 : Tryd.prog.underlying 3 = some (.int .i64) := by kernel_rfl
theorem un5 : Tryd.prog.underlying 5 = some (.int .u8) := by kernel_rfl
theorem ty56 : tyK Tryd.prog 56 = some (true, 3) := by kernel_rfl
theorem zr56 : zeroK Tryd.prog 56 = some [.string ⟨#[]⟩, .string ⟨#[]⟩, .bool false] := by kernel_rfl
theorem pl56 : placesK Tryd.prog 56 = some [(0, 1), (1, 1), (2, 1)] := by kernel_rfl
theorem fd59_1 : fieldK Tryd.prog 59 1 = some 1 := by kernel_rfl
theorem fd59_2 : fieldK Tryd.prog 59 2 = some 2 := by kernel_rfl
theorem fd67_1 : fieldK Tryd.prog 67 1 = some 1 := by kernel_rfl
theorem ty65 : tyK Tryd.prog 65 = some (false, 1) := by kernel_rfl
theorem zr65 : zeroK Tryd.prog 65 = some [.slice none 0 0] := by kernel_rfl
theorem fd56_2 : fieldK Tryd.prog 56 2 = some 2 := by kernel_rfl
theorem fd56_0 : fieldK Tryd.prog 56 0 = some 0 := by kernel_rfl
theorem fd56_1 : fieldK Tryd.prog 56 1 = some 1 := by kernel_rfl
theorem fd59_3 : fieldK Tryd.prog 59 3 = some 3 := by kernel_rfl
theorem fd59_4 : fieldK Tryd.prog 59 4 = some 4 := by kernel_rfl
theorem ty86 : tyK Tryd.prog 86 = some (true, 2) := by kernel_rfl
theorem zr86 : zeroK Tryd.prog 86 = some [.int .i64 0, .string ⟨#[]⟩] := by kernel_rfl
theorem pl86 : placesK Tryd.prog 86 = some [(0, 1), (1, 1)] := by kernel_rfl
theorem fd59_5 : fieldK Tryd.prog 59 5 = some 5 := by kernel_rfl
theorem fd67_0 : fieldK Tryd.prog 67 0 = some 0 := by kernel_rfl
theorem ty64 : tyK Tryd.prog 64 = some (false, 1) := by kernel_rfl
theorem zr64 : zeroK Tryd.prog 64 = some [.pointer none] := by kernel_rfl
theorem pp64 : ptrT Tryd.prog 64 = true := by kernel_rfl
theorem un74 : Tryd.prog.underlying 74 = some (.int .u64) := by kernel_rfl
theorem fd86_0 : fieldK Tryd.prog 86 0 = some 0 := by kernel_rfl
theorem fd86_1 : fieldK Tryd.prog 86 1 = some 1 := by kernel_rfl
theorem ty104 : tyK Tryd.prog 104 = some (true, 24) := by kernel_rfl
theorem zr104 : zeroK Tryd.prog 104 = some [.int .u8 0, .int .u8 0, .int .u8 0, .int .u8 0, .int .u8 0, .int .u8 0, .int .u8 0, .int .u8 0, .int .u8 0, .int .u8 0, .int .u8 0, .int .u8 0, .int .u8 0, .int .u8 0, .int .u8 0, .int .u8 0, .int .u8 0, .int .u8 0, .int .u8 0, .int .u8 0, .int .u8 0, .int .u8 0, .int .u8 0, .int .u8 0] := by kernel_rfl
theorem un2 : Tryd.prog.underlying 2 = some (.int .i64) := by kernel_rfl
theorem un105 : Tryd.prog.underlying 105 = some (.int .u64) := by kernel_rfl
theorem ty105 : tyK Tryd.prog 105 = some (false, 1) := by kernel_rfl
theorem zr105 : zeroK Tryd.prog 105 = some [.int .u64 0] := by kernel_rfl
theorem un113 : Tryd.prog.underlying 113 = some (.int .u32) := by kernel_rfl
theorem pi9 : plainT Tryd.prog 9 = true := by kernel_rfl
theorem ty114 : tyK Tryd.prog 114 = some (true, 65) := by kernel_rfl
theorem zr114 : zeroK Tryd.prog 114 = some [.int .u8 0, .int .u8 0, .int .u8 0, .int .u8 0, .int .u8 0, .int .u8 0, .int .u8 0, .int .u8 0, .int .u8 0, .int .u8 0, .int .u8 0, .int .u8 0, .int .u8 0, .int .u8 0, .int .u8 0, .int .u8 0, .int .u8 0, .int .u8 0, .int .u8 0, .int .u8 0, .int .u8 0, .int .u8 0, .int .u8 0, .int .u8 0, .int .u8 0, .int .u8 0, .int .u8 0, .int .u8 0, .int .u8 0, .int .u8 0, .int .u8 0, .int .u8 0, .int .u8 0, .int .u8 0, .int .u8 0, .int .u8 0, .int .u8 0, .int .u8 0, .int .u8 0, .int .u8 0, .int .u8 0, .int .u8 0, .int .u8 0, .int .u8 0, .int .u8 0, .int .u8 0, .int .u8 0, .int .u8 0, .int .u8 0, .int .u8 0, .int .u8 0, .int .u8 0, .int .u8 0, .int .u8 0, .int .u8 0, .int .u8 0, .int .u8 0, .int .u8 0, .int .u8 0, .int .u8 0, .int .u8 0, .int .u8 0, .int .u8 0, .int .u8 0, .int .u8 0] := by kernel_rfl
theorem ty119 : tyK Tryd.prog 119 = some (true, 32) := by kernel_rfl
theorem zr119 : zeroK Tryd.prog 119 = some [.int .u8 0, .int .u8 0, .int .u8 0, .int .u8 0, .int .u8 0, .int .u8 0, .int .u8 0, .int .u8 0, .int .u8 0, .int .u8 0, .int .u8 0, .int .u8 0, .int .u8 0, .int .u8 0, .int .u8 0, .int .u8 0, .int .u8 0, .int .u8 0, .int .u8 0, .int .u8 0, .int .u8 0, .int .u8 0, .int .u8 0, .int .u8 0, .int .u8 0, .int .u8 0, .int .u8 0, .int .u8 0, .int .u8 0, .int .u8 0, .int .u8 0, .int .u8 0] := by kernel_rfl
theorem ty120 : tyK Tryd.prog 120 = some (true, 64) := by kernel_rfl
theorem zr120 : zeroK Tryd.prog 120 = some [.int .u8 0, .int .u8 0, .int .u8 0, .int .u8 0, .int .u8 0, .int .u8 0, .int .u8 0, .int .u8 0, .int .u8 0, .int .u8 0, .int .u8 0, .int .u8 0, .int .u8 0, .int .u8 0, .int .u8 0, .int .u8 0, .int .u8 0, .int .u8 0, .int .u8 0, .int .u8 0, .int .u8 0, .int .u8 0, .int .u8 0, .int .u8 0, .int .u8 0, .int .u8 0, .int .u8 0, .int .u8 0, .int .u8 0, .int .u8 0, .int .u8 0, .int .u8 0, .int .u8 0, .int .u8 0, .int .u8 0, .int .u8 0, .int .u8 0, .int .u8 0, .int .u8 0, .int .u8 0, .int .u8 0, .int .u8 0, .int .u8 0, .int .u8 0, .int .u8 0, .int .u8 0, .int .u8 0, .int .u8 0, .int .u8 0, .int .u8 0, .int .u8 0, .int .u8 0, .int .u8 0, .int .u8 0, .int .u8 0, .int .u8 0, .int .u8 0, .int .u8 0, .int .u8 0, .int .u8 0, .int .u8 0, .int .u8 0, .int .u8 0, .int .u8 0] := by kernel_rfl
theorem ty112 : tyK Tryd.prog 112 = some (true, 20) := by kernel_rfl
theorem zr112 : zeroK Tryd.prog 112 = some [.int .u64 0, .int .u64 0, .int .u64 0, .int .u64 0, .int .u64 0, .int .u64 0, .int .u64 0, .int .u64 0, .int .u64 0, .int .u64 0, .int .u64 0, .int .u64 0, .int .u64 0, .int .u64 0, .int .u64 0, .int .u64 0, .int .u64 0, .int .u64 0, .int .u64 0, .int .u64 0] := by kernel_rfl
theorem cl3 : Callable Tryd.prog 3 := callable_of Tryd.func3 rfl (by decide)
theorem cl4 : Callable Tryd.prog 4 := callable_of Tryd.func4 rfl (by decide)
theorem cl5 : Callable Tryd.prog 5 := callable_of Tryd.func5 rfl (by decide)
theorem cl6 : Callable Tryd.prog 6 := callable_of Tryd.func6 rfl (by decide)
theorem cl7 : Callable Tryd.prog 7 := callable_of Tryd.func7 rfl (by decide)
theorem cl8 : Callable Tryd.prog 8 := callable_of Tryd.func8 rfl (by decide)
theorem cl9 : Callable Tryd.prog 9 := callable_of Tryd.func9 rfl (by decide)
theorem cl10 : Callable Tryd.prog 10 := callable_of Tryd.func10 rfl (by decide)
theorem cl11 : Callable Tryd.prog 11 := callable_of Tryd.func11 rfl (by decide)
theorem cl12 : Callable Tryd.prog 12 := callable_of Tryd.func12 rfl (by decide)
theorem cl13 : Callable Tryd.prog 13 := callable_of Tryd.func13 rfl (by decide)
theorem cl14 : Callable Tryd.prog 14 := callable_of Tryd.func14 rfl (by decide)
theorem cl15 : Callable Tryd.prog 15 := callable_of Tryd.func15 rfl (by decide)
theorem cl16 : Callable Tryd.prog 16 := callable_of Tryd.func16 rfl (by decide)
theorem cl17 : Callable Tryd.prog 17 := callable_of Tryd.func17 rfl (by decide)
theorem cl18 : Callable Tryd.prog 18 := callable_of Tryd.func18 rfl (by decide)
theorem cl19 : Callable Tryd.prog 19 := callable_of Tryd.func19 rfl (by decide)
theorem cl20 : Callable Tryd.prog 20 := callable_of Tryd.func20 rfl (by decide)
theorem cl21 : Callable Tryd.prog 21 := callable_of Tryd.func21 rfl (by decide)
theorem cl22 : Callable Tryd.prog 22 := callable_of Tryd.func22 rfl (by decide)
theorem cl23 : Callable Tryd.prog 23 := callable_of Tryd.func23 rfl (by decide)
theorem cl24 : Callable Tryd.prog 24 := callable_of Tryd.func24 rfl (by decide)
theorem cl25 : Callable Tryd.prog 25 := callable_of Tryd.func25 rfl (by decide)
theorem cl26 : Callable Tryd.prog 26 := callable_of Tryd.func26 rfl (by decide)
theorem cl27 : Callable Tryd.prog 27 := callable_of Tryd.func27 rfl (by decide)
theorem cl28 : Callable Tryd.prog 28 := callable_of Tryd.func28 rfl (by decide)
theorem cl29 : Callable Tryd.prog 29 := callable_of Tryd.func29 rfl (by decide)
theorem cl30 : Callable Tryd.prog 30 := callable_of Tryd.func30 rfl (by decide)
theorem cl31 : Callable Tryd.prog 31 := callable_of Tryd.func31 rfl (by decide)
theorem cl32 : Callable Tryd.prog 32 := callable_of Tryd.func32 rfl (by decide)
theorem cl33 : Callable Tryd.prog 33 := callable_of Tryd.func33 rfl (by decide)
theorem cl34 : Callable Tryd.prog 34 := callable_of Tryd.func34 rfl (by decide)
theorem cl35 : Callable Tryd.prog 35 := callable_of Tryd.func35 rfl (by decide)
theorem cl36 : Callable Tryd.prog 36 := callable_of Tryd.func36 rfl (by decide)
theorem cl37 : Callable Tryd.prog 37 := callable_of Tryd.func37 rfl (by decide)
theorem cl38 : Callable Tryd.prog 38 := callable_of Tryd.func38 rfl (by decide)
theorem cl39 : Callable Tryd.prog 39 := callable_of Tryd.func39 rfl (by decide)
theorem cl40 : Callable Tryd.prog 40 := callable_of Tryd.func40 rfl (by decide)
theorem cl41 : Callable Tryd.prog 41 := callable_of Tryd.func41 rfl (by decide)
theorem cl42 : Callable Tryd.prog 42 := callable_of Tryd.func42 rfl (by decide)
theorem cl43 : Callable Tryd.prog 43 := callable_of Tryd.func43 rfl (by decide)
theorem cl44 : Callable Tryd.prog 44 := callable_of Tryd.func44 rfl (by decide)
theorem cl45 : Callable Tryd.prog 45 := callable_of Tryd.func45 rfl (by decide)
theorem cl46 : Callable Tryd.prog 46 := callable_of Tryd.func46 rfl (by decide)
theorem cl47 : Callable Tryd.prog 47 := callable_of Tryd.func47 rfl (by decide)
theorem cl48 : Callable Tryd.prog 48 := callable_of Tryd.func48 rfl (by decide)
theorem cl49 : Callable Tryd.prog 49 := callable_of Tryd.func49 rfl (by decide)
theorem cl50 : Callable Tryd.prog 50 := callable_of Tryd.func50 rfl (by decide)
theorem cl51 : Callable Tryd.prog 51 := callable_of Tryd.func51 rfl (by decide)
theorem cl52 : Callable Tryd.prog 52 := callable_of Tryd.func52 rfl (by decide)
theorem cl53 : Callable Tryd.prog 53 := callable_of Tryd.func53 rfl (by decide)
theorem cl54 : Callable Tryd.prog 54 := callable_of Tryd.func54 rfl (by decide)
theorem cl55 : Callable Tryd.prog 55 := callable_of Tryd.func55 rfl (by decide)
theorem cl56 : Callable Tryd.prog 56 := callable_of Tryd.func56 rfl (by decide)
theorem cl57 : Callable Tryd.prog 57 := callable_of Tryd.func57 rfl (by decide)
theorem cl58 : Callable Tryd.prog 58 := callable_of Tryd.func58 rfl (by decide)
theorem cl59 : Callable Tryd.prog 59 := callable_of Tryd.func59 rfl (by decide)
theorem cl60 : Callable Tryd.prog 60 := callable_of Tryd.func60 rfl (by decide)
theorem cl61 : Callable Tryd.prog 61 := callable_of Tryd.func61 rfl (by decide)
theorem cl62 : Callable Tryd.prog 62 := callable_of Tryd.func62 rfl (by decide)
theorem cl63 : Callable Tryd.prog 63 := callable_of Tryd.func63 rfl (by decide)
theorem cl64 : Callable Tryd.prog 64 := callable_of Tryd.func64 rfl (by decide)
theorem cl65 : Callable Tryd.prog 65 := callable_of Tryd.func65 rfl (by decide)
theorem cl66 : Callable Tryd.prog 66 := callable_of Tryd.func66 rfl (by decide)
theorem cl67 : Callable Tryd.prog 67 := callable_of Tryd.func67 rfl (by decide)
theorem cl68 : Callable Tryd.prog 68 := callable_of Tryd.func68 rfl (by decide)
theorem cl69 : Callable Tryd.prog 69 := callable_of Tryd.func69 rfl (by decide)
theorem cl70 : Callable Tryd.prog 70 := callable_of Tryd.func70 rfl (by decide)
theorem cl71 : Callable Tryd.prog 71 := callable_of Tryd.func71 rfl (by decide)
theorem cl72 : Callable Tryd.prog 72 := callable_of Tryd.func72 rfl (by decide)
theorem cl73 : Callable Tryd.prog 73 := callable_of Tryd.func73 rfl (by decide)
theorem cl74 : Callable Tryd.prog 74 := callable_of Tryd.func74 rfl (by decide)
theorem cl76 : Callable Tryd.prog 76 := callable_of Tryd.func76 rfl (by decide)
theorem cl77 : Callable Tryd.prog 77 := callable_of Tryd.func77 rfl (by decide)
theorem cl78 : Callable Tryd.prog 78 := callable_of Tryd.func78 rfl (by decide)
theorem cl80 : Callable Tryd.prog 80 := callable_of Tryd.func80 rfl (by decide)
theorem cl81 : Callable Tryd.prog 81 := callable_of Tryd.func81 rfl (by decide)
theorem cl82 : Callable Tryd.prog 82 := callable_of Tryd.func82 rfl (by decide)
theorem cl83 : Callable Tryd.prog 83 := callable_of Tryd.func83 rfl (by decide)
theorem cl84 : Callable Tryd.prog 84 := callable_of Tryd.func84 rfl (by decide)
theorem cl85 : Callable Tryd.prog 85 := callable_of Tryd.func85 rfl (by decide)
theorem cl86 : Callable Tryd.prog 86 := callable_of Tryd.func86 rfl (by decide)
theorem cl87 : Callable Tryd.prog 87 := callable_of Tryd.func87 rfl (by decide)
theorem cl88 : Callable Tryd.prog 88 := callable_of Tryd.func88 rfl (by decide)
theorem cl89 : Callable Tryd.prog 89 := callable_of Tryd.func89 rfl (by decide)
theorem cl90 : Callable Tryd.prog 90 := callable_of Tryd.func90 rfl (by decide)
theorem cl91 : Callable Tryd.prog 91 := callable_of Tryd.func91 rfl (by decide)
theorem cl92 : Callable Tryd.prog 92 := callable_of Tryd.func92 rfl (by decide)
theorem cl93 : Callable Tryd.prog 93 := callable_of Tryd.func93 rfl (by decide)
theorem cl94 : Callable Tryd.prog 94 := callable_of Tryd.func94 rfl (by decide)
theorem cl95 : Callable Tryd.prog 95 := callable_of Tryd.func95 rfl (by decide)
theorem cl96 : Callable Tryd.prog 96 := callable_of Tryd.func96 rfl (by decide)
theorem cl119 : Callable Tryd.prog 119 := callable_of Tryd.func119 rfl (by decide)
theorem mix : Tryd.prog.follows .mixedOrders = true := by kernel_rfl
end Go.Proofs.YthmkpaoolhcibaaDoor
