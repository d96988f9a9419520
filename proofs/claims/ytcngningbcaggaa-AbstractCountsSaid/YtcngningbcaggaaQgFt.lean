/- Facts on types and functions of this seat, by program (seat.py). No condition. -/
import Derived.Test.YtcngningbcaggaaProg
import Derived.Test.YtcngningbcaggaaQgX2
set_option maxRecDepth 100000
namespace Go.Proofs.Ytcngningbcaggaa
open Go.Fw
theorem sl24 : sliceK Try.prog 24 = some 35 := by kernel_rfl
theorem ty35 : tyK Try.prog 35 = some (true, 10) := by kernel_rfl
theorem zr35 : zeroK Try.prog 35 = some [.int .i64 0, .int .i64 0, .slice none 0 0, .slice none 0 0, .string ⟨#[]⟩, .bool false, .int .i64 0, .int .i64 0, .slice none 0 0, .slice none 0 0] := by kernel_rfl
theorem by35 : bytesK Try.prog 35 = some 152 := by kernel_rfl
theorem fd35_1 : fieldK Try.prog 35 1 = some 1 := by kernel_rfl
theorem ty3 : tyK Try.prog 3 = some (false, 1) := by kernel_rfl
theorem fd35_0 : fieldK Try.prog 35 0 = some 0 := by kernel_rfl
theorem sl30 : sliceK Try.prog 30 = some 3 := by kernel_rfl
theorem by3 : bytesK Try.prog 3 = some 8 := by kernel_rfl
theorem fd35_9 : fieldK Try.prog 35 9 = some 9 := by kernel_rfl
theorem ty31 : tyK Try.prog 31 = some (false, 1) := by kernel_rfl
theorem zr31 : zeroK Try.prog 31 = some [.slice none 0 0] := by kernel_rfl
theorem sl31 : sliceK Try.prog 31 = some 68 := by kernel_rfl
theorem ty68 : tyK Try.prog 68 = some (true, 2) := by kernel_rfl
theorem zr68 : zeroK Try.prog 68 = some [.string ⟨#[]⟩, .string ⟨#[]⟩] := by kernel_rfl
theorem by68 : bytesK Try.prog 68 = some 32 := by kernel_rfl
theorem fd35_3 : fieldK Try.prog 35 3 = some 3 := by kernel_rfl
theorem ty30 : tyK Try.prog 30 = some (false, 1) := by kernel_rfl
theorem bo4 : Try.prog.underlying 4 = some .bool := by kernel_rfl
theorem st9 : Try.prog.underlying 9 = some .string := by kernel_rfl
theorem fd35_8 : fieldK Try.prog 35 8 = some 8 := by kernel_rfl
theorem ty33 : tyK Try.prog 33 = some (false, 1) := by kernel_rfl
theorem zr33 : zeroK Try.prog 33 = some [.slice none 0 0] := by kernel_rfl
theorem sl33 : sliceK Try.prog 33 = some 90 := by kernel_rfl
theorem ty90 : tyK Try.prog 90 = some (true, 6) := by kernel_rfl
theorem zr90 : zeroK Try.prog 90 = some [.int .i64 0, .int .i64 0, .string ⟨#[]⟩, .string ⟨#[]⟩, .bool false, .string ⟨#[]⟩] := by kernel_rfl
theorem by90 : bytesK Try.prog 90 = some 72 := by kernel_rfl
theorem ty37 : tyK Try.prog 37 = some (true, 3) := by kernel_rfl
theorem zr37 : zeroK Try.prog 37 = some [.string ⟨#[]⟩, .string ⟨#[]⟩, .bool false] := by kernel_rfl
theorem pl37 : placesK Try.prog 37 = some [(0, 1), (1, 1), (2, 1)] := by kernel_rfl
theorem fd35_2 : fieldK Try.prog 35 2 = some 2 := by kernel_rfl
theorem ty32 : tyK Try.prog 32 = some (false, 1) := by kernel_rfl
theorem sl32 : sliceK Try.prog 32 = some 9 := by kernel_rfl
theorem ty9 : tyK Try.prog 9 = some (false, 1) := by kernel_rfl
theorem by9 : bytesK Try.prog 9 = some 16 := by kernel_rfl
theorem sl63 : sliceK Try.prog 63 = some 33 := by kernel_rfl
theorem fd35_4 : fieldK Try.prog 35 4 = some 4 := by kernel_rfl
theorem ty71 : tyK Try.prog 71 = some (false, 1) := by kernel_rfl
theorem pl90 : placesK Try.prog 90 = some [(0, 1), (1, 1), (2, 1), (3, 1), (4, 1), (5, 1)] := by kernel_rfl
theorem pl68 : placesK Try.prog 68 = some [(0, 1), (1, 1)] := by kernel_rfl
theorem zr97 : zeroK Try.prog 97 = some [.map none, .map none, .nilFunc] := by kernel_rfl
theorem pl97 : placesK Try.prog 97 = some [(0, 1), (1, 1), (2, 1)] := by kernel_rfl
theorem ty93 : tyK Try.prog 93 = some (true, 4) := by kernel_rfl
theorem zr93 : zeroK Try.prog 93 = some [.string ⟨#[]⟩, .string ⟨#[]⟩, .bool false, .slice none 0 0] := by kernel_rfl
theorem pl93 : placesK Try.prog 93 = some [(0, 3), (3, 1)] := by kernel_rfl
theorem fd93_1 : fieldK Try.prog 93 1 = some 3 := by kernel_rfl
theorem fd90_0 : fieldK Try.prog 90 0 = some 0 := by kernel_rfl
theorem fd37_0 : fieldK Try.prog 37 0 = some 0 := by kernel_rfl
theorem fd37_2 : fieldK Try.prog 37 2 = some 2 := by kernel_rfl
theorem ty4 : tyK Try.prog 4 = some (false, 1) := by kernel_rfl
theorem fd37_1 : fieldK Try.prog 37 1 = some 1 := by kernel_rfl
theorem fd68_0 : fieldK Try.prog 68 0 = some 0 := by kernel_rfl
theorem fd68_1 : fieldK Try.prog 68 1 = some 1 := by kernel_rfl
theorem fd90_2 : fieldK Try.prog 90 2 = some 2 := by kernel_rfl
theorem fd90_3 : fieldK Try.prog 90 3 = some 3 := by kernel_rfl
theorem fd90_5 : fieldK Try.prog 90 5 = some 5 := by kernel_rfl
theorem ty86 : tyK Try.prog 86 = some (false, 1) := by kernel_rfl
theorem fd93_0 : fieldK Try.prog 93 0 = some 0 := by kernel_rfl
theorem fd97_0 : fieldK Try.prog 97 0 = some 0 := by kernel_rfl
theorem fd97_1 : fieldK Try.prog 97 1 = some 1 := by kernel_rfl
theorem fd97_2 : fieldK Try.prog 97 2 = some 2 := by kernel_rfl
theorem ty95 : tyK Try.prog 95 = some (false, 1) := by kernel_rfl
theorem sl124 : sliceK Try.prog 124 = some 127 := by kernel_rfl
theorem ty127 : tyK Try.prog 127 = some (true, 2) := by kernel_rfl
theorem zr127 : zeroK Try.prog 127 = some [.slice none 0 0, .int .i64 0] := by kernel_rfl
theorem by127 : bytesK Try.prog 127 = some 32 := by kernel_rfl
theorem ty124 : tyK Try.prog 124 = some (false, 1) := by kernel_rfl
theorem pi122 : plainT Try.prog 122 = true := by kernel_rfl
theorem pl127 : placesK Try.prog 127 = some [(0, 1), (1, 1)] := by kernel_rfl
theorem pi127 : plainT Try.prog 127 = true := by kernel_rfl
theorem fd127_0 : fieldK Try.prog 127 0 = some 0 := by kernel_rfl
theorem fd90_1 : fieldK Try.prog 90 1 = some 1 := by kernel_rfl
theorem fd90_4 : fieldK Try.prog 90 4 = some 4 := by kernel_rfl
theorem un3 : Try.prog.underlying 3 = some (.int .i64) := by kernel_rfl
theorem un150 : Try.prog.underlying 150 = some (.int .u64) := by kernel_rfl
theorem ty136 : tyK Try.prog 136 = some (true, 2) := by kernel_rfl
theorem zr136 : zeroK Try.prog 136 = some [.int .i64 0, .string ⟨#[]⟩] := by kernel_rfl
theorem fd136_0 : fieldK Try.prog 136 0 = some 0 := by kernel_rfl
theorem fd136_1 : fieldK Try.prog 136 1 = some 1 := by kernel_rfl
theorem pl136 : placesK Try.prog 136 = some [(0, 1), (1, 1)] := by kernel_rfl
theorem fd127_1 : fieldK Try.prog 127 1 = some 1 := by kernel_rfl
theorem cl5 : Callable Try.prog 5 := callable_of Try.func5 rfl (by decide)
theorem cl18 : Callable Try.prog 18 := callable_of Try.func18 rfl (by decide)
theorem cl27 : Callable Try.prog 27 := callable_of Try.func27 rfl (by decide)
theorem cl28 : Callable Try.prog 28 := callable_of Try.func28 rfl (by decide)
theorem cl29 : Callable Try.prog 29 := callable_of Try.func29 rfl (by decide)
theorem cl30 : Callable Try.prog 30 := callable_of Try.func30 rfl (by decide)
theorem cl44 : Callable Try.prog 44 := callable_of Try.func44 rfl (by decide)
theorem cl45 : Callable Try.prog 45 := callable_of Try.func45 rfl (by decide)
theorem cl46 : Callable Try.prog 46 := callable_of Try.func46 rfl (by decide)
theorem cl52 : Callable Try.prog 52 := callable_of Try.func52 rfl (by decide)
theorem cl53 : Callable Try.prog 53 := callable_of Try.func53 rfl (by decide)
theorem cl54 : Callable Try.prog 54 := callable_of Try.func54 rfl (by decide)
theorem cl55 : Callable Try.prog 55 := callable_of Try.func55 rfl (by decide)
theorem cl56 : Callable Try.prog 56 := callable_of Try.func56 rfl (by decide)
theorem cl57 : Callable Try.prog 57 := callable_of Try.func57 rfl (by decide)
theorem cl58 : Callable Try.prog 58 := callable_of Try.func58 rfl (by decide)
theorem cl59 : Callable Try.prog 59 := callable_of Try.func59 rfl (by decide)
theorem cl77 : Callable Try.prog 77 := callable_of Try.func77 rfl (by decide)
theorem cl78 : Callable Try.prog 78 := callable_of Try.func78 rfl (by decide)
theorem cl79 : Callable Try.prog 79 := callable_of Try.func79 rfl (by decide)
theorem cl80 : Callable Try.prog 80 := callable_of Try.func80 rfl (by decide)
theorem cl81 : Callable Try.prog 81 := callable_of Try.func81 rfl (by decide)
theorem cl82 : Callable Try.prog 82 := callable_of Try.func82 rfl (by decide)
theorem cl83 : Callable Try.prog 83 := callable_of Try.func83 rfl (by decide)
theorem cl84 : Callable Try.prog 84 := callable_of Try.func84 rfl (by decide)
theorem cl85 : Callable Try.prog 85 := callable_of Try.func85 rfl (by decide)
theorem cl86 : Callable Try.prog 86 := callable_of Try.func86 rfl (by decide)
theorem cl87 : Callable Try.prog 87 := callable_of Try.func87 rfl (by decide)
theorem cl88 : Callable Try.prog 88 := callable_of Try.func88 rfl (by decide)
theorem cl96 : Callable Try.prog 96 := callable_of Try.func96 rfl (by decide)
theorem cl97 : Callable Try.prog 97 := callable_of Try.func97 rfl (by decide)
theorem cl98 : Callable Try.prog 98 := callable_of Try.func98 rfl (by decide)
theorem cl99 : Callable Try.prog 99 := callable_of Try.func99 rfl (by decide)
theorem cl100 : Callable Try.prog 100 := callable_of Try.func100 rfl (by decide)
theorem cl101 : Callable Try.prog 101 := callable_of Try.func101 rfl (by decide)
theorem cl102 : Callable Try.prog 102 := callable_of Try.func102 rfl (by decide)
theorem cl103 : Callable Try.prog 103 := callable_of Try.func103 rfl (by decide)
theorem cl104 : Callable Try.prog 104 := callable_of Try.func104 rfl (by decide)
theorem cl105 : Callable Try.prog 105 := callable_of Try.func105 rfl (by decide)
theorem cl106 : Callable Try.prog 106 := callable_of Try.func106 rfl (by decide)
theorem cl107 : Callable Try.prog 107 := callable_of Try.func107 rfl (by decide)
theorem cl108 : Callable Try.prog 108 := callable_of Try.func108 rfl (by decide)
theorem cl117 : Callable Try.prog 117 := callable_of Try.func117 rfl (by decide)
theorem cl118 : Callable Try.prog 118 := callable_of Try.func118 rfl (by decide)
theorem cl119 : Callable Try.prog 119 := callable_of Try.func119 rfl (by decide)
theorem cl120 : Callable Try.prog 120 := callable_of Try.func120 rfl (by decide)
theorem cl121 : Callable Try.prog 121 := callable_of Try.func121 rfl (by decide)
theorem cl122 : Callable Try.prog 122 := callable_of Try.func122 rfl (by decide)
theorem cl123 : Callable Try.prog 123 := callable_of Try.func123 rfl (by decide)
theorem cl124 : Callable Try.prog 124 := callable_of Try.func124 rfl (by decide)
theorem cl125 : Callable Try.prog 125 := callable_of Try.func125 rfl (by decide)
theorem cl126 : Callable Try.prog 126 := callable_of Try.func126 rfl (by decide)
theorem cl133 : Callable Try.prog 133 := callable_of Try.func133 rfl (by decide)
theorem cl134 : Callable Try.prog 134 := callable_of Try.func134 rfl (by decide)
theorem cl135 : Callable Try.prog 135 := callable_of Try.func135 rfl (by decide)
theorem cl136 : Callable Try.prog 136 := callable_of Try.func136 rfl (by decide)
theorem cl137 : Callable Try.prog 137 := callable_of Try.func137 rfl (by decide)
theorem cl138 : Callable Try.prog 138 := callable_of Try.func138 rfl (by decide)
theorem cl139 : Callable Try.prog 139 := callable_of Try.func139 rfl (by decide)
theorem cl140 : Callable Try.prog 140 := callable_of Try.func140 rfl (by decide)
theorem cl142 : Callable Try.prog 142 := callable_of Try.func142 rfl (by decide)
theorem cl163 : Callable Try.prog 163 := callable_of Try.func163 rfl (by decide)
theorem cl164 : Callable Try.prog 164 := callable_of Try.func164 rfl (by decide)
theorem cl165 : Callable Try.prog 165 := callable_of Try.func165 rfl (by decide)
theorem cl166 : Callable Try.prog 166 := callable_of Try.func166 rfl (by decide)
theorem mix : Try.prog.follows .mixedOrders = true := by kernel_rfl
end Go.Proofs.Ytcngningbcaggaa
