/- Facts on types and functions of this seat, by program (seat.py). No condition. -/
import Derived.Test.YtmbafmifalppaaaProg
import Derived.Test.YtmbafmifalppaaaQaX2
set_option maxRecDepth 100000
set_option linter.unusedVariables false
namespace Go.Proofs.Ytmbafmifalppaaa
open Go.Fw
theorem ty23 : tyK Try.prog 23 = some (true, 5) := by kernel_rfl
theorem zr23 : zeroK Try.prog 23 = some [.int .i64 0, .int .i64 0, .int .i64 0, .int .i64 0, .int .i64 0] := by kernel_rfl
theorem sl24 : sliceK Try.prog 24 = some 35 := by kernel_rfl
theorem ty35 : tyK Try.prog 35 = some (true, 10) := by kernel_rfl
theorem zr35 : zeroK Try.prog 35 = some [.int .i64 0, .int .i64 0, .slice none 0 0, .slice none 0 0, .string ⟨#[]⟩, .bool false, .int .i64 0, .int .i64 0, .slice none 0 0, .slice none 0 0] := by kernel_rfl
theorem by35 : bytesK Try.prog 35 = some 152 := by kernel_rfl
theorem fd35_1 : fieldK Try.prog 35 1 = some 1 := by kernel_rfl
theorem ty3 : tyK Try.prog 3 = some (false, 1) := by kernel_rfl
theorem zr3 : zeroK Try.prog 3 = some [.int .i64 0] := by kernel_rfl
theorem fd35_0 : fieldK Try.prog 35 0 = some 0 := by kernel_rfl
theorem sl30 : sliceK Try.prog 30 = some 3 := by kernel_rfl
theorem by3 : bytesK Try.prog 3 = some 8 := by kernel_rfl
theorem fd35_9 : fieldK Try.prog 35 9 = some 9 := by kernel_rfl
theorem ty31 : tyK Try.prog 31 = some (false, 1) := by kernel_rfl
theorem sl31 : sliceK Try.prog 31 = some 71 := by kernel_rfl
theorem ty71 : tyK Try.prog 71 = some (true, 2) := by kernel_rfl
theorem zr71 : zeroK Try.prog 71 = some [.string ⟨#[]⟩, .string ⟨#[]⟩] := by kernel_rfl
theorem by71 : bytesK Try.prog 71 = some 32 := by kernel_rfl
theorem fd35_3 : fieldK Try.prog 35 3 = some 3 := by kernel_rfl
theorem ty30 : tyK Try.prog 30 = some (false, 1) := by kernel_rfl
theorem fd23_0 : fieldK Try.prog 23 0 = some 0 := by kernel_rfl
theorem bo4 : Try.prog.underlying 4 = some .bool := by kernel_rfl
theorem pp54 : ptrT Try.prog 54 = true := by kernel_rfl
theorem sl53 : sliceK Try.prog 53 = some 62 := by kernel_rfl
theorem ty62 : tyK Try.prog 62 = some (true, 11) := by kernel_rfl
theorem zr62 : zeroK Try.prog 62 = some [.int .i64 0, .int .i64 0, .int .i64 0, .slice none 0 0, .slice none 0 0, .string ⟨#[]⟩, .bool false, .int .i64 0, .int .i64 0, .slice none 0 0, .slice none 0 0] := by kernel_rfl
theorem by62 : bytesK Try.prog 62 = some 160 := by kernel_rfl
theorem fd62_1 : fieldK Try.prog 62 1 = some 1 := by kernel_rfl
theorem fd62_0 : fieldK Try.prog 62 0 = some 0 := by kernel_rfl
theorem un3 : Try.prog.underlying 3 = some (.int .i64) := by kernel_rfl
theorem un63 : Try.prog.underlying 63 = some (.int .u64) := by kernel_rfl
theorem fd71_1 : fieldK Try.prog 71 1 = some 1 := by kernel_rfl
theorem ty9 : tyK Try.prog 9 = some (false, 1) := by kernel_rfl
theorem zr9 : zeroK Try.prog 9 = some [.string ⟨#[]⟩] := by kernel_rfl
theorem fd75_1 : fieldK Try.prog 75 1 = some 5 := by kernel_rfl
theorem ty24 : tyK Try.prog 24 = some (false, 1) := by kernel_rfl
theorem pl35 : placesK Try.prog 35 = some [(0, 1), (1, 1), (2, 1), (3, 1), (4, 1), (5, 1), (6, 1), (7, 1), (8, 1), (9, 1)] := by kernel_rfl
theorem fd23_3 : fieldK Try.prog 23 3 = some 3 := by kernel_rfl
theorem eq23 : fieldKs Try.prog 23 = some [.int .i64, .int .i64, .int .i64, .int .i64, .int .i64] := by kernel_rfl
theorem st9 : Try.prog.underlying 9 = some .string := by kernel_rfl
theorem fd35_7 : fieldK Try.prog 35 7 = some 7 := by kernel_rfl
theorem fd35_2 : fieldK Try.prog 35 2 = some 2 := by kernel_rfl
theorem ty32 : tyK Try.prog 32 = some (false, 1) := by kernel_rfl
theorem sl32 : sliceK Try.prog 32 = some 9 := by kernel_rfl
theorem by9 : bytesK Try.prog 9 = some 16 := by kernel_rfl
theorem fd35_8 : fieldK Try.prog 35 8 = some 8 := by kernel_rfl
theorem ty33 : tyK Try.prog 33 = some (false, 1) := by kernel_rfl
theorem sl33 : sliceK Try.prog 33 = some 141 := by kernel_rfl
theorem ty141 : tyK Try.prog 141 = some (true, 6) := by kernel_rfl
theorem zr141 : zeroK Try.prog 141 = some [.int .i64 0, .int .i64 0, .string ⟨#[]⟩, .string ⟨#[]⟩, .bool false, .string ⟨#[]⟩] := by kernel_rfl
theorem by141 : bytesK Try.prog 141 = some 72 := by kernel_rfl
theorem eq71 : fieldKs Try.prog 71 = some [.string, .string] := by kernel_rfl
theorem fd35_4 : fieldK Try.prog 35 4 = some 4 := by kernel_rfl
theorem pl23 : placesK Try.prog 23 = some [(0, 1), (1, 1), (2, 1), (3, 1), (4, 1)] := by kernel_rfl
theorem fd23_1 : fieldK Try.prog 23 1 = some 1 := by kernel_rfl
theorem zr132 : zeroK Try.prog 132 = some [.int .i64 0, .int .i64 0, .int .i64 0, .int .i64 0, .int .i64 0, .pointer none] := by kernel_rfl
theorem pl132 : placesK Try.prog 132 = some [(0, 5), (5, 1)] := by kernel_rfl
theorem fd23_2 : fieldK Try.prog 23 2 = some 2 := by kernel_rfl
theorem fd23_4 : fieldK Try.prog 23 4 = some 4 := by kernel_rfl
theorem zr75 : zeroK Try.prog 75 = some [.int .i64 0, .int .i64 0, .int .i64 0, .int .i64 0, .int .i64 0, .slice none 0 0] := by kernel_rfl
theorem pl75 : placesK Try.prog 75 = some [(0, 5), (5, 1)] := by kernel_rfl
theorem fd132_1 : fieldK Try.prog 132 1 = some 5 := by kernel_rfl
theorem ty128 : tyK Try.prog 128 = some (false, 1) := by kernel_rfl
theorem fd75_0 : fieldK Try.prog 75 0 = some 0 := by kernel_rfl
theorem fd35_5 : fieldK Try.prog 35 5 = some 5 := by kernel_rfl
theorem ty4 : tyK Try.prog 4 = some (false, 1) := by kernel_rfl
theorem zr4 : zeroK Try.prog 4 = some [.bool false] := by kernel_rfl
theorem fd35_6 : fieldK Try.prog 35 6 = some 6 := by kernel_rfl
theorem fd132_0 : fieldK Try.prog 132 0 = some 0 := by kernel_rfl
theorem fd141_2 : fieldK Try.prog 141 2 = some 2 := by kernel_rfl
theorem fd71_0 : fieldK Try.prog 71 0 = some 0 := by kernel_rfl
theorem fd141_3 : fieldK Try.prog 141 3 = some 3 := by kernel_rfl
theorem fd141_5 : fieldK Try.prog 141 5 = some 5 := by kernel_rfl
theorem sl176 : sliceK Try.prog 176 = some 4 := by kernel_rfl
theorem by4 : bytesK Try.prog 4 = some 1 := by kernel_rfl
theorem zr179 : zeroK Try.prog 179 = some [.slice none 0 0, .slice none 0 0, .slice none 0 0] := by kernel_rfl
theorem pl179 : placesK Try.prog 179 = some [(0, 1), (1, 1), (2, 1)] := by kernel_rfl
theorem fd179_2 : fieldK Try.prog 179 2 = some 2 := by kernel_rfl
theorem ty177 : tyK Try.prog 177 = some (false, 1) := by kernel_rfl
theorem sl177 : sliceK Try.prog 177 = some 3 := by kernel_rfl
theorem pi181 : plainT Try.prog 181 = true := by kernel_rfl
theorem pp128 : ptrT Try.prog 128 = true := by kernel_rfl
theorem fd179_0 : fieldK Try.prog 179 0 = some 0 := by kernel_rfl
theorem pi3 : plainT Try.prog 3 = true := by kernel_rfl
theorem fd179_1 : fieldK Try.prog 179 1 = some 1 := by kernel_rfl
theorem ty176 : tyK Try.prog 176 = some (false, 1) := by kernel_rfl
theorem eq141 : fieldKs Try.prog 141 = some [.int .i64, .int .i64, .string, .string, .bool, .string] := by kernel_rfl
theorem cl5 : Callable Try.prog 5 := callable_of Try.func5 rfl (by decide)
theorem cl13 : Callable Try.prog 13 := callable_of Try.func13 rfl (by decide)
theorem cl15 : Callable Try.prog 15 := callable_of Try.func15 rfl (by decide)
theorem cl20 : Callable Try.prog 20 := callable_of Try.func20 rfl (by decide)
theorem cl28 : Callable Try.prog 28 := callable_of Try.func28 rfl (by decide)
theorem cl29 : Callable Try.prog 29 := callable_of Try.func29 rfl (by decide)
theorem cl30 : Callable Try.prog 30 := callable_of Try.func30 rfl (by decide)
theorem cl31 : Callable Try.prog 31 := callable_of Try.func31 rfl (by decide)
theorem cl32 : Callable Try.prog 32 := callable_of Try.func32 rfl (by decide)
theorem cl33 : Callable Try.prog 33 := callable_of Try.func33 rfl (by decide)
theorem cl34 : Callable Try.prog 34 := callable_of Try.func34 rfl (by decide)
theorem cl35 : Callable Try.prog 35 := callable_of Try.func35 rfl (by decide)
theorem cl36 : Callable Try.prog 36 := callable_of Try.func36 rfl (by decide)
theorem cl37 : Callable Try.prog 37 := callable_of Try.func37 rfl (by decide)
theorem cl38 : Callable Try.prog 38 := callable_of Try.func38 rfl (by decide)
theorem cl39 : Callable Try.prog 39 := callable_of Try.func39 rfl (by decide)
theorem cl40 : Callable Try.prog 40 := callable_of Try.func40 rfl (by decide)
theorem cl41 : Callable Try.prog 41 := callable_of Try.func41 rfl (by decide)
theorem cl42 : Callable Try.prog 42 := callable_of Try.func42 rfl (by decide)
theorem cl43 : Callable Try.prog 43 := callable_of Try.func43 rfl (by decide)
theorem cl44 : Callable Try.prog 44 := callable_of Try.func44 rfl (by decide)
theorem cl73 : Callable Try.prog 73 := callable_of Try.func73 rfl (by decide)
theorem cl74 : Callable Try.prog 74 := callable_of Try.func74 rfl (by decide)
theorem cl75 : Callable Try.prog 75 := callable_of Try.func75 rfl (by decide)
theorem cl81 : Callable Try.prog 81 := callable_of Try.func81 rfl (by decide)
theorem cl82 : Callable Try.prog 82 := callable_of Try.func82 rfl (by decide)
theorem cl83 : Callable Try.prog 83 := callable_of Try.func83 rfl (by decide)
theorem cl84 : Callable Try.prog 84 := callable_of Try.func84 rfl (by decide)
theorem cl85 : Callable Try.prog 85 := callable_of Try.func85 rfl (by decide)
theorem cl86 : Callable Try.prog 86 := callable_of Try.func86 rfl (by decide)
theorem cl87 : Callable Try.prog 87 := callable_of Try.func87 rfl (by decide)
theorem cl88 : Callable Try.prog 88 := callable_of Try.func88 rfl (by decide)
theorem cl89 : Callable Try.prog 89 := callable_of Try.func89 rfl (by decide)
theorem cl90 : Callable Try.prog 90 := callable_of Try.func90 rfl (by decide)
theorem cl91 : Callable Try.prog 91 := callable_of Try.func91 rfl (by decide)
theorem cl92 : Callable Try.prog 92 := callable_of Try.func92 rfl (by decide)
theorem cl127 : Callable Try.prog 127 := callable_of Try.func127 rfl (by decide)
theorem cl128 : Callable Try.prog 128 := callable_of Try.func128 rfl (by decide)
theorem cl129 : Callable Try.prog 129 := callable_of Try.func129 rfl (by decide)
theorem cl130 : Callable Try.prog 130 := callable_of Try.func130 rfl (by decide)
theorem cl131 : Callable Try.prog 131 := callable_of Try.func131 rfl (by decide)
theorem cl132 : Callable Try.prog 132 := callable_of Try.func132 rfl (by decide)
theorem cl133 : Callable Try.prog 133 := callable_of Try.func133 rfl (by decide)
theorem cl157 : Callable Try.prog 157 := callable_of Try.func157 rfl (by decide)
theorem cl225 : Callable Try.prog 225 := callable_of Try.func225 rfl (by decide)
theorem cl226 : Callable Try.prog 226 := callable_of Try.func226 rfl (by decide)
theorem cl227 : Callable Try.prog 227 := callable_of Try.func227 rfl (by decide)
theorem cl228 : Callable Try.prog 228 := callable_of Try.func228 rfl (by decide)
theorem cl229 : Callable Try.prog 229 := callable_of Try.func229 rfl (by decide)
theorem mix : Try.prog.follows .mixedOrders = true := by kernel_rfl
end Go.Proofs.Ytmbafmifalppaaa
theorem List.Sublist.k9 {α : Type} {a : α} {l l' : List α} (h : l.Sublist l') : (a :: l).Sublist (a :: l') := h.cons_cons a
namespace Go.Fw
open Go Go.RowKit
theorem sn9 {α : Type} {l : List α} : List.Sublist [] l := List.nil_sublist l
theorem sr9 {α : Type} {l : List α} : List.Sublist l l := List.Sublist.refl l
theorem pr9 {α : Type} {l : List α} : List.Perm l l := List.Perm.refl l
theorem WD.tk {E : Env} {f : Fr} {G : GH} {M Mk : MH} {ops : Array Oper} {K : Kt} {fuel : Nat} {listed : Array Bool} (i : Nat) {op : Op} {ty : TypeId} {pos : String} {aft : Array Edge} {d : Nat} {v : Value} (ho : ops[i]? = some ⟨some d, op, ty, pos, aft, none⟩) (hok : Ok E f G Mk ⟨some d, op, ty, pos, aft, none⟩ v)
    (h : WD E ops fuel (listed.setIfInBounds i true) (upd f d v) G M Mk K) (hs : Region.noSelect ops = true := by kernel_rfl) (hf : Region.free .any ops listed i = true := by kernel_rfl) (hr : (Region.ready .any ops listed).contains i = true := by kernel_rfl) (hd : Nat.blt d E.n = true := by rfl) : WD E ops (fuel + 1) listed f G M Mk K :=
  WD.take i ho rfl rfl hs hf hr hok h hd
theorem WD.n9 {E : Env} {f : Fr} {G G' : GH} {M' Mk : MH} {ops : Array Oper} {K : Kt} {fuel : Nat} {listed : Array Bool} (a : Le G G') (b : Mk.Sublist M') (h : WD E ops fuel listed f G' M' Mk K) : Le G G' ∧ Mk.Sublist M' ∧ ∃ Mk' : MH, Mk'.Sublist M' ∧ Mk.Sublist Mk' ∧ WD E ops fuel listed f G' M' Mk' K := ⟨a, b, Mk, b, List.Sublist.refl _, h⟩
theorem WD.a1 {E : Env} {f : Fr} {G : GH} {M Mk : MH} {ops : Array Oper} {K : Kt} {fuel : Nat} {listed : Array Bool} (i : Nat) {dst : Option Nat} {op : Op} {ty : TypeId} {pos : String} {aft : Array Edge} (ho : ops[i]? = some ⟨dst, op, ty, pos, aft, none⟩)
    (h : W E [(⟨dst, op, ty, pos, aft, none⟩ : Oper)].toArray false [(⟨dst, op, ty, pos, aft, none⟩ : Oper)] f G M (fun f' G' M' => Le G G' ∧ Mk.Sublist M' ∧ ∃ Mk', Mk'.Sublist M' ∧ Mk.Sublist Mk' ∧ WD E ops fuel (listed.setIfInBounds i true) f' G' M' Mk' K))
    (hr : Region.ready .any ops listed = [i] := by kernel_rfl) : WD E ops (fuel + 1) listed f G M Mk K := WD.any [i] hr rfl ⟨⟨_, ho, rfl, h⟩, trivial⟩
abbrev nd9 (a b : Int) (c : Option Addr) (d e : Nat) (f : Option Addr) (g h : Nat) (i : ByteArray) (j : Bool) (k l : Int) (m : Option Addr) (n o : Nat) (p : Option Addr) (q r : Nat) : List Value := [.int .i64 a, .int .i64 b, .slice c d e, .slice f g h, .string i, .bool j, .int .i64 k, .int .i64 l, .slice m n o, .slice p q r]
end Go.Fw
