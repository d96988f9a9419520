/- Facts on types and functions of this seat, by program (seat.py). No condition. -/
import Derived.Test.YtcngningbcaggaaProg
import Derived.Test.YtcngningbcaggaaQkGa
set_option maxRecDepth 100000
set_option linter.unusedVariables false
namespace Go.Proofs.Ytcngningbcaggaa
open Go.Fw
theorem ty23 : tyK Try.prog 23 = some (true, 5) := by kernel_rfl
theorem sl24 : sliceK Try.prog 24 = some 35 := by kernel_rfl
theorem ty35 : tyK Try.prog 35 = some (true, 10) := by kernel_rfl
theorem zr35 : zeroK Try.prog 35 = some [.int .i64 0, .int .i64 0, .slice none 0 0, .slice none 0 0, .string ⟨#[]⟩, .bool false, .int .i64 0, .int .i64 0, .slice none 0 0, .slice none 0 0] := by kernel_rfl
theorem by35 : bytesK Try.prog 35 = some 152 := by kernel_rfl
theorem sl27 : sliceK Try.prog 27 = some 39 := by kernel_rfl
theorem ty39 : tyK Try.prog 39 = some (true, 14) := by kernel_rfl
theorem zr39 : zeroK Try.prog 39 = some [.int .i64 0, .int .i64 0, .slice none 0 0, .slice none 0 0, .string ⟨#[]⟩, .bool false, .int .i64 0, .int .i64 0, .slice none 0 0, .slice none 0 0, .string ⟨#[]⟩, .string ⟨#[]⟩, .bool false, .slice none 0 0] := by kernel_rfl
theorem by39 : bytesK Try.prog 39 = some 216 := by kernel_rfl
theorem fd39_0 : fieldK Try.prog 39 0 = some 0 := by kernel_rfl
theorem fd35_1 : fieldK Try.prog 35 1 = some 1 := by kernel_rfl
theorem ty3 : tyK Try.prog 3 = some (false, 1) := by kernel_rfl
theorem zr3 : zeroK Try.prog 3 = some [.int .i64 0] := by kernel_rfl
theorem fd35_0 : fieldK Try.prog 35 0 = some 0 := by kernel_rfl
theorem sl30 : sliceK Try.prog 30 = some 3 := by kernel_rfl
theorem by3 : bytesK Try.prog 3 = some 8 := by kernel_rfl
theorem fd35_9 : fieldK Try.prog 35 9 = some 9 := by kernel_rfl
theorem ty31 : tyK Try.prog 31 = some (false, 1) := by kernel_rfl
theorem zr31 : zeroK Try.prog 31 = some [.slice none 0 0] := by kernel_rfl
theorem sl31 : sliceK Try.prog 31 = some 68 := by kernel_rfl
theorem ty68 : tyK Try.prog 68 = some (true, 2) := by kernel_rfl
theorem zr68 : zeroK Try.prog 68 = some [.string ⟨#[]⟩, .string ⟨#[]⟩] := by kernel_rfl
theorem by68 : bytesK Try.prog 68 = some 32 := by kernel_rfl
theorem fd35_3 : fieldK Try.prog 35 3 = some 3 := by kernel_rfl
theorem ty30 : tyK Try.prog 30 = some (false, 1) := by kernel_rfl
theorem zr30 : zeroK Try.prog 30 = some [.slice none 0 0] := by kernel_rfl
theorem fd23_0 : fieldK Try.prog 23 0 = some 0 := by kernel_rfl
theorem bo4 : Try.prog.underlying 4 = some .bool := by kernel_rfl
theorem st9 : Try.prog.underlying 9 = some .string := by kernel_rfl
theorem fd35_8 : fieldK Try.prog 35 8 = some 8 := by kernel_rfl
theorem ty33 : tyK Try.prog 33 = some (false, 1) := by kernel_rfl
theorem zr33 : zeroK Try.prog 33 = some [.slice none 0 0] := by kernel_rfl
theorem sl33 : sliceK Try.prog 33 = some 90 := by kernel_rfl
theorem ty90 : tyK Try.prog 90 = some (true, 6) := by kernel_rfl
theorem zr90 : zeroK Try.prog 90 = some [.int .i64 0, .int .i64 0, .string ⟨#[]⟩, .string ⟨#[]⟩, .bool false, .string ⟨#[]⟩] := by kernel_rfl
theorem by90 : bytesK Try.prog 90 = some 72 := by kernel_rfl
theorem fd35_7 : fieldK Try.prog 35 7 = some 7 := by kernel_rfl
theorem ty37 : tyK Try.prog 37 = some (true, 3) := by kernel_rfl
theorem zr37 : zeroK Try.prog 37 = some [.string ⟨#[]⟩, .string ⟨#[]⟩, .bool false] := by kernel_rfl
theorem pl37 : placesK Try.prog 37 = some [(0, 1), (1, 1), (2, 1)] := by kernel_rfl
theorem pl39 : placesK Try.prog 39 = some [(0, 10), (10, 3), (13, 1)] := by kernel_rfl
theorem fd35_2 : fieldK Try.prog 35 2 = some 2 := by kernel_rfl
theorem ty32 : tyK Try.prog 32 = some (false, 1) := by kernel_rfl
theorem sl32 : sliceK Try.prog 32 = some 9 := by kernel_rfl
theorem ty9 : tyK Try.prog 9 = some (false, 1) := by kernel_rfl
theorem by9 : bytesK Try.prog 9 = some 16 := by kernel_rfl
theorem fd39_1 : fieldK Try.prog 39 1 = some 10 := by kernel_rfl
theorem fd39_2 : fieldK Try.prog 39 2 = some 13 := by kernel_rfl
theorem sl63 : sliceK Try.prog 63 = some 33 := by kernel_rfl
theorem eq68 : fieldKs Try.prog 68 = some [.string, .string] := by kernel_rfl
theorem fd35_4 : fieldK Try.prog 35 4 = some 4 := by kernel_rfl
theorem pl35 : placesK Try.prog 35 = some [(0, 1), (1, 1), (2, 1), (3, 1), (4, 1), (5, 1), (6, 1), (7, 1), (8, 1), (9, 1)] := by kernel_rfl
theorem fd23_1 : fieldK Try.prog 23 1 = some 1 := by kernel_rfl
theorem pl90 : placesK Try.prog 90 = some [(0, 1), (1, 1), (2, 1), (3, 1), (4, 1), (5, 1)] := by kernel_rfl
theorem pl68 : placesK Try.prog 68 = some [(0, 1), (1, 1)] := by kernel_rfl
theorem fd23_2 : fieldK Try.prog 23 2 = some 2 := by kernel_rfl
theorem fd23_3 : fieldK Try.prog 23 3 = some 3 := by kernel_rfl
theorem fd23_4 : fieldK Try.prog 23 4 = some 4 := by kernel_rfl
theorem fd90_0 : fieldK Try.prog 90 0 = some 0 := by kernel_rfl
theorem fd37_0 : fieldK Try.prog 37 0 = some 0 := by kernel_rfl
theorem fd37_2 : fieldK Try.prog 37 2 = some 2 := by kernel_rfl
theorem ty4 : tyK Try.prog 4 = some (false, 1) := by kernel_rfl
theorem fd37_1 : fieldK Try.prog 37 1 = some 1 := by kernel_rfl
theorem ty24 : tyK Try.prog 24 = some (false, 1) := by kernel_rfl
theorem fd68_0 : fieldK Try.prog 68 0 = some 0 := by kernel_rfl
theorem fd68_1 : fieldK Try.prog 68 1 = some 1 := by kernel_rfl
theorem fd90_2 : fieldK Try.prog 90 2 = some 2 := by kernel_rfl
theorem fd90_3 : fieldK Try.prog 90 3 = some 3 := by kernel_rfl
theorem fd90_5 : fieldK Try.prog 90 5 = some 5 := by kernel_rfl
theorem fd35_6 : fieldK Try.prog 35 6 = some 6 := by kernel_rfl
theorem fd35_5 : fieldK Try.prog 35 5 = some 5 := by kernel_rfl
theorem eq37 : fieldKs Try.prog 37 = some [.string, .string, .bool] := by kernel_rfl
theorem fd90_1 : fieldK Try.prog 90 1 = some 1 := by kernel_rfl
theorem fd90_4 : fieldK Try.prog 90 4 = some 4 := by kernel_rfl
theorem ty136 : tyK Try.prog 136 = some (true, 2) := by kernel_rfl
theorem zr136 : zeroK Try.prog 136 = some [.int .i64 0, .string ⟨#[]⟩] := by kernel_rfl
theorem fd136_0 : fieldK Try.prog 136 0 = some 0 := by kernel_rfl
theorem fd136_1 : fieldK Try.prog 136 1 = some 1 := by kernel_rfl
theorem pl136 : placesK Try.prog 136 = some [(0, 1), (1, 1)] := by kernel_rfl
theorem cl3 : Callable Try.prog 3 := callable_of Try.func3 rfl (by decide)
theorem cl6 : Callable Try.prog 6 := callable_of Try.func6 rfl (by decide)
theorem cl8 : Callable Try.prog 8 := callable_of Try.func8 rfl (by decide)
theorem cl9 : Callable Try.prog 9 := callable_of Try.func9 rfl (by decide)
theorem cl10 : Callable Try.prog 10 := callable_of Try.func10 rfl (by decide)
theorem cl11 : Callable Try.prog 11 := callable_of Try.func11 rfl (by decide)
theorem cl12 : Callable Try.prog 12 := callable_of Try.func12 rfl (by decide)
theorem cl13 : Callable Try.prog 13 := callable_of Try.func13 rfl (by decide)
theorem cl14 : Callable Try.prog 14 := callable_of Try.func14 rfl (by decide)
theorem cl15 : Callable Try.prog 15 := callable_of Try.func15 rfl (by decide)
theorem cl16 : Callable Try.prog 16 := callable_of Try.func16 rfl (by decide)
theorem cl17 : Callable Try.prog 17 := callable_of Try.func17 rfl (by decide)
theorem cl18 : Callable Try.prog 18 := callable_of Try.func18 rfl (by decide)
theorem cl21 : Callable Try.prog 21 := callable_of Try.func21 rfl (by decide)
theorem cl29 : Callable Try.prog 29 := callable_of Try.func29 rfl (by decide)
theorem cl31 : Callable Try.prog 31 := callable_of Try.func31 rfl (by decide)
theorem cl32 : Callable Try.prog 32 := callable_of Try.func32 rfl (by decide)
theorem cl34 : Callable Try.prog 34 := callable_of Try.func34 rfl (by decide)
theorem cl35 : Callable Try.prog 35 := callable_of Try.func35 rfl (by decide)
theorem cl36 : Callable Try.prog 36 := callable_of Try.func36 rfl (by decide)
theorem cl37 : Callable Try.prog 37 := callable_of Try.func37 rfl (by decide)
theorem cl38 : Callable Try.prog 38 := callable_of Try.func38 rfl (by decide)
theorem cl39 : Callable Try.prog 39 := callable_of Try.func39 rfl (by decide)
theorem cl40 : Callable Try.prog 40 := callable_of Try.func40 rfl (by decide)
theorem cl41 : Callable Try.prog 41 := callable_of Try.func41 rfl (by decide)
theorem cl42 : Callable Try.prog 42 := callable_of Try.func42 rfl (by decide)
theorem cl43 : Callable Try.prog 43 := callable_of Try.func43 rfl (by decide)
theorem cl44 : Callable Try.prog 44 := callable_of Try.func44 rfl (by decide)
theorem cl45 : Callable Try.prog 45 := callable_of Try.func45 rfl (by decide)
theorem cl46 : Callable Try.prog 46 := callable_of Try.func46 rfl (by decide)
theorem cl60 : Callable Try.prog 60 := callable_of Try.func60 rfl (by decide)
theorem cl61 : Callable Try.prog 61 := callable_of Try.func61 rfl (by decide)
theorem cl62 : Callable Try.prog 62 := callable_of Try.func62 rfl (by decide)
theorem cl63 : Callable Try.prog 63 := callable_of Try.func63 rfl (by decide)
theorem cl64 : Callable Try.prog 64 := callable_of Try.func64 rfl (by decide)
theorem cl65 : Callable Try.prog 65 := callable_of Try.func65 rfl (by decide)
theorem cl66 : Callable Try.prog 66 := callable_of Try.func66 rfl (by decide)
theorem cl67 : Callable Try.prog 67 := callable_of Try.func67 rfl (by decide)
theorem cl68 : Callable Try.prog 68 := callable_of Try.func68 rfl (by decide)
theorem cl69 : Callable Try.prog 69 := callable_of Try.func69 rfl (by decide)
theorem cl70 : Callable Try.prog 70 := callable_of Try.func70 rfl (by decide)
theorem cl71 : Callable Try.prog 71 := callable_of Try.func71 rfl (by decide)
theorem cl72 : Callable Try.prog 72 := callable_of Try.func72 rfl (by decide)
theorem cl73 : Callable Try.prog 73 := callable_of Try.func73 rfl (by decide)
theorem cl74 : Callable Try.prog 74 := callable_of Try.func74 rfl (by decide)
theorem cl89 : Callable Try.prog 89 := callable_of Try.func89 rfl (by decide)
theorem cl90 : Callable Try.prog 90 := callable_of Try.func90 rfl (by decide)
theorem cl91 : Callable Try.prog 91 := callable_of Try.func91 rfl (by decide)
theorem cl92 : Callable Try.prog 92 := callable_of Try.func92 rfl (by decide)
theorem cl93 : Callable Try.prog 93 := callable_of Try.func93 rfl (by decide)
theorem cl109 : Callable Try.prog 109 := callable_of Try.func109 rfl (by decide)
theorem cl110 : Callable Try.prog 110 := callable_of Try.func110 rfl (by decide)
theorem cl111 : Callable Try.prog 111 := callable_of Try.func111 rfl (by decide)
theorem cl112 : Callable Try.prog 112 := callable_of Try.func112 rfl (by decide)
theorem cl113 : Callable Try.prog 113 := callable_of Try.func113 rfl (by decide)
theorem cl127 : Callable Try.prog 127 := callable_of Try.func127 rfl (by decide)
theorem cl128 : Callable Try.prog 128 := callable_of Try.func128 rfl (by decide)
theorem cl129 : Callable Try.prog 129 := callable_of Try.func129 rfl (by decide)
theorem cl130 : Callable Try.prog 130 := callable_of Try.func130 rfl (by decide)
theorem cl141 : Callable Try.prog 141 := callable_of Try.func141 rfl (by decide)
theorem mix : Try.prog.follows .mixedOrders = true := by kernel_rfl
end Go.Proofs.Ytcngningbcaggaa
theorem List.Sublist.k9 {α : Type} {a : α} {l l' : List α} (h : l.Sublist l') : (a :: l).Sublist (a :: l') := h.cons_cons a
namespace Go.Fw
open Go Go.RowKit
theorem sn9 {α : Type} {l : List α} : List.Sublist [] l := List.nil_sublist l
theorem sr9 {α : Type} {l : List α} : List.Sublist l l := List.Sublist.refl l
theorem pr9 {α : Type} {l : List α} : List.Perm l l := List.Perm.refl l
abbrev nd9 {a b : Int} {c : Option Addr} {d e : Nat} {f : Option Addr} {g h : Nat} {i : ByteArray} {j : Bool} {k l : Int} {m : Option Addr} {n o : Nat} {p : Option Addr} {q r : Nat} : List Value := [.int .i64 a, .int .i64 b, .slice c d e, .slice f g h, .string i, .bool j, .int .i64 k, .int .i64 l, .slice m n o, .slice p q r]
abbrev ndl (x : Nd) (a1 : Option Addr) (c1 : Nat) (a2 : Option Addr) (c2 : Nat) (a3 : Option Addr) (c3 : Nat) (a4 : Option Addr) (c4 : Nat) : List Value := [.int .i64 x.slot, .int .i64 x.level, .slice a1 x.pivots.length c1, .slice a2 x.kids.length c2, .string x.high.b, .bool x.top, .int .i64 x.right, .int .i64 x.seen, .slice a3 x.msgs.length c3, .slice a4 x.rows.length c4]
abbrev ms9 {a b : Int} {c d : ByteArray} {e : Bool} {f : ByteArray} : List Value := [.int .i64 a, .int .i64 b, .string c, .string d, .bool e, .string f]
abbrev sp9 {a b : ByteArray} {c : Bool} : List Value := [.string a, .string b, .bool c]
abbrev cf9 {a b c d e : Int} : List Value := [.int .i64 a, .int .i64 b, .int .i64 c, .int .i64 d, .int .i64 e]
abbrev ic9 {a : Int} : List Value := [.int .i64 a]
abbrev sc9 {a : ByteArray} : List Value := [.string a]
abbrev bc9 {a : Bool} : List Value := [.bool a]
abbrev lc9 {a : Option Addr} {b c : Nat} : List Value := [.slice a b c]
abbrev ef9 {a : Int} {b : ByteArray} : List Value := [.int .i64 a, .string b]
abbrev pr29 {a b : ByteArray} : List Value := [.string a, .string b]
theorem ok_ld {E : Env} {f : Fr} {G : GH} {M : MH} {d : Nat} {t ty : TypeId} {pos : String} {aft : Array Edge} {x : Operand} (i : Nat) (vs : List Value) {b o : Nat} {L : List Value} {T : TypeId} {bb : Bool} {j : Nat} (ht : tyK E.P t = some (bb, j))
    (hq : (ev f x, nthM M i, (L.drop o).take j, vs.length) = (.pointer (some ⟨b, o, none⟩), some (b, .cells L.toArray T (0, 0)), vs, j)) (hb : bb = false → j = 1 := by simp) : Ok E f G M ⟨some d, .load t x, ty, pos, aft, none⟩ (mkV bb vs) := by
  obtain ⟨h1, h⟩ := Prod.mk.inj hq
  obtain ⟨h2, h⟩ := Prod.mk.inj h
  obtain ⟨h3, h4⟩ := Prod.mk.inj h
  exact ok_loadB ht h1 h2 h3 h4 hb
theorem W.fb {E : Env} {f : Fr} {G : GH} {M : MH} {ops rest : List Oper} {q : Bool} {K : Kt} {d : Nat} {t ty : TypeId} {pos : String} {aft : Array Edge} {x : Operand} {b o off j : Nat} (ht : fieldK E.P t j = some off) (hx : ev f x = .pointer (some ⟨b, o, none⟩))
    (k : W E ops.toArray q rest (upd f d (.pointer (some ⟨b, o + off, none⟩))) G M K) (hd : Nat.blt d E.n = true := by rfl) : W E ops.toArray q (⟨some d, .fieldAddr t x j, ty, pos, aft, none⟩ :: rest) f G M K := W.ok (ok_fieldB ht hx) k hd
theorem W.st {E : Env} {f : Fr} {G : GH} {M : MH} {ops rest : List Oper} {K : Kt} {t ty : TypeId} {pos : String} {aft : Array Edge} {x y : Operand} (i : Nat) (vs L' : List Value) {b o : Nat} {L : List Value} {T : TypeId} {bb : Bool} {j : Nat} {v : Value} (ht : tyK E.P t = some (bb, j))
    (hq : (ev f x, nthM M i, ev f y, v.cells.toList, vs.length, vs.all Value.oneCell', Nat.ble (o + j) L.length, setAt L o vs) = (.pointer (some ⟨b, o, none⟩), some (b, .cells L.toArray T (0, 0)), v, vs, j, true, true, L'))
    (k : W E ops.toArray false rest f G (setM M i (.cells L'.toArray T (0, 0))) K) : W E ops.toArray false (⟨none, .store t x y, ty, pos, aft, none⟩ :: rest) f G M K := by
  obtain ⟨h1, h⟩ := Prod.mk.inj hq
  obtain ⟨h2, h⟩ := Prod.mk.inj h
  obtain ⟨h3, h⟩ := Prod.mk.inj h
  obtain ⟨h4, h⟩ := Prod.mk.inj h
  obtain ⟨h5, h⟩ := Prod.mk.inj h
  obtain ⟨h6, h⟩ := Prod.mk.inj h
  obtain ⟨h7, h8⟩ := Prod.mk.inj h
  exact W.store ht h1 h2 h3 h4 h5 h6 h7 h8 k
theorem W.y9 {E : Env} {f : Fr} {G : GH} {M : MH} {ops rest : List Oper} {q : Bool} {K : Kt} {op : Op} {ty : TypeId} {pos : String} {aft : Array Edge} {dst : Option Nat} {j dj : Nat} {want b : Bool} (hn : b = want) (hq : ((ops.toArray[j]?).bind (·.dst), f dj) = (some dj, .bool b))
    (k : W E ops.toArray q (⟨dst, op, ty, pos, aft, none⟩ :: rest) f G M K) (hdj : Nat.blt dj E.n = true := by rfl) : W E ops.toArray q (⟨dst, op, ty, pos, aft, some (j, want)⟩ :: rest) f G M K := W.yes (Prod.mk.inj hq).1 (Prod.mk.inj hq).2 hn k hdj
theorem W.n8 {E : Env} {f : Fr} {G : GH} {M : MH} {ops rest : List Oper} {q : Bool} {K : Kt} {d : Nat} {op : Op} {ty : TypeId} {pos : String} {aft : Array Edge} {j dj : Nat} {want b : Bool} (hn : b = !want) (hq : ((ops.toArray[j]?).bind (·.dst), f dj) = (some dj, .bool b))
    (k : W E ops.toArray q rest (upd f d undef) G M K) (hd : Nat.blt d E.n = true := by rfl) : W E ops.toArray q (⟨some d, op, ty, pos, aft, some (j, want)⟩ :: rest) f G M K := W.no (Prod.mk.inj hq).1 (Prod.mk.inj hq).2 hn k hd
theorem W.nt {E : Env} {f : Fr} {G : GH} {M : MH} {ops : List Oper} {q : Bool} {K : Kt} {Q : Exit → Kt} (h : K f G M) : W E ops.toArray q [] f G M (thn K Q .normal) := W.nil (thn_n h)
theorem WC.sr {E : Env} {f : Fr} {G : GH} {M : MH} {Q : Exit → Kt} {id : Nat} {l : List Oper} {y : Code} (h : W E l.toArray false l f G M (thn (WC E y Q) Q .normal)) : WC E (.seq (.region id l.toArray false) y) Q f G M := WC.seq (WC.region h)
theorem W.ns {E : Env} {f : Fr} {G : GH} {M : MH} {ops : List Oper} {q : Bool} {Q Q' : Exit → Kt} {id : Nat} {l : List Oper} {y : Code} (h : W E l.toArray false l f G M (thn (WC E y Q) Q .normal)) : W E ops.toArray q [] f G M (thn (WC E (.seq (.region id l.toArray false) y) Q) Q' .normal) := W.nt (WC.sr h)
theorem W.an {E : Env} {f : Fr} {G : GH} {M : MH} {ops : List Oper} {q : Bool} {K : Kt} {Q : Exit → Kt} {d : Nat} {ty : TypeId} {pos : String} {aft : Array Edge} {x : Operand} (k : K (upd f d (ev f x)) G M) (hd : Nat.blt d E.n = true := by rfl) : W E ops.toArray q [⟨some d, .assign x, ty, pos, aft, none⟩] f G M (thn K Q .normal) := W.as (W.nt k) hd
theorem WC.sk {E : Env} {f : Fr} {G : GH} {M : MH} {K : Kt} {Q : Exit → Kt} (h : K f G M) : WC E .skip (thn K Q) f G M := WC.skip (thn_n h)
theorem WC.rt {E : Env} {f : Fr} {G : GH} {M : MH} {K : Kt} {Q : Exit → Kt} (h : Q .ret f G M) : WC E .ret (thn K Q) f G M := WC.ret (thn_r h)
theorem WD.dn {E : Env} {f : Fr} {G : GH} {M Mk : MH} {ops : Array Oper} {K : Kt} {Q : Exit → Kt} {fuel : Nat} {listed : Array Bool} (h : K f G M) (hr : Region.ready .any ops listed = [] := by kernel_rfl) : WD E ops fuel listed f G M Mk (thn K Q .normal) := WD.done hr (thn_n h)
theorem odt {p : Prop} [Decidable p] (h : decide p = true) : p := of_decide_eq_true h
theorem odf {p : Prop} [Decidable p] (h : decide p = false) : ¬ p := of_decide_eq_false h
theorem nk9 {G : GH} {n : Nd} {a1 a2 a3 a4 : Option Addr} {c1 c2 c3 c4 : Nat} (h1 : SlR eStr G (.slice a1 n.pivots.length c1) n.pivots) (h2 : SlR eInt G (.slice a2 n.kids.length c2) n.kids) (h3 : SlR eMsg G (.slice a3 n.msgs.length c3) n.msgs) (h4 : SlR ePair G (.slice a4 n.rows.length c4) n.rows) (h : n.Ok) :
    NodeC G [.int .i64 n.slot, .int .i64 n.level, .slice a1 n.pivots.length c1, .slice a2 n.kids.length c2, .string n.high.b, .bool n.top, .int .i64 n.right, .int .i64 n.seen, .slice a3 n.msgs.length c3, .slice a4 n.rows.length c4] n := ⟨_, _, _, _, _, _, _, _, rfl, h1, h2, h3, h4, h⟩
theorem nm9 {G G' : GH} {n : Nd} {a1 a2 a3 a4 : Option Addr} {c1 c2 c3 c4 : Nat} (hl : Le G G') (h1 : SlR eStr G (.slice a1 n.pivots.length c1) n.pivots) (h2 : SlR eInt G (.slice a2 n.kids.length c2) n.kids) (h3 : SlR eMsg G (.slice a3 n.msgs.length c3) n.msgs) (h4 : SlR ePair G (.slice a4 n.rows.length c4) n.rows) (h : n.Ok) :
    NodeC G' [.int .i64 n.slot, .int .i64 n.level, .slice a1 n.pivots.length c1, .slice a2 n.kids.length c2, .string n.high.b, .bool n.top, .int .i64 n.right, .int .i64 n.seen, .slice a3 n.msgs.length c3, .slice a4 n.rows.length c4] n := (nk9 h1 h2 h3 h4 h).mono hl
end Go.Fw
namespace Go.Proofs.Ytcngningbcaggaa
open Go Go.Fw
instance : TyK Try.prog 23 true 5 := ⟨ty23⟩
instance : SlK Try.prog 24 35 := ⟨sl24⟩
instance : TyK Try.prog 35 true 10 := ⟨ty35⟩
instance : SlK Try.prog 27 39 := ⟨sl27⟩
instance : TyK Try.prog 39 true 14 := ⟨ty39⟩
instance : FdK Try.prog 39 0 0 := ⟨fd39_0⟩
instance : FdK Try.prog 35 1 1 := ⟨fd35_1⟩
instance : TyK Try.prog 3 false 1 := ⟨ty3⟩
instance : FdK Try.prog 35 0 0 := ⟨fd35_0⟩
instance : SlK Try.prog 30 3 := ⟨sl30⟩
instance : FdK Try.prog 35 9 9 := ⟨fd35_9⟩
instance : TyK Try.prog 31 false 1 := ⟨ty31⟩
instance : SlK Try.prog 31 68 := ⟨sl31⟩
instance : TyK Try.prog 68 true 2 := ⟨ty68⟩
instance : FdK Try.prog 35 3 3 := ⟨fd35_3⟩
instance : TyK Try.prog 30 false 1 := ⟨ty30⟩
instance : FdK Try.prog 23 0 0 := ⟨fd23_0⟩
instance : BoK Try.prog 4 := ⟨bo4⟩
instance : StK Try.prog 9 := ⟨st9⟩
instance : FdK Try.prog 35 8 8 := ⟨fd35_8⟩
instance : TyK Try.prog 33 false 1 := ⟨ty33⟩
instance : SlK Try.prog 33 90 := ⟨sl33⟩
instance : TyK Try.prog 90 true 6 := ⟨ty90⟩
instance : FdK Try.prog 35 7 7 := ⟨fd35_7⟩
instance : TyK Try.prog 37 true 3 := ⟨ty37⟩
instance : FdK Try.prog 35 2 2 := ⟨fd35_2⟩
instance : TyK Try.prog 32 false 1 := ⟨ty32⟩
instance : SlK Try.prog 32 9 := ⟨sl32⟩
instance : TyK Try.prog 9 false 1 := ⟨ty9⟩
instance : FdK Try.prog 39 1 10 := ⟨fd39_1⟩
instance : FdK Try.prog 39 2 13 := ⟨fd39_2⟩
instance : SlK Try.prog 63 33 := ⟨sl63⟩
instance : FdK Try.prog 35 4 4 := ⟨fd35_4⟩
instance : FdK Try.prog 23 1 1 := ⟨fd23_1⟩
instance : FdK Try.prog 23 2 2 := ⟨fd23_2⟩
instance : FdK Try.prog 23 3 3 := ⟨fd23_3⟩
instance : FdK Try.prog 23 4 4 := ⟨fd23_4⟩
instance : FdK Try.prog 90 0 0 := ⟨fd90_0⟩
instance : FdK Try.prog 37 0 0 := ⟨fd37_0⟩
instance : FdK Try.prog 37 2 2 := ⟨fd37_2⟩
instance : TyK Try.prog 4 false 1 := ⟨ty4⟩
instance : FdK Try.prog 37 1 1 := ⟨fd37_1⟩
instance : TyK Try.prog 24 false 1 := ⟨ty24⟩
instance : FdK Try.prog 68 0 0 := ⟨fd68_0⟩
instance : FdK Try.prog 68 1 1 := ⟨fd68_1⟩
instance : FdK Try.prog 90 2 2 := ⟨fd90_2⟩
instance : FdK Try.prog 90 3 3 := ⟨fd90_3⟩
instance : FdK Try.prog 90 5 5 := ⟨fd90_5⟩
instance : FdK Try.prog 35 6 6 := ⟨fd35_6⟩
instance : FdK Try.prog 35 5 5 := ⟨fd35_5⟩
instance : FdK Try.prog 90 1 1 := ⟨fd90_1⟩
instance : FdK Try.prog 90 4 4 := ⟨fd90_4⟩
instance : TyK Try.prog 136 true 2 := ⟨ty136⟩
instance : FdK Try.prog 136 0 0 := ⟨fd136_0⟩
instance : FdK Try.prog 136 1 1 := ⟨fd136_1⟩
instance : MixK Try.prog := ⟨mix⟩
end Go.Proofs.Ytcngningbcaggaa
