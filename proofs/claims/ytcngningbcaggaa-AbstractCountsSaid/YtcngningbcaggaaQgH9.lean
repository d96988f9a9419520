/- Shorter names for steps that come often. No condition. -/
import Derived.Test.YtcngningbcaggaaQgGa
import Derived.Test.YtcngningbcaggaaQgFt
set_option linter.unusedVariables false
theorem List.Sublist.k9 {α : Type} {a : α} {l l' : List α} (h : l.Sublist l') : (a :: l).Sublist (a :: l') := h.cons_cons a
namespace Go.Fw
open Go Go.RowKit
theorem sn9 {α : Type} {l : List α} : List.Sublist [] l := List.nil_sublist l
theorem sr9 {α : Type} {l : List α} : List.Sublist l l := List.Sublist.refl l
theorem pr9 {α : Type} {l : List α} : List.Perm l l := List.Perm.refl l
abbrev nd9 {a b : Int} {c : Option Addr} {d e : Nat} {f : Option Addr} {g h : Nat} {i : ByteArray} {j : Bool} {k l : Int} {m : Option Addr} {n o : Nat} {p : Option Addr} {q r : Nat} : List Value := [.int .i64 a, .int .i64 b, .slice c d e, .slice f g h, .string i, .bool j, .int .i64 k, .int .i64 l, .slice m n o, .slice p q r]
abbrev ndl (x : Nd) (a1 : Option Addr) (c1 : Nat) (a2 : Option Addr) (c2 : Nat) (a3 : Option Addr) (c3 : Nat) (a4 : Option Addr) (c4 : Nat) : List Value := [.int .i64 x.slot, .int .i64 x.level, .slice a1 x.pivots.length c1, .slice a2 x.kids.length c2, .string x.high.b, .bool x.top, .int .i64 x.right, .int .i64 x.seen, .slice a3 x.msgs.length c3, .slice a4 x.rows.length c4]
abbrev ms9 {a b : Int} {c d : ByteArray} {e : Bool} {f : ByteArray} : List Value := [.int .i64 a, .int .i64 b, .string c, .string d, .bool e, .string f]
abbrev sp9 {a b : ByteArray} {c : Bool} : List Value := [.string a, .string b, .bool c]
abbrev cf9 {a b c d e : Int} : List Value := [.int .i64 a, .int .i64 b, .int .i64 c, .int .i64 d, .int .i64 e]
abbrev ic9 {a : Int} : List Value := [.int .i64 a]
abbrev sc9 {a : ByteArray} : List Value := [.string a]
abbrev bc9 {a : Bool} : List Value := [.bool a]
abbrev lc9 {a : Option Addr} {b c : Nat} : List Value := [.slice a b c]
abbrev ef9 {a : Int} {b : ByteArray} : List Value := [.int .i64 a, .string b]
abbrev pr29 {a b : ByteArray} : List Value := [.string a, .string b]
theorem ok_ld {E : Env} {f : Fr} {G : GH} {M : MH} {d : Nat} {t ty : TypeId} {pos : String} {aft : Array Edge} {x : Operand} (i : Nat) (vs : List Value) {b o : Nat} {L : List Value} {T : TypeId} {bb : Bool} {j : Nat} (ht : tyK E.P t = some (bb, j))
    (hq : (ev f x, nthM M i, (L.drop o).take j, vs.length) = (.pointer (some ⟨b, o, none⟩), some (b, .cells L.toArray T (0, 0)), vs, j)) (hb : bb = false → j = 1 := by simp) : Ok E f G M ⟨some d, .load t x, ty, pos, aft, none⟩ (mkV bb vs) := by
  obtain ⟨h1, h⟩ := Prod.mk.inj hq
  obtain ⟨h2, h⟩ := Prod.mk.inj h
  obtain ⟨h3, h4⟩ := Prod.mk.inj h
  exact ok_loadB ht h1 h2 h3 h4 hb
theorem W.fb {E : Env} {f : Fr} {G : GH} {M : MH} {ops rest : List Oper} {q : Bool} {K : Kt} {d : Nat} {t ty : TypeId} {pos : String} {aft : Array Edge} {x : Operand} {b o off j : Nat} (ht : fieldK E.P t j = some off) (hx : ev f x = .pointer (some ⟨b, o, none⟩))
    (k : W E ops.toArray q rest (upd f d (.pointer (some ⟨b, o + off, none⟩))) G M K) (hd : Nat.blt d E.n = true := by rfl) : W E ops.toArray q (⟨some d, .fieldAddr t x j, ty, pos, aft, none⟩ :: rest) f G M K := W.ok (ok_fieldB ht hx) k hd
theorem W.st {E : Env} {f : Fr} {G : GH} {M : MH} {ops rest : List Oper} {K : Kt} {t ty : TypeId} {pos : String} {aft : Array Edge} {x y : Operand} (i : Nat) (vs L' : List Value) {b o : Nat} {L : List Value} {T : TypeId} {bb : Bool} {j : Nat} {v : Value} (ht : tyK E.P t = some (bb, j))
    (hq : (ev f x, nthM M i, ev f y, v.cells.toList, vs.length, vs.all Value.oneCell', Nat.ble (o + j) L.length, setAt L o vs) = (.pointer (some ⟨b, o, none⟩), some (b, .cells L.toArray T (0, 0)), v, vs, j, true, true, L'))
    (k : W E ops.toArray false rest f G (setM M i (.cells L'.toArray T (0, 0))) K) : W E ops.toArray false (⟨none, .store t x y, ty, pos, aft, none⟩ :: rest) f G M K := by
  obtain ⟨h1, h⟩ := Prod.mk.inj hq
  obtain ⟨h2, h⟩ := Prod.mk.inj h
  obtain ⟨h3, h⟩ := Prod.mk.inj h
  obtain ⟨h4, h⟩ := Prod.mk.inj h
  obtain ⟨h5, h⟩ := Prod.mk.inj h
  obtain ⟨h6, h⟩ := Prod.mk.inj h
  obtain ⟨h7, h8⟩ := Prod.mk.inj h
  exact W.store ht h1 h2 h3 h4 h5 h6 h7 h8 k
theorem W.y9 {E : Env} {f : Fr} {G : GH} {M : MH} {ops rest : List Oper} {q : Bool} {K : Kt} {op : Op} {ty : TypeId} {pos : String} {aft : Array Edge} {dst : Option Nat} {j dj : Nat} {want b : Bool} (hn : b = want) (hq : ((ops.toArray[j]?).bind (·.dst), f dj) = (some dj, .bool b))
    (k : W E ops.toArray q (⟨dst, op, ty, pos, aft, none⟩ :: rest) f G M K) (hdj : Nat.blt dj E.n = true := by rfl) : W E ops.toArray q (⟨dst, op, ty, pos, aft, some (j, want)⟩ :: rest) f G M K := W.yes (Prod.mk.inj hq).1 (Prod.mk.inj hq).2 hn k hdj
theorem W.n8 {E : Env} {f : Fr} {G : GH} {M : MH} {ops rest : List Oper} {q : Bool} {K : Kt} {d : Nat} {op : Op} {ty : TypeId} {pos : String} {aft : Array Edge} {j dj : Nat} {want b : Bool} (hn : b = !want) (hq : ((ops.toArray[j]?).bind (·.dst), f dj) = (some dj, .bool b))
    (k : W E ops.toArray q rest (upd f d undef) G M K) (hd : Nat.blt d E.n = true := by rfl) : W E ops.toArray q (⟨some d, op, ty, pos, aft, some (j, want)⟩ :: rest) f G M K := W.no (Prod.mk.inj hq).1 (Prod.mk.inj hq).2 hn k hd
theorem W.nt {E : Env} {f : Fr} {G : GH} {M : MH} {ops : List Oper} {q : Bool} {K : Kt} {Q : Exit → Kt} (h : K f G M) : W E ops.toArray q [] f G M (thn K Q .normal) := W.nil (thn_n h)
theorem WC.sr {E : Env} {f : Fr} {G : GH} {M : MH} {Q : Exit → Kt} {id : Nat} {l : List Oper} {y : Code} (h : W E l.toArray false l f G M (thn (WC E y Q) Q .normal)) : WC E (.seq (.region id l.toArray false) y) Q f G M := WC.seq (WC.region h)
theorem W.ns {E : Env} {f : Fr} {G : GH} {M : MH} {ops : List Oper} {q : Bool} {Q Q' : Exit → Kt} {id : Nat} {l : List Oper} {y : Code} (h : W E l.toArray false l f G M (thn (WC E y Q) Q .normal)) : W E ops.toArray q [] f G M (thn (WC E (.seq (.region id l.toArray false) y) Q) Q' .normal) := W.nt (WC.sr h)
theorem W.an {E : Env} {f : Fr} {G : GH} {M : MH} {ops : List Oper} {q : Bool} {K : Kt} {Q : Exit → Kt} {d : Nat} {ty : TypeId} {pos : String} {aft : Array Edge} {x : Operand} (k : K (upd f d (ev f x)) G M) (hd : Nat.blt d E.n = true := by rfl) : W E ops.toArray q [⟨some d, .assign x, ty, pos, aft, none⟩] f G M (thn K Q .normal) := W.as (W.nt k) hd
theorem WC.sk {E : Env} {f : Fr} {G : GH} {M : MH} {K : Kt} {Q : Exit → Kt} (h : K f G M) : WC E .skip (thn K Q) f G M := WC.skip (thn_n h)
theorem WC.rt {E : Env} {f : Fr} {G : GH} {M : MH} {K : Kt} {Q : Exit → Kt} (h : Q .ret f G M) : WC E .ret (thn K Q) f G M := WC.ret (thn_r h)
theorem WD.dn {E : Env} {f : Fr} {G : GH} {M Mk : MH} {ops : Array Oper} {K : Kt} {Q : Exit → Kt} {fuel : Nat} {listed : Array Bool} (h : K f G M) (hr : Region.ready .any ops listed = [] := by kernel_rfl) : WD E ops fuel listed f G M Mk (thn K Q .normal) := WD.done hr (thn_n h)
theorem odt {p : Prop} [Decidable p] (h : decide p = true) : p := of_decide_eq_true h
theorem odf {p : Prop} [Decidable p] (h : decide p = false) : ¬ p := of_decide_eq_false h
theorem nk9 {G : GH} {n : Nd} {a1 a2 a3 a4 : Option Addr} {c1 c2 c3 c4 : Nat} (h1 : SlR eStr G (.slice a1 n.pivots.length c1) n.pivots) (h2 : SlR eInt G (.slice a2 n.kids.length c2) n.kids) (h3 : SlR eMsg G (.slice a3 n.msgs.length c3) n.msgs) (h4 : SlR ePair G (.slice a4 n.rows.length c4) n.rows) (h : n.Ok) :
    NodeC G [.int .i64 n.slot, .int .i64 n.level, .slice a1 n.pivots.length c1, .slice a2 n.kids.length c2, .string n.high.b, .bool n.top, .int .i64 n.right, .int .i64 n.seen, .slice a3 n.msgs.length c3, .slice a4 n.rows.length c4] n := ⟨_, _, _, _, _, _, _, _, rfl, h1, h2, h3, h4, h⟩
theorem nm9 {G G' : GH} {n : Nd} {a1 a2 a3 a4 : Option Addr} {c1 c2 c3 c4 : Nat} (hl : Le G G') (h1 : SlR eStr G (.slice a1 n.pivots.length c1) n.pivots) (h2 : SlR eInt G (.slice a2 n.kids.length c2) n.kids) (h3 : SlR eMsg G (.slice a3 n.msgs.length c3) n.msgs) (h4 : SlR ePair G (.slice a4 n.rows.length c4) n.rows) (h : n.Ok) :
    NodeC G' [.int .i64 n.slot, .int .i64 n.level, .slice a1 n.pivots.length c1, .slice a2 n.kids.length c2, .string n.high.b, .bool n.top, .int .i64 n.right, .int .i64 n.seen, .slice a3 n.msgs.length c3, .slice a4 n.rows.length c4] n := (nk9 h1 h2 h3 h4 h).mono hl
end Go.Fw
namespace Go.Proofs.Ytcngningbcaggaa
open Go Go.Fw
instance : SlK Try.prog 24 35 := ⟨sl24⟩
instance : TyK Try.prog 35 true 10 := ⟨ty35⟩
instance : FdK Try.prog 35 1 1 := ⟨fd35_1⟩
instance : TyK Try.prog 3 false 1 := ⟨ty3⟩
instance : FdK Try.prog 35 0 0 := ⟨fd35_0⟩
instance : SlK Try.prog 30 3 := ⟨sl30⟩
instance : FdK Try.prog 35 9 9 := ⟨fd35_9⟩
instance : TyK Try.prog 31 false 1 := ⟨ty31⟩
instance : SlK Try.prog 31 68 := ⟨sl31⟩
instance : TyK Try.prog 68 true 2 := ⟨ty68⟩
instance : FdK Try.prog 35 3 3 := ⟨fd35_3⟩
instance : TyK Try.prog 30 false 1 := ⟨ty30⟩
instance : BoK Try.prog 4 := ⟨bo4⟩
instance : StK Try.prog 9 := ⟨st9⟩
instance : FdK Try.prog 35 8 8 := ⟨fd35_8⟩
instance : TyK Try.prog 33 false 1 := ⟨ty33⟩
instance : SlK Try.prog 33 90 := ⟨sl33⟩
instance : TyK Try.prog 90 true 6 := ⟨ty90⟩
instance : TyK Try.prog 37 true 3 := ⟨ty37⟩
instance : FdK Try.prog 35 2 2 := ⟨fd35_2⟩
instance : TyK Try.prog 32 false 1 := ⟨ty32⟩
instance : SlK Try.prog 32 9 := ⟨sl32⟩
instance : TyK Try.prog 9 false 1 := ⟨ty9⟩
instance : SlK Try.prog 63 33 := ⟨sl63⟩
instance : FdK Try.prog 35 4 4 := ⟨fd35_4⟩
instance : TyK Try.prog 71 false 1 := ⟨ty71⟩
instance : TyK Try.prog 93 true 4 := ⟨ty93⟩
instance : FdK Try.prog 93 1 3 := ⟨fd93_1⟩
instance : FdK Try.prog 90 0 0 := ⟨fd90_0⟩
instance : FdK Try.prog 37 0 0 := ⟨fd37_0⟩
instance : FdK Try.prog 37 2 2 := ⟨fd37_2⟩
instance : TyK Try.prog 4 false 1 := ⟨ty4⟩
instance : FdK Try.prog 37 1 1 := ⟨fd37_1⟩
instance : FdK Try.prog 68 0 0 := ⟨fd68_0⟩
instance : FdK Try.prog 68 1 1 := ⟨fd68_1⟩
instance : FdK Try.prog 90 2 2 := ⟨fd90_2⟩
instance : FdK Try.prog 90 3 3 := ⟨fd90_3⟩
instance : FdK Try.prog 90 5 5 := ⟨fd90_5⟩
instance : TyK Try.prog 86 false 1 := ⟨ty86⟩
instance : FdK Try.prog 93 0 0 := ⟨fd93_0⟩
instance : FdK Try.prog 97 0 0 := ⟨fd97_0⟩
instance : FdK Try.prog 97 1 1 := ⟨fd97_1⟩
instance : FdK Try.prog 97 2 2 := ⟨fd97_2⟩
instance : TyK Try.prog 95 false 1 := ⟨ty95⟩
instance : SlK Try.prog 124 127 := ⟨sl124⟩
instance : TyK Try.prog 127 true 2 := ⟨ty127⟩
instance : TyK Try.prog 124 false 1 := ⟨ty124⟩
instance : FdK Try.prog 127 0 0 := ⟨fd127_0⟩
instance : FdK Try.prog 90 1 1 := ⟨fd90_1⟩
instance : FdK Try.prog 90 4 4 := ⟨fd90_4⟩
instance : TyK Try.prog 136 true 2 := ⟨ty136⟩
instance : FdK Try.prog 136 0 0 := ⟨fd136_0⟩
instance : FdK Try.prog 136 1 1 := ⟨fd136_1⟩
instance : FdK Try.prog 127 1 1 := ⟨fd127_1⟩
instance : MixK Try.prog := ⟨mix⟩
end Go.Proofs.Ytcngningbcaggaa
