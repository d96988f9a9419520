/- What lifting a root, and parting a kid, do to a store's nodes. Plain Lean; nothing of the program is named here. No condition. -/
import Derived.Test.YtmbafmifalppaaaQaNz
set_option linter.unusedVariables false
set_option linter.unusedSimpArgs false
set_option linter.unnecessarySimpa false

namespace Go.Fw
open Go Go.RowKit
def tk (l : List Nd) (x : Nd) : List Nd := l ++ [{ x with slot := l.length }]
def liftS (c : Cfg) (l : List Nd) : Int × List Nd :=
 if (liftN (getL l 0) l.length ((l.length : Int) + 1)).2.2.2 = false then (6, l)
 else if c.slots.toNat - l.length < 2 then (4, l)
 else (0, liftL l (liftN (getL l 0) l.length ((l.length : Int) + 1)).1 (liftN (getL l 0) l.length ((l.length : Int) + 1)).2.1 (liftN (getL l 0) l.length ((l.length : Int) + 1)).2.2.1)
theorem Tree.sound {c : Cfg} {l : List Nd} {ss : List Seat} (t : Tree c l ss) : soundN c l = true := by rw [soundN_t t.sts]; exact decide_eq_true t.q
end Go.Fw

namespace Go.Fw
open Go Go.RowKit
def RfR (te Tb : TypeId) (b : Nat) (c : Cfg) (G : GH) (l : List Nd) (M : MH) : Prop :=
 ∃ (v : Value) (Mo : MH), M = (b, .cells (List.toArray [.int .i64 c.fan, .int .i64 c.leaf, .int .i64 c.bud, .int .i64 c.slots, .int .i64 c.rest, v]) Tb (0, 0)) :: Mo ∧ OwnR eNode te G v l Mo
theorem RfR.mono {te Tb b : Nat} {c : Cfg} {G G' : GH} {l : List Nd} {M : MH} (hl : Le G G') (h : RfR te Tb b c G l M) : RfR te Tb b c G' l M := by
 obtain ⟨v, Mo, h1, h2⟩ := h
 exact ⟨v, Mo, h1, h2.mono hl⟩
theorem RfR.to {te Tb b : Nat} {c : Cfg} {G : GH} {l l' : List Nd} {M : MH} (h : RfR te Tb b c G l M) (e : l = l') : RfR te Tb b c G l' M := e ▸ h
end Go.Fw
