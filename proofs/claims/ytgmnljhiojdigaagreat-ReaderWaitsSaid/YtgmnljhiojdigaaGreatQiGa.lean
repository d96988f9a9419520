/- Runs of steps that ask for no choice, in one word. Nothing of the program is named here. No condition. -/
import Derived.Test.YtgmnljhiojdigaaGreatQiX2
set_option linter.unusedVariables false
set_option linter.unusedSimpArgs false
set_option linter.unnecessarySimpa false
set_option linter.unusedSectionVars false
namespace Go.Fw
open Go Go.RowKit
abbrev iV (n : Int) : Value := .int .i64 n
abbrev nt9 (n : Nat) : Value := .int .i64 (n : Int)
abbrev sV (s : ByteArray) : Value := .string s
abbrev lV (a : Option Addr) (n c : Nat) : Value := .slice a n c
abbrev pt9 (b : Nat) : Value := .pointer (some ⟨b, 0, none⟩)
abbrev ce9 (T : TypeId) (L : List Value) : Obj := .cells (List.toArray L) T (0, 0)
abbrev nz9 : List Value := [.int .i64 0, .int .i64 0, .slice none 0 0, .slice none 0 0, .string ⟨#[]⟩, .bool false, .int .i64 0, .int .i64 0, .slice none 0 0, .slice none 0 0]
theorem WD.tk {E : Env} {f : Fr} {G : GH} {M Mk : MH} {ops : Array Oper} {K : Kt} {fuel : Nat} {listed : Array Bool} (i : Nat) {op : Op} {ty : TypeId} {pos : String} {aft : Array Edge} {d : Nat} {v : Value} (ho : ops[i]? = some ⟨some d, op, ty, pos, aft, none⟩) (hok : Ok E f G Mk ⟨some d, op, ty, pos, aft, none⟩ v)
    (h : WD E ops fuel (listed.setIfInBounds i true) (upd f d v) G M Mk K) (hs : Region.noSelect ops = true := by kernel_rfl) (hf : Region.free .any ops listed i = true := by kernel_rfl) (hr : (Region.ready .any ops listed).contains i = true := by kernel_rfl) (hd : Nat.blt d E.n = true := by rfl) : WD E ops (fuel + 1) listed f G M Mk K :=
  WD.take i ho rfl rfl hs hf hr hok h hd
theorem WD.n9 {E : Env} {f : Fr} {G G' : GH} {M' Mk : MH} {ops : Array Oper} {K : Kt} {fuel : Nat} {listed : Array Bool} (a : Le G G') (b : Mk.Sublist M') (h : WD E ops fuel listed f G' M' Mk K) : Le G G' ∧ Mk.Sublist M' ∧ ∃ Mk' : MH, Mk'.Sublist M' ∧ Mk.Sublist Mk' ∧ WD E ops fuel listed f G' M' Mk' K := ⟨a, b, Mk, b, List.Sublist.refl _, h⟩
theorem WD.a1 {E : Env} {f : Fr} {G : GH} {M Mk : MH} {ops : Array Oper} {K : Kt} {fuel : Nat} {listed : Array Bool} (i : Nat) {dst : Option Nat} {op : Op} {ty : TypeId} {pos : String} {aft : Array Edge} (ho : ops[i]? = some ⟨dst, op, ty, pos, aft, none⟩)
    (h : W E [(⟨dst, op, ty, pos, aft, none⟩ : Oper)].toArray false [(⟨dst, op, ty, pos, aft, none⟩ : Oper)] f G M (fun f' G' M' => Le G G' ∧ Mk.Sublist M' ∧ ∃ Mk', Mk'.Sublist M' ∧ Mk.Sublist Mk' ∧ WD E ops fuel (listed.setIfInBounds i true) f' G' M' Mk' K))
    (hr : Region.ready .any ops listed = [i] := by kernel_rfl) : WD E ops (fuel + 1) listed f G M Mk K := WD.any [i] hr rfl ⟨⟨_, ho, rfl, h⟩, trivial⟩
theorem WD.ap {E : Env} {f : Fr} {G : GH} {M : MH} {K : Kt} {ops : Array Oper} {i : Nat} {dst : Option Nat} {op : Op} {ty : TypeId} {pos : String} {aft : Array Edge} (h : W E [(⟨dst, op, ty, pos, aft, none⟩ : Oper)].toArray false [(⟨dst, op, ty, pos, aft, none⟩ : Oper)] f G M K) (ho : ops[i]? = some ⟨dst, op, ty, pos, aft, none⟩ := by rfl) :
    ∃ o, ops[i]? = some o ∧ o.guard = none ∧ W E [o].toArray false [o] f G M K := ⟨_, ho, rfl, h⟩
section
variable {E : Env} {Q : Exit → Kt} {f : Fr} {G : GH} {M : MH} {x y : Code} {c : Operand} {p : Prop} {inst : Decidable p} {ops : List Oper} {q : Bool} {l : List Oper} {K : Kt}
theorem WC.cd (ht : decide p = true → p → WC E x Q f G M) (hf : decide p = false → ¬ p → WC E y Q f G M) (hc : ev f c = .bool (decide p) := by rfl) : WC E (.cond c x y) Q f G M := WC.cond hc (fun h => ht h (of_decide_eq_true h)) (fun h => hf h (of_decide_eq_false h))
theorem WC.cn (ht : (!decide p) = true → ¬ p → WC E x Q f G M) (hf : (!decide p) = false → p → WC E y Q f G M) (hc : ev f c = .bool (!decide p) := by rfl) : WC E (.cond c x y) Q f G M := WC.cond hc (fun h => ht h (nd_t h)) (fun h => hf h (nd_f h))
theorem W.sd (dj : Nat) (ht : decide p = true → p → W E ops.toArray q l f G M K) (hf : decide p = false → ¬ p → W E ops.toArray q l f G M K) (hc : f dj = .bool (decide p) := by rfl) : W E ops.toArray q l f G M K := W.sp dj hc (fun h => ht h (of_decide_eq_true h)) (fun h => hf h (of_decide_eq_false h))
theorem W.sm (dj : Nat) (ht : (!decide p) = true → ¬ p → W E ops.toArray q l f G M K) (hf : (!decide p) = false → p → W E ops.toArray q l f G M K) (hc : f dj = .bool (!decide p) := by rfl) : W E ops.toArray q l f G M K := W.sp dj hc (fun h => ht h (nd_t h)) (fun h => hf h (nd_f h))
end
theorem Fc.go {P : Program} {g : FuncId} {fn : Func} {c : Code} {n : Nat} {args : List Value} {G : GH} {M : MH} {Q : Value → GH → MH → Prop} (rs : List ResultVar) (hf : P.funcs[g]? = some fn) (hn : fn.ntmps = n) (hb : fn.body = some c)
    (h : ∀ w0, WC ⟨P, n, w0, fun b => b ∈ M.map (·.1), G⟩ c (fun e f G' M' => (e = .normal ∨ e = .ret) ∧ ∃ vs, ResL P f M' rs vs ∧ ∃ M'', M''.Sublist M' ∧ Q (pack vs) G' M'') (setL (fun _ => undef) (argL 0 args)) G M)
    (hr : fn.results.toList = rs := by rfl) (hl : Nat.ble args.length n = true := by rfl) (hN : (fn.name == "runtime.NumGoroutine") = false := by decide) : Fc P g args G M Q :=
  Fc.intro (callable_of hf (by rw [hb]; rfl) hN) hf hb hn hr hl h
class EqE {α : Type} (e : Enc α) (c : outParam (α → List Value)) : Prop where
  h : ∀ G cs a, e.R G cs a → cs = c a
class EqP {α : Type} (e : Enc α) (c : outParam (α → List Value)) (p : outParam (α → Prop)) : Prop where
  h : ∀ G cs a, e.R G cs a → cs = c a ∧ p a
instance : EqE eStr (fun s => [.string s.b]) := ⟨fun _ _ _ h => h⟩
instance : EqE ePair (fun p => [.string p.key.b, .string p.val.b]) := ⟨fun _ _ _ h => h⟩
instance : EqP eInt (fun n => [.int .i64 n]) i64 := ⟨fun _ _ _ h => h⟩
instance : EqP eMsg (fun m => [.int .i64 m.stamp, .int .i64 m.kind, .string m.key.b, .string m.hi.b, .bool m.opn, .string m.val.b]) Msg.Ok := ⟨fun _ _ _ h => h⟩
section
variable {α : Type} {e : Enc α} {G : GH} {v : Value} {l : List α} {c : α → List Value} {p : α → Prop} {T : TypeId} {Ms : MH} {P : Prop} {i : Nat}
theorem SlR.a1 (h : SlR e G v l) [hE : EqE e c] (hi : i < l.length) (k : ElemAt G v e.k i (c l[i]) → P) : P := by obtain ⟨cs, h1, h2⟩ := h.at hi; rw [hE.h _ _ _ h2] at h1; exact k h1
theorem SlR.a2 (h : SlR e G v l) [hE : EqP e c p] (hi : i < l.length) (k : ElemAt G v e.k i (c l[i]) → p l[i] → P) : P := by obtain ⟨cs, h1, h2⟩ := h.at hi; obtain ⟨h3, h4⟩ := hE.h _ _ _ h2; rw [h3] at h1; exact k h1 h4
theorem OwnR.a1 (h : OwnR e T G v l Ms) [hE : EqE e c] (hi : i < l.length) (k : OwnAt Ms v e.k i (c l[i]) → P) : P := by obtain ⟨cs, h1, h2⟩ := h.at hi; rw [hE.h _ _ _ h2] at h1; exact k h1
theorem OwnR.a2 (h : OwnR e T G v l Ms) [hE : EqP e c p] (hi : i < l.length) (k : OwnAt Ms v e.k i (c l[i]) → p l[i] → P) : P := by obtain ⟨cs, h1, h2⟩ := h.at hi; obtain ⟨h3, h4⟩ := hE.h _ _ _ h2; rw [h3] at h1; exact k h1 h4
abbrev NdK (n : Nd) (a1 : Option Addr) (c1 : Nat) (a2 : Option Addr) (c2 : Nat) (a3 : Option Addr) (c3 : Nat) (a4 : Option Addr) (c4 : Nat) : List Value := [.int .i64 n.slot, .int .i64 n.level, .slice a1 n.pivots.length c1, .slice a2 n.kids.length c2, .string n.high.b, .bool n.top, .int .i64 n.right, .int .i64 n.seen, .slice a3 n.msgs.length c3, .slice a4 n.rows.length c4]
theorem SlR.aN {l : List Nd} (h : SlR eNode G v l) (hi : i < l.length) (k : ∀ a1 c1 a2 c2 a3 c3 a4 c4, ElemAt G v eNode.k i [.int .i64 l[i].slot, .int .i64 l[i].level, .slice a1 l[i].pivots.length c1, .slice a2 l[i].kids.length c2, .string l[i].high.b, .bool l[i].top, .int .i64 l[i].right, .int .i64 l[i].seen, .slice a3 l[i].msgs.length c3, .slice a4 l[i].rows.length c4] → SlR eStr G (.slice a1 l[i].pivots.length c1) l[i].pivots → SlR eInt G (.slice a2 l[i].kids.length c2) l[i].kids → SlR eMsg G (.slice a3 l[i].msgs.length c3) l[i].msgs → SlR ePair G (.slice a4 l[i].rows.length c4) l[i].rows → l[i].Ok → P) : P := by
  obtain ⟨cs, h1, a1, c1, a2, c2, a3, c3, a4, c4, h2, q1, q2, q3, q4, q5⟩ := h.at hi; rw [h2] at h1; exact k _ _ _ _ _ _ _ _ h1 q1 q2 q3 q4 q5
theorem OwnR.aN {l : List Nd} (h : OwnR eNode T G v l Ms) (hi : i < l.length) (k : ∀ a1 c1 a2 c2 a3 c3 a4 c4, OwnAt Ms v eNode.k i [.int .i64 l[i].slot, .int .i64 l[i].level, .slice a1 l[i].pivots.length c1, .slice a2 l[i].kids.length c2, .string l[i].high.b, .bool l[i].top, .int .i64 l[i].right, .int .i64 l[i].seen, .slice a3 l[i].msgs.length c3, .slice a4 l[i].rows.length c4] → SlR eStr G (.slice a1 l[i].pivots.length c1) l[i].pivots → SlR eInt G (.slice a2 l[i].kids.length c2) l[i].kids → SlR eMsg G (.slice a3 l[i].msgs.length c3) l[i].msgs → SlR ePair G (.slice a4 l[i].rows.length c4) l[i].rows → l[i].Ok → P) : P := by
  obtain ⟨cs, h1, a1, c1, a2, c2, a3, c3, a4, c4, h2, q1, q2, q3, q4, q5⟩ := h.at hi; rw [h2] at h1; exact k _ _ _ _ _ _ _ _ h1 q1 q2 q3 q4 q5
end
section
variable {E : Env} {f : Fr} {G : GH} {M : MH} {ops rest : List Oper} {K : Kt} {d : Nat} {ty : TypeId} {pos : String} {aft : Array Edge} {g : FuncId} {args : List Operand} {at' : Array TypeId} {vs : List Value}
theorem W.cS {α : Type} {e : Enc α} {l : List α} {F : Value → Value} (hc : Fc E.P g vs G [] (fun v G' M' => M' = [] ∧ ∃ u, v = F u ∧ SlR e G' u l)) (ha : args.map (ev f) = vs)
    (k : ∀ a c G', Le G G' → SlR e G' (.slice a l.length c) l → W E ops.toArray false rest (upd f d (F (.slice a l.length c))) G' M K) (hd : Nat.blt d E.n = true := by rfl) :
    W E ops.toArray false (⟨some d, .call { callee := .value (.func g), args := args.toArray, argTypes := at' }, ty, pos, aft, none⟩ :: rest) f G M K :=
  W.call (Mp := []) hc ha (List.Perm.refl _) (fun v G' M' hl ⟨h1, u, h2, h3⟩ => by
    obtain ⟨a, c, h4⟩ := h3.form
    subst h1 h4 h2
    exact k a c G' hl h3) hd
theorem W.cN {n : Nd} {F : List Value → Value} (hc : Fc E.P g vs G [] (fun v G' M' => M' = [] ∧ ∃ u, v = F u ∧ NodeC G' u n)) (ha : args.map (ev f) = vs)
    (k : ∀ a1 c1 a2 c2 a3 c3 a4 c4 G', Le G G' → SlR eStr G' (.slice a1 n.pivots.length c1) n.pivots → SlR eInt G' (.slice a2 n.kids.length c2) n.kids → SlR eMsg G' (.slice a3 n.msgs.length c3) n.msgs → SlR ePair G' (.slice a4 n.rows.length c4) n.rows → n.Ok →
      W E ops.toArray false rest (upd f d (F (NdK n a1 c1 a2 c2 a3 c3 a4 c4))) G' M K) (hd : Nat.blt d E.n = true := by rfl) :
    W E ops.toArray false (⟨some d, .call { callee := .value (.func g), args := args.toArray, argTypes := at' }, ty, pos, aft, none⟩ :: rest) f G M K :=
  W.call (Mp := []) hc ha (List.Perm.refl _) (fun v G' M' hl ⟨h1, u, h2, a1, c1, a2, c2, a3, c3, a4, c4, h3, q1, q2, q3, q4, q5⟩ => by
    subst h1 h3 h2
    exact k _ _ _ _ _ _ _ _ G' hl q1 q2 q3 q4 q5) hd
end
structure Cn (n : Nat) (B : Prop) : Prop where
  h : B
structure Hd9 (A : Prop) : Prop where
  h : A
theorem Cn.st {n : Nat} {B B' : Prop} (f : B' → B) (k : Cn n B') : Cn (n + 1) B := ⟨f k.h⟩
class TyK (P : Program) (t : TypeId) (b : outParam Bool) (j : outParam Nat) : Prop where
  h : tyK P t = some (b, j)
class SlK (P : Program) (t : TypeId) (t' : outParam TypeId) : Prop where
  h : sliceK P t = some t'
class FdK (P : Program) (t : TypeId) (j : Nat) (off : outParam Nat) : Prop where
  h : fieldK P t j = some off
class StK (P : Program) (t : TypeId) : Prop where
  h : P.underlying t = some .string
class BoK (P : Program) (t : TypeId) : Prop where
  h : P.underlying t = some .bool
class InM (M : MH) (b : Nat) (i : outParam Nat) (L : outParam (List Value)) (T : outParam TypeId) : Prop where
  h : nthM M i = some (b, .cells L.toArray T (0, 0))
instance InM.hd {b : Nat} {L : List Value} {T : TypeId} {M : MH} : InM ((b, .cells (List.toArray L) T (0, 0)) :: M) b 0 L T := ⟨rfl⟩
instance (priority := 900) InM.tl {c : Nat × Obj} {M : MH} {b i : Nat} {L : List Value} {T : TypeId} [h : InM M b i L T] : InM (c :: M) b (i + 1) L T := ⟨h.h⟩
instance (priority := 800) InM.nl {M : MH} {b i : Nat} {L : List Value} {T : TypeId} [h : InM M b i L T] : InM ([] ++ M) b i L T := ⟨h.h⟩
instance (priority := 700) InM.ap {c : Nat × Obj} {M N : MH} {b i : Nat} {L : List Value} {T : TypeId} [h : InM (c :: (M ++ N)) b i L T] : InM ((c :: M) ++ N) b i L T := ⟨h.h⟩
class SetAt (L : List Value) (o : Nat) (v : Value) (L' : outParam (List Value)) : Prop where
  h : setAt L o [v] = L' ∧ o + 1 ≤ L.length
instance SetAt.z {x : Value} {L : List Value} {v : Value} : SetAt (x :: L) 0 v (v :: L) := ⟨by cases L <;> simp [setAt], by simp⟩
instance (priority := 900) SetAt.s {x : Value} {L : List Value} {o : Nat} {v : Value} {L' : List Value} [h : SetAt L o v L'] : SetAt (x :: L) (o + 1) v (x :: L') := ⟨by simp only [setAt, h.h.1], by have := h.h.2; simp only [List.length_cons]; omega⟩
instance (priority := 800) SetAt.z0 {x : Value} {L : List Value} {v : Value} : SetAt (x :: L) (0 + 0) v (v :: L) := ⟨by cases L <;> simp [setAt], by simp⟩
instance (priority := 700) SetAt.p {L : List Value} {a c : Nat} {v : Value} {L' : List Value} [h : SetAt L (a + c) v L'] : SetAt L (a + c + 0) v L' := ⟨h.h⟩
class StM (M : MH) (b o : Nat) (v : Value) (T : outParam TypeId) (M' : outParam MH) : Prop where
  h : ∃ i L L', nthM M i = some (b, .cells (List.toArray L) T (0, 0)) ∧ setAt L o [v] = L' ∧ o + 1 ≤ L.length ∧ setM M i (.cells (List.toArray L') T (0, 0)) = M'
instance StM.hd {b o : Nat} {L L' : List Value} {v : Value} {T : TypeId} {M : MH} [h : SetAt L o v L'] : StM ((b, .cells (List.toArray L) T (0, 0)) :: M) b o v T ((b, .cells (List.toArray L') T (0, 0)) :: M) :=
  ⟨0, L, L', rfl, h.h.1, h.h.2, rfl⟩
instance (priority := 900) StM.tl {c : Nat × Obj} {M M' : MH} {b o : Nat} {v : Value} {T : TypeId} [h : StM M b o v T M'] : StM (c :: M) b o v T (c :: M') := by
  obtain ⟨i, L, L', h1, h2, h3, h4⟩ := h.h
  exact ⟨i + 1, L, L', h1, h2, h3, by simp only [setM, h4]⟩
instance (priority := 800) StM.nl {M M' : MH} {b o : Nat} {v : Value} {T : TypeId} [h : StM M b o v T M'] : StM ([] ++ M) b o v T M' := ⟨h.h⟩
instance (priority := 700) StM.ap {c : Nat × Obj} {M N M' : MH} {b o : Nat} {v : Value} {T : TypeId} [h : StM (c :: (M ++ N)) b o v T M'] : StM ((c :: M) ++ N) b o v T M' := ⟨h.h⟩
class PtM (M : MH) (b : Nat) (L' : List Value) (L : outParam (List Value)) (T : outParam TypeId) (M' : outParam MH) : Prop where
  h : ∃ i, nthM M i = some (b, .cells (List.toArray L) T (0, 0)) ∧ setM M i (.cells (List.toArray L') T (0, 0)) = M'
instance PtM.hd {b : Nat} {L L' : List Value} {T : TypeId} {M : MH} : PtM ((b, .cells (List.toArray L) T (0, 0)) :: M) b L' L T ((b, .cells (List.toArray L') T (0, 0)) :: M) := ⟨0, rfl, rfl⟩
instance (priority := 900) PtM.tl {c : Nat × Obj} {M M' : MH} {b : Nat} {L L' : List Value} {T : TypeId} [h : PtM M b L' L T M'] : PtM (c :: M) b L' L T (c :: M') := by
  obtain ⟨i, h1, h2⟩ := h.h
  exact ⟨i + 1, h1, by simp only [setM, h2]⟩
instance (priority := 800) PtM.nl {M M' : MH} {b : Nat} {L L' : List Value} {T : TypeId} [h : PtM M b L' L T M'] : PtM ([] ++ M) b L' L T M' := ⟨h.h⟩
instance (priority := 700) PtM.ap {c : Nat × Obj} {M N M' : MH} {b : Nat} {L L' : List Value} {T : TypeId} [h : PtM (c :: (M ++ N)) b L' L T M'] : PtM ((c :: M) ++ N) b L' L T M' := ⟨h.h⟩
instance (priority := 600) InM.z {c : Nat} {u w : Obj} {M : MH} {b i : Nat} {L : List Value} {T : TypeId} [h : InM ((c, w) :: M) b i L T] : InM (setM ((c, u) :: M) 0 w) b i L T := ⟨h.h⟩
instance (priority := 500) InM.sc {p : Nat × Obj} {w : Obj} {M : MH} {k : Nat} {b i : Nat} {L : List Value} {T : TypeId} [h : InM (p :: setM M k w) b i L T] : InM (setM (p :: M) (k + 1) w) b i L T := ⟨h.h⟩
instance (priority := 600) StM.z {c : Nat} {u w : Obj} {M : MH} {b o : Nat} {v : Value} {T : TypeId} {M' : MH} [h : StM ((c, w) :: M) b o v T M'] : StM (setM ((c, u) :: M) 0 w) b o v T M' := ⟨h.h⟩
instance (priority := 500) StM.sc {p : Nat × Obj} {w : Obj} {M : MH} {k : Nat} {b o : Nat} {v : Value} {T : TypeId} {M' : MH} [h : StM (p :: setM M k w) b o v T M'] : StM (setM (p :: M) (k + 1) w) b o v T M' := ⟨h.h⟩
instance (priority := 600) PtM.z {c : Nat} {u w : Obj} {M : MH} {b : Nat} {L L' : List Value} {T : TypeId} {M' : MH} [h : PtM ((c, w) :: M) b L' L T M'] : PtM (setM ((c, u) :: M) 0 w) b L' L T M' := ⟨h.h⟩
instance (priority := 500) PtM.sc {p : Nat × Obj} {w : Obj} {M : MH} {k : Nat} {b : Nat} {L L' : List Value} {T : TypeId} {M' : MH} [h : PtM (p :: setM M k w) b L' L T M'] : PtM (setM (p :: M) (k + 1) w) b L' L T M' := ⟨h.h⟩
section
variable {E : Env} {f : Fr} {G : GH} {M : MH} {ops rest : List Oper} {q : Bool} {K : Kt} {d : Nat} {op : Op} {ty : TypeId} {pos : String} {aft : Array Edge} {v : Value} {x y : Operand} {t t' : TypeId} {b o : Nat}
theorem ok_l1 {i : Nat} {L : List Value} {T : TypeId} [hT : TyK E.P t false 1] (hx : ev f x = .pointer (some ⟨b, o, none⟩)) [hM : InM M b i L T] (hv : L[o]? = some v) : Ok E f G M ⟨some d, .load t x, ty, pos, aft, none⟩ v :=
  ok_loadB (vs := [v]) hT.h hx hM.h (by
    have hl := (List.getElem?_eq_some_iff.1 hv)
    obtain ⟨h1, h2⟩ := hl
    rw [List.drop_eq_getElem_cons h1, h2]; simp) rfl (fun _ => rfl)
theorem ok_lA {i j : Nat} {L : List Value} {T : TypeId} [hT : TyK E.P t true j] (hx : ev f x = .pointer (some ⟨b, o, none⟩)) (ho : o = 0) [hM : InM M b i L T] (hj : L.length = j) : Ok E f G M ⟨some d, .load t x, ty, pos, aft, none⟩ (.agg L.toArray) :=
  ok_loadB (vs := L) hT.h hx hM.h (by subst ho hj; simp) hj (fun h => by cases h)
class CutL (L : List Value) (o j : Nat) (vs : outParam (List Value)) : Prop where
  h : (L.drop o).take j = vs ∧ vs.length = j
instance CutL.n {L : List Value} : CutL L 0 0 [] := ⟨by simp, rfl⟩
instance CutL.c {x : Value} {L : List Value} {j : Nat} {vs : List Value} [h : CutL L 0 j vs] : CutL (x :: L) 0 (j + 1) (x :: vs) := ⟨by have := h.h.1; simp only [List.drop_zero] at this; simp [this], by simp [h.h.2]⟩
instance CutL.s {x : Value} {L : List Value} {o j : Nat} {vs : List Value} [h : CutL L o j vs] : CutL (x :: L) (o + 1) j vs := ⟨by simpa using h.h.1, h.h.2⟩
instance CutL.z {L : List Value} {j : Nat} {vs : List Value} [h : CutL L 0 j vs] : CutL L (0 + 0) j vs := ⟨h.h⟩
theorem ok_lP {i j : Nat} {L vs : List Value} {T : TypeId} [hT : TyK E.P t true j] (hx : ev f x = .pointer (some ⟨b, o, none⟩)) [hM : InM M b i L T] [hC : CutL L o j vs] : Ok E f G M ⟨some d, .load t x, ty, pos, aft, none⟩ (.agg vs.toArray) :=
  ok_loadB (vs := vs) hT.h hx hM.h hC.h.1 hC.h.2 (fun h => by cases h)
theorem ok_e1 {u : Value} {kk i : Nat} {cs : List Value} [hT : TyK E.P t false 1] (hx : ev f x = .pointer (some (elemA u kk i o))) (he : ElemAt G u kk i cs) (hv : cs[o]? = some v) : Ok E f G M ⟨some d, .load t x, ty, pos, aft, none⟩ v :=
  ok_loadE (vs := [v]) hT.h he hx (by
    have hl := (List.getElem?_eq_some_iff.1 hv)
    obtain ⟨h1, h2⟩ := hl
    rw [List.drop_eq_getElem_cons h1, h2]; simp) rfl (fun _ => rfl)
theorem ok_eA {u : Value} {kk i j : Nat} {cs : List Value} [hT : TyK E.P t true j] (hx : ev f x = .pointer (some (elemA u kk i o))) (ho : o = 0) (he : ElemAt G u kk i cs) (hj : cs.length = j) : Ok E f G M ⟨some d, .load t x, ty, pos, aft, none⟩ (.agg cs.toArray) :=
  ok_loadE (vs := cs) hT.h he hx (by subst ho hj; simp) hj (fun h => by cases h)
theorem ok_eP {u : Value} {kk i j : Nat} {cs vs : List Value} (hT : TyK E.P t true j) (hx : ev f x = .pointer (some (elemA u kk i o))) (he : ElemAt G u kk i cs) (hC : CutL cs o j vs) : Ok E f G M ⟨some d, .load t x, ty, pos, aft, none⟩ (.agg vs.toArray) :=
  ok_loadE (vs := vs) hT.h he hx hC.h.1 hC.h.2 (fun h => by cases h)
theorem ok_fb {off : Nat} {j : Nat} [hF : FdK E.P t j off] (hx : ev f x = .pointer (some ⟨b, o, none⟩)) : Ok E f G M ⟨some d, .fieldAddr t x j, ty, pos, aft, none⟩ (.pointer (some ⟨b, o + off, none⟩)) := ok_fieldB hF.h hx
theorem ok_fe {u : Value} {kk i off : Nat} {j : Nat} [hF : FdK E.P t j off] (hx : ev f x = .pointer (some (elemA u kk i o))) (hv : ∃ a n c, u = .slice (some a) n c) : Ok E f G M ⟨some d, .fieldAddr t x j, ty, pos, aft, none⟩ (.pointer (some (elemA u kk i (o + off)))) := ok_fieldE hF.h hx hv
theorem W.s1 {T : TypeId} {M' : MH} [hT : TyK E.P t false 1] (hx : ev f x = .pointer (some ⟨b, o, none⟩)) (hy : ev f y = v) (hc : v.cells.toList = [v]) (h1 : Value.oneCell' v = true) [hM : StM M b o v T M']
    (k : W E ops.toArray false rest f G M' K) : W E ops.toArray false (⟨none, .store t x y, ty, pos, aft, none⟩ :: rest) f G M K := by
  obtain ⟨i, L, L', a1, a2, a3, a4⟩ := hM.h
  exact W.store hT.h hx a1 hy hc rfl (by simp [h1]) (Nat.ble_eq ▸ a3) a2 (a4 ▸ k)
theorem W.sA {T : TypeId} {L L' : List Value} {M' : MH} {j : Nat} [hT : TyK E.P t true j] (hx : ev f x = .pointer (some ⟨b, o, none⟩)) (ho : o = 0) (hy : ev f y = .agg L'.toArray) (h1 : L'.all Value.oneCell' = true) [hM : PtM M b L' L T M'] (hl : L.length = j) (hl' : L'.length = j)
    (k : W E ops.toArray false rest f G M' K) : W E ops.toArray false (⟨none, .store t x y, ty, pos, aft, none⟩ :: rest) f G M K := by
  obtain ⟨i, a1, a2⟩ := hM.h
  subst ho
  exact W.store (vs := L') hT.h hx a1 hy (by simp [Value.cells]) hl' h1 (Nat.ble_eq ▸ (by omega : 0 + j ≤ L.length)) (by rw [setAt_eq _ _ _ (by omega)]; simp [hl, hl']) (a2 ▸ k)
variable {α : Type} {e : Enc α} {l : List α} {m : Int} {k : IntKind}
theorem ok_ln [hT : SlK E.P t t'] (hx : ev f x = v) (hs : SlR e G v l) :
    Ok E f G M ⟨some d, .call { callee := .builtin .len, args := #[x], argTypes := #[t] }, ty, pos, aft, none⟩ (.int .i64 l.length) := ok_len hT.h hs hx
theorem ok_lnO [hT : SlK E.P t t'] {T : TypeId} {Ms : MH} (hx : ev f x = v) (ho : OwnR e T G v l Ms) :
    Ok E f G M ⟨some d, .call { callee := .builtin .len, args := #[x], argTypes := #[t] }, ty, pos, aft, none⟩ (.int .i64 l.length) := ok_lenO hT.h ho hx
theorem ok_lnS [hT : StK E.P t] {a : ByteArray} (hx : ev f x = .string a) :
    Ok E f G M ⟨some d, .call { callee := .builtin .len, args := #[x], argTypes := #[t] }, ty, pos, aft, none⟩ (.int .i64 a.size) := ok_lenS hT.h hx
theorem ok_ix {bb : Bool} {j i n c : Nat} {a : Option Addr} [hT : SlK E.P t t'] [hK : TyK E.P t' bb j] (hx : ev f x = .slice a n c) (hs : SlR e G (.slice a n c) l) (hj : j = e.k) (hy : ev f y = .int k m) (hi : m = ((i : Nat) : Int)) (hl : i < l.length) :
    Ok E f G M ⟨some d, .indexAddr t x y, ty, pos, aft, none⟩ (.pointer (some (elemA (.slice a n c) e.k i 0))) := ok_indexAddr hT.h (hj ▸ hK.h) hs hx hy ⟨hi, hl⟩
end
theorem isS9 {α : Type} {x : α} : (some x).isSome = true := rfl
theorem isN9 {α : Type} {x : α} : (some x).isNone = false := rfl
theorem isO9 {α : Type} : (none : Option α).isNone = true := rfl
theorem nb9 {a : Bool} (h : a = true) : (!a) = false := by rw [h]; rfl
theorem nc9 {a : Bool} (h : a = false) : (!a) = true := by rw [h]; rfl
theorem nF9 : (!false) = true := rfl
theorem nT9 : (!true) = false := rfl
theorem pk9 {a b : Bool} (h : a = b := by first | with_reducible assumption | with_reducible rfl | with_reducible exact isS9 | with_reducible exact isN9 | with_reducible exact nF9 | with_reducible exact nT9 | with_reducible exact isO9 | with_reducible exact isM9 | exact nb9 (by with_reducible assumption) | exact nc9 (by with_reducible assumption) | decide) : a = b := h
theorem rl_n {P : Program} {f : Fr} {M : MH} : ResL P f M [] [] := trivial
theorem rl_t {P : Program} {f : Fr} {M : MH} {rs : List ResultVar} {vs : List Value} {v : Value} {t : Nat} (hx : f t = v) (k : ResL P f M rs vs) : ResL P f M (.tmp t :: rs) (v :: vs) := ⟨hx, k⟩
theorem rl_c {P : Program} {f : Fr} {M : MH} {rs : List ResultVar} {vs L : List Value} {a b i k : Nat} {t T : TypeId} {bb : Bool} (hx : f a = .pointer (some ⟨b, 0, none⟩)) (hM : InM M b i L T) (hT : TyK P t bb k) (h1 : bb = false → k = 1) (hl : L.length = k) (h : ResL P f M rs vs) : ResL P f M (.cell a t :: rs) (mkV bb L :: vs) :=
  ⟨⟨_, _, _, _, _, hx, nthM_mem hM.h, hT.h, h1, hl, rfl⟩, h⟩
theorem rsl {P : Program} {f : Fr} {M : MH} {rs : List ResultVar} {vs : List Value} (h : ResL P f M rs vs := by
  repeat (first
    | exact rl_n
    | ((with_reducible apply rl_t); exact rfl)
    | ((with_reducible apply rl_c); exact rfl; infer_instance; infer_instance; simp; exact rfl))) : ResL P f M rs vs := h
theorem hs9 {f : Fr} {l : List (Nat × Value)} (h : Has f l := by
  repeat (first
    | exact trivial
    | refine ⟨by first | rfl | exact iv (by dsimp only; omega) | exact iv (by omega), ?_⟩)) : Has f l := h
theorem lec {A B : GH} (h : Le A B := by repeat (first | exact Le.rfl | assumption | refine Le.trans ?_ (by assumption))) : Le A B := h
theorem SlR.mo {α : Type} {e : Enc α} {G G' : GH} {v : Value} {l : List α} (h : SlR e G v l) (hl : Le G G') : SlR e G' v l := h.mono hl
theorem SlR.go {α : Type} {e : Enc α} {G : GH} {v : Value} {l : List α} (h : SlR e G v l := by first | assumption | exact SlR.mo (by assumption) lec) : SlR e G v l := h
theorem Cn.isW {E : Env} {f : Fr} {G : GH} {M : MH} {ops : Array Oper} {q : Bool} {l : List Oper} {K : Kt} {n : Nat} (h : Cn n (W E ops q l f G M K)) : Cn n (W E ops q l f G M K) := h
section
variable {E : Env} {f : Fr} {G : GH} {M : MH} {ops rest : List Oper} {q : Bool} {K : Kt} {d n : Nat} {op : Op} {ty : TypeId} {pos : String} {aft : Array Edge} {v : Value} {x y z : Operand} {t t' : TypeId} {Q : Exit → Kt} {c c' : Code} {b : Bool} {j dj : Nat}
theorem is_fa {j : Nat} (h : Ok E f G M ⟨some d, .fieldAddr t x j, ty, pos, aft, none⟩ v) : Ok E f G M ⟨some d, .fieldAddr t x j, ty, pos, aft, none⟩ v := h
theorem is_ld (h : Ok E f G M ⟨some d, .load t x, ty, pos, aft, none⟩ v) : Ok E f G M ⟨some d, .load t x, ty, pos, aft, none⟩ v := h
theorem is_pk (h : Ok E f G M ⟨some d, .pick x y z, ty, pos, aft, none⟩ v) : Ok E f G M ⟨some d, .pick x y z, ty, pos, aft, none⟩ v := h
theorem is_bi {o : BinOp} (h : Ok E f G M ⟨some d, .binOp o t x y t', ty, pos, aft, none⟩ v) : Ok E f G M ⟨some d, .binOp o t x y t', ty, pos, aft, none⟩ v := h
theorem is_ca {c : Call} (h : Ok E f G M ⟨some d, .call c, ty, pos, aft, none⟩ v) : Ok E f G M ⟨some d, .call c, ty, pos, aft, none⟩ v := h
theorem Cn.ok (h : Ok E f G M ⟨some d, op, ty, pos, aft, none⟩ v) (hd : Nat.blt d E.n = true) (k : Cn n (W E ops.toArray q rest (upd f d v) G M K)) : Cn (n + 1) (W E ops.toArray q (⟨some d, op, ty, pos, aft, none⟩ :: rest) f G M K) := ⟨W.ok h k.h hd⟩
theorem Cn.noF (hj : (ops.toArray[j]?).bind (·.dst) = some dj) (hb : f dj = .bool b) (hn : b = true) (hd : Nat.blt d E.n = true) (k : Cn n (W E ops.toArray q rest (upd f d undef) G M K)) : Cn (n + 1) (W E ops.toArray q (⟨some d, op, ty, pos, aft, some (j, false)⟩ :: rest) f G M K) := ⟨W.no hj hb (by rw [hn]; rfl) k.h hd⟩
theorem Cn.noT (hj : (ops.toArray[j]?).bind (·.dst) = some dj) (hb : f dj = .bool b) (hn : b = false) (hd : Nat.blt d E.n = true) (k : Cn n (W E ops.toArray q rest (upd f d undef) G M K)) : Cn (n + 1) (W E ops.toArray q (⟨some d, op, ty, pos, aft, some (j, true)⟩ :: rest) f G M K) := ⟨W.no hj hb (by rw [hn]; rfl) k.h hd⟩
theorem Cn.yes {o : Option Nat} {w : Bool} (hj : (ops.toArray[j]?).bind (·.dst) = some dj) (hb : f dj = .bool b) (hn : b = w) (hd : Nat.blt dj E.n = true) (k : Cn n (W E ops.toArray q (⟨o, op, ty, pos, aft, none⟩ :: rest) f G M K)) : Cn (n + 1) (W E ops.toArray q (⟨o, op, ty, pos, aft, some (j, w)⟩ :: rest) f G M K) := ⟨W.yes hj hb hn k.h hd⟩
theorem Cn.nou {w : Bool} (hj : (ops.toArray[j]?).bind (·.dst) = some dj) (hb : f dj = undef) (hd : Nat.blt d E.n = true) (k : Cn n (W E ops.toArray q rest (upd f d undef) G M K)) : Cn (n + 1) (W E ops.toArray q (⟨some d, op, ty, pos, aft, some (j, w)⟩ :: rest) f G M K) := ⟨W.nou hj hb k.h hd⟩
theorem Cn.nil (k : Cn n (K f G M)) : Cn (n + 1) (W E ops.toArray q [] f G M K) := ⟨W.nil k.h⟩
theorem Cn.rg {id : Nat} {l : List Oper} (k : Cn n (W E l.toArray false l f G M (Q .normal))) : Cn (n + 1) (WC E (.region id l.toArray false) Q f G M) := ⟨WC.region k.h⟩
theorem Cn.sq (k : Cn n (WC E c (thn (WC E c' Q) Q) f G M)) : Cn (n + 1) (WC E (.seq c c') Q f G M) := ⟨WC.seq k.h⟩
theorem Cn.bk {id : Nat} (k : Cn n (WC E c (blk id Q) f G M)) : Cn (n + 1) (WC E (.block id c) Q f G M) := ⟨WC.block k.h⟩
theorem Cn.sk (k : Cn n (Q .normal f G M)) : Cn (n + 1) (WC E .skip Q f G M) := ⟨WC.skip k.h⟩
theorem Cn.rt (k : Cn n (Q .ret f G M)) : Cn (n + 1) (WC E .ret Q f G M) := ⟨WC.ret k.h⟩
theorem Cn.xt {id : Nat} (k : Cn n (Q (.exit id) f G M)) : Cn (n + 1) (WC E (.exit id) Q f G M) := ⟨WC.exit k.h⟩
theorem Cn.cT (hc : ev f x = .bool b) (hb : b = true) (k : Cn n (WC E c Q f G M)) : Cn (n + 1) (WC E (.cond x c c') Q f G M) := ⟨WC.cond_t hc hb k.h⟩
theorem Cn.cF (hc : ev f x = .bool b) (hb : b = false) (k : Cn n (WC E c' Q f G M)) : Cn (n + 1) (WC E (.cond x c c') Q f G M) := ⟨WC.cond_f hc hb k.h⟩
theorem Cn.tn (k : Cn n (K f G M)) : Cn (n + 1) (thn K Q .normal f G M) := ⟨thn_n k.h⟩
theorem Cn.tx {id : Nat} (k : Cn n (Q (.exit id) f G M)) : Cn (n + 1) (thn K Q (.exit id) f G M) := ⟨thn_x k.h⟩
theorem Cn.tr (k : Cn n (Q .ret f G M)) : Cn (n + 1) (thn K Q .ret f G M) := ⟨thn_r k.h⟩
theorem Cn.bn {id : Nat} (k : Cn n (Q .normal f G M)) : Cn (n + 1) (blk id Q .normal f G M) := ⟨blk_n k.h⟩
theorem Cn.br {id : Nat} (k : Cn n (Q .ret f G M)) : Cn (n + 1) (blk id Q .ret f G M) := ⟨blk_r k.h⟩
theorem Cn.bh {id : Nat} (k : Cn n (Q .normal f G M)) : Cn (n + 1) (blk id Q (.exit id) f G M) := ⟨blk_h k.h⟩
theorem Cn.rr {P : Program} {rs : List ResultVar} {vs : List Value} {R : List Value → MH → Prop} (hr : ResL P f M rs vs) (k : Cn n (R vs [])) : Cn (n + 1) ((Exit.ret = .normal ∨ Exit.ret = .ret) ∧ ∃ vs, ResL P f M rs vs ∧ ∃ M', M'.Sublist M ∧ R vs M') := ⟨.inr rfl, vs, hr, [], List.nil_sublist _, k.h⟩
theorem Cn.bm {id id' : Nat} (hn : Nat.beq id' id = false) (k : Cn n (Q (.exit id') f G M)) : Cn (n + 1) (blk id Q (.exit id') f G M) := ⟨blk_m k.h hn⟩
end
theorem ok9 {E : Env} {f : Fr} {G : GH} {M : MH} {o : Oper} {v : Value} (h : Ok E f G M o v := by
  first
  | (with_reducible apply is_fa
     first
     | exact ok_fb rfl
     | exact ok_fe rfl (by first | exact ElemAt.form (by assumption) | exact OwnAt.form (by assumption)))
  | (with_reducible apply is_ld
     first
     | exact ok_l1 rfl rfl
     | exact ok_lA rfl rfl rfl
     | exact ok_lP rfl
     | exact ok_e1 rfl (by first | assumption | exact ElemAt.mo (by assumption) lec) (by rfl)
     | exact ok_eA rfl rfl (by first | assumption | exact ElemAt.mo (by assumption) lec) (by rfl)
     | ((with_reducible apply ok_eP); infer_instance; exact rfl; (first | assumption | exact ElemAt.mo (by assumption) lec); infer_instance))
  | (with_reducible apply is_pk
     first
     | exact ok_pick_t rfl pk9
     | exact ok_pick_f rfl pk9)
  | (with_reducible apply is_bi
     first
     | ((with_reducible apply ok_lss); exact rfl; exact rfl)
     | ((with_reducible apply ok_add); exact rfl; exact rfl; first | omega | (dsimp only; omega))
     | ((with_reducible apply ok_eql); exact rfl; exact rfl)
     | ((with_reducible apply ok_gtr); exact rfl; exact rfl)
     | ((with_reducible apply ok_leq); exact rfl; exact rfl)
     | ((with_reducible apply ok_neq); exact rfl; exact rfl)
     | ((with_reducible apply ok_geq); exact rfl; exact rfl)
     | ((with_reducible apply ok_sub); exact rfl; exact rfl; first | omega | (dsimp only; omega))
     | ((with_reducible apply ok_eqlS); exact rfl; exact rfl)
     | ((with_reducible apply ok_neqS); exact rfl; exact rfl)
     | ((with_reducible apply ok_lssS); exact rfl; exact rfl))
  | (with_reducible apply is_ca
     first
     | exact ok_lnS rfl
     | exact ok_ln rfl SlR.go
     | exact ok_lnO rfl (by first | assumption | exact OwnR.mo (by assumption) lec))
  | with_reducible apply ok_move
  | with_reducible apply ok_assign
  | ((with_reducible apply ok_extract); exact rfl; exact rfl)
  | ((with_reducible apply ok_not); exact rfl)
  | ((with_reducible apply ok_nilP); exact rfl)
  | exact ok_ix rfl SlR.go (by rfl) rfl rfl (by omega)) : Ok E f G M o v := h
structure Cd (l : List Nat) (B : Prop) : Prop where
  h : B
section
variable {E : Env} {f : Fr} {G : GH} {M Mk : MH} {ops : Array Oper} {K : Kt} {fuel F : Nat} {listed : Array Bool} {i d j dj : Nat} {l : List Nat} {op : Op} {ty t T : TypeId} {pos : String} {aft : Array Edge} {v : Value} {x y : Operand} {b o : Nat} {w u : Bool}
theorem Cd.tk (hr : (Region.ready .any ops listed).contains i = true) (hf : Region.free .any ops listed i = true) (hs : Region.noSelect ops = true) (hF : F = fuel + 1) (ho : ops[i]? = some ⟨some d, op, ty, pos, aft, none⟩) (hok : Ok E f G Mk ⟨some d, op, ty, pos, aft, none⟩ v) (hd : Nat.blt d E.n = true)
    (k : Cd l (WD E ops fuel (listed.setIfInBounds i true) (upd f d v) G M Mk K)) : Cd (i :: l) (WD E ops F listed f G M Mk K) := ⟨hF ▸ WD.take i ho rfl rfl hs hf hr hok k.h hd⟩
theorem Cd.st {M' : MH} (hr : Region.ready .any ops listed = [i]) (hF : F = fuel + 1) (ho : ops[i]? = some ⟨none, op, ty, pos, aft, none⟩)
    (hw : ∀ K, W E [(⟨none, op, ty, pos, aft, none⟩ : Oper)].toArray false [] f G M' K → W E [(⟨none, op, ty, pos, aft, none⟩ : Oper)].toArray false [(⟨none, op, ty, pos, aft, none⟩ : Oper)] f G M K)
    (hs : Mk.Sublist M') (k : Cd l (WD E ops fuel (listed.setIfInBounds i true) f G M' Mk K)) : Cd (i :: l) (WD E ops F listed f G M Mk K) := ⟨hF ▸ WD.a1 i ho (hw _ (W.nil (WD.n9 Le.rfl hs k.h))) hr⟩
theorem sb9 {A B : MH} (h : A.Sublist B := by
  repeat (first
    | with_reducible exact List.nil_sublist _
    | with_reducible exact List.Sublist.refl _
    | with_reducible apply List.Sublist.cons_cons
    | with_reducible apply sb_n
    | with_reducible apply sb_c
    | with_reducible apply sb_m
    | with_reducible apply sb_d
    | apply List.Sublist.cons)) : A.Sublist B := h
theorem W.nn {G' : GH} {M' : MH} {ops' : List Oper} {q : Bool} (h : WD E ops fuel listed f G' M' Mk K) (hl : Le G G' := by exact lec) (hs : Mk.Sublist M' := by exact sb9) :
    W E ops'.toArray q [] f G' M' (fun f' G' M' => Le G G' ∧ Mk.Sublist M' ∧ ∃ Mk', Mk'.Sublist M' ∧ Mk.Sublist Mk' ∧ WD E ops fuel listed f' G' M' Mk' K) := W.nil (WD.n9 hl hs h)
class MixK (P : Program) : Prop where
  h : P.follows .mixedOrders = true
theorem WC.dw {Q : Exit → Kt} {id : Nat} {l : List Oper} (hsub : Mk.Sublist M) [hm : MixK E.P] (h : WD E l.toArray l.toArray.size (Array.replicate l.toArray.size false) f G M Mk (Q .normal)) (hq : ∀ c f G M, ¬ Q (.panic c) f G M := by rintro _ _ _ _ ⟨h | h, _⟩ <;> cases h) :
    WC E (.region id l.toArray true) Q f G M := WC.drawW Mk hsub hm.h hq h
theorem Cn.dn {n : Nat} (hr : Region.ready .any ops listed = []) (k : Cn n (K f G M)) : Cn (n + 1) (WD E ops fuel listed f G M Mk K) := ⟨WD.done hr k.h⟩
theorem Cn.dq {n id : Nat} {l : List Oper} {Q : Exit → Kt} [hm : MixK E.P] (hB : Region.lexB .any l.toArray = true) (k : Cn n (W E l.toArray true l f G M (Q .normal))) : Cn (n + 1) (WC E (.region id l.toArray true) Q f G M) := ⟨WC.draw hm.h hB k.h⟩
end
theorem d9 (l : List Nat) {A B : Prop} (h : A) (k : Hd9 A → Cd l B := by
  intro h9
  repeat (first
    | (with_reducible apply Cd.tk
       kernel_rfl
       kernel_rfl
       kernel_rfl
       exact rfl
       exact rfl
       exact ok9
       exact rfl)
    | (with_reducible apply Cd.st
       kernel_rfl
       exact rfl
       exact rfl
       first
       | exact fun K h => W.s1 rfl (v := .int _ _) rfl rfl rfl h
       | exact fun K h => W.s1 rfl (v := .slice _ _ _) rfl rfl rfl h
       | exact fun K h => W.s1 rfl (v := .string _) rfl rfl rfl h
       | exact fun K h => W.s1 rfl (v := .bool _) rfl rfl rfl h
       | exact fun K h => W.s1 rfl (v := .pointer _) rfl rfl rfl h
       | exact fun K h => W.sA rfl rfl rfl rfl (by rfl) (by rfl) h
       exact sb9)
    | (with_reducible apply Cd.tY
       kernel_rfl
       kernel_rfl
       kernel_rfl
       exact rfl
       exact rfl
       exact rfl
       exact rfl
       exact pk9
       exact ok9
       exact rfl
       exact rfl)
    | (with_reducible apply Cd.tF
       kernel_rfl
       kernel_rfl
       kernel_rfl
       exact rfl
       exact rfl
       exact rfl
       exact rfl
       exact pk9
       exact rfl
       exact rfl)
    | (with_reducible apply Cd.tT
       kernel_rfl
       kernel_rfl
       kernel_rfl
       exact rfl
       exact rfl
       exact rfl
       exact rfl
       exact pk9
       exact rfl
       exact rfl))
  exact (⟨h9.h⟩ : Cd [] _)) : B := (k ⟨h⟩).h
theorem g9 (n : Nat) {A B : Prop} (h : A) (k : Hd9 A → Cn n B := by
  intro h9
  repeat (first
    | ((with_reducible apply Cn.ok); exact ok9; exact rfl)
    | (with_reducible apply Cn.noF
       exact rfl
       exact rfl
       exact pk9
       exact rfl)
    | (with_reducible apply Cn.yes
       exact rfl
       exact rfl
       exact pk9
       exact rfl)
    | (with_reducible apply Cn.noT
       exact rfl
       exact rfl
       exact pk9
       exact rfl)
    | with_reducible apply Cn.nil
    | with_reducible apply Cn.rg
    | with_reducible apply Cn.sq
    | with_reducible apply Cn.tn
    | (with_reducible apply Cn.isW
       first
       | refine Cn.st (fun h => W.s1 rfl (v := .int _ _) rfl rfl rfl h) ?_
       | refine Cn.st (fun h => W.s1 rfl (v := .slice _ _ _) rfl rfl rfl h) ?_
       | refine Cn.st (fun h => W.s1 rfl (v := .string _) rfl rfl rfl h) ?_
       | refine Cn.st (fun h => W.s1 rfl (v := .bool _) rfl rfl rfl h) ?_
       | refine Cn.st (fun h => W.s1 rfl (v := .pointer _) rfl rfl rfl h) ?_
       | refine Cn.st (fun h => W.sA rfl rfl rfl rfl (by rfl) (by rfl) h) ?_
       | (with_reducible apply Cn.nou
          exact rfl
          exact rfl
          exact rfl))
    | ((with_reducible apply Cn.dn); kernel_rfl)
    | ((with_reducible apply Cn.dq); kernel_rfl)
    | with_reducible apply Cn.bk
    | with_reducible apply Cn.sk
    | with_reducible apply Cn.rt
    | with_reducible apply Cn.xt
    | with_reducible apply Cn.bn
    | with_reducible apply Cn.tx
    | with_reducible apply Cn.bh
    | with_reducible apply Cn.tr
    | with_reducible apply Cn.br
    | ((with_reducible apply Cn.cT); exact rfl; exact pk9)
    | ((with_reducible apply Cn.cF); exact rfl; exact pk9)
    | ((with_reducible apply Cn.bm); exact rfl)
    | (with_reducible apply Cn.rr
       exact rsl))
  exact (⟨h9.h⟩ : Cn 0 _)) : B := (k ⟨h⟩).h
end Go.Fw

namespace Go.Fw
open Go
def longG {α : Type} (w : α → Int) : List α → Int → Int → Int
 | [], n, _ => n
 | s :: l, n, most => if n ≤ most then longG w l (n + w s) most else n
theorem longG_step {α : Type} {w : α → Int} {l : List α} {k : Nat} {n m : Int} (hk : k < l.length) (h : n ≤ m) : longG w (l.drop k) n m = longG w (l.drop (k + 1)) (n + w l[k]) m := by
 rw [List.drop_eq_getElem_cons hk, longG, if_pos h]
theorem longG_stop {α : Type} {w : α → Int} {l : List α} {n m : Int} (h : ¬ n ≤ m) : longG w l n m = n := by
 cases l with
 | nil => rfl
 | cons a l => rw [longG, if_neg h]
theorem longG_end {α : Type} {w : α → Int} {l : List α} {k : Nat} {n m : Int} (hk : ¬ k < l.length) : longG w (l.drop k) n m = n := by
 rw [List.drop_eq_nil_of_le om9]; rfl
theorem longG_mem {α : Type} {w : α → Int} (hw : ∀ a, 0 ≤ w a) : ∀ {l : List α} {n m : Int}, 0 ≤ n → longG w l n m ≤ m → n ≤ m ∧ ∀ a ∈ l, w a ≤ m
 | [], n, m, h0, h => ⟨by simpa [longG] using h, fun a ha => by cases ha⟩
 | s :: l, n, m, h0, h => by
  rw [longG] at h
  split at h
  ·rename_i hc
   have h1 := longG_mem hw (by have := hw s; omega) h
   refine ⟨hc, fun a ha => ?_⟩
   rcases List.mem_cons.1 ha with rfl | ha
   ·have := h1.1; omega
   ·exact h1.2 a ha
  ·omega
theorem longG_len {α : Type} {w : α → Int} (hw : ∀ a, 1 ≤ w a) : ∀ {l : List α} {n m : Int}, longG w l n m ≤ m → n + l.length ≤ longG w l n m
 | [], n, m, _ => by simp [longG]
 | s :: l, n, m, h => by
  rw [longG] at h ⊢
  split
  ·rename_i hc
   rw [if_pos hc] at h
   have h1 := longG_len hw h
   have h2 := hw s
   simp only [List.length_cons]
   omega
  ·rename_i hc
   rw [if_neg hc] at h
   omega
def Pair.w (p : Pair) : Int := 1 + p.key.b.size + p.val.b.size
def Msg.w (m : Msg) : Int := 1 + m.key.b.size + m.hi.b.size + m.val.b.size
theorem Pair.w_pos (p : Pair) : 1 ≤ p.w := by unfold Pair.w; omega
theorem Msg.w_pos (m : Msg) : 1 ≤ m.w := by unfold Msg.w; omega
theorem Pair.w_le (p : Pair) : p.w ≤ 281474976710657 := by have := p.key.le; have := p.val.le; unfold Pair.w; omega
theorem Msg.w_le (m : Msg) : m.w ≤ 422212465065985 := by have := m.key.le; have := m.hi.le; have := m.val.le; unfold Msg.w; omega
theorem Pair.eq_of {a b : Pair} (h : (!eqCells [.string a.key.b, .string a.val.b] [.string b.key.b, .string b.val.b]) = false) : a = b := by
 cases a; cases b
 simpa [eqCells, Str.b_inj] using h
theorem Pair.ne_of {a b : Pair} (h : (!eqCells [.string a.key.b, .string a.val.b] [.string b.key.b, .string b.val.b]) = true) : a ≠ b := by
 intro e; subst e; simp [eqCells] at h
theorem Msg.eq_of {a b : Msg} (h : (!eqCells [.int .i64 a.stamp, .int .i64 a.kind, .string a.key.b, .string a.hi.b, .bool a.opn, .string a.val.b] [.int .i64 b.stamp, .int .i64 b.kind, .string b.key.b, .string b.hi.b, .bool b.opn, .string b.val.b]) = false) : a = b := by
 cases a; cases b
 simpa [eqCells, Str.b_inj] using h
theorem Msg.ne_of {a b : Msg} (h : (!eqCells [.int .i64 a.stamp, .int .i64 a.kind, .string a.key.b, .string a.hi.b, .bool a.opn, .string a.val.b] [.int .i64 b.stamp, .int .i64 b.kind, .string b.key.b, .string b.hi.b, .bool b.opn, .string b.val.b]) = true) : a ≠ b := by
 intro e; subst e; simp [eqCells] at h
def PairsR (l : List Pair) : Prop := ∀ i (h : i < l.length), (l[i].key.b.size ≤ 16 ∧ l[i].val.b.size ≤ 16) ∧ (0 < i → (l[i - 1]'om9).key.lt l[i].key = true)
instance (l : List Pair) : Decidable (PairsR l) := by unfold PairsR; infer_instance
def Str.next (a : Str) : Str := if h : (a.b ++ ⟨#[0]⟩).size ≤ 140737488355328 then ⟨a.b ++ ⟨#[0]⟩, h⟩ else a
theorem Str.next_b {a : Str} (h : a.b.size < 140737488355328) : a.next.b = a.b ++ ⟨#[0]⟩ := by
 have h1 : (a.b ++ ⟨#[0]⟩).size ≤ 140737488355328 := by rw [ByteArray.size_append]; show _ + 1 ≤ _; omega
 rw [Str.next, dif_pos h1]
def Msg.span (m : Msg) : Span := if m.kind = 4 then ⟨m.key, m.hi, m.opn⟩ else ⟨m.key, m.key.next, false⟩
def Span.meet (a b : Span) : Span := Span.norm ⟨if a.lo.lt b.lo = true then b.lo else a.lo, if b.opn = false ∧ (a.opn = true ∨ b.hi.lt a.hi = true) then b.hi else a.hi, a.opn && b.opn⟩
def Msg.clip (m : Msg) (s : Span) : Msg × Bool :=
 if (m.span.meet s).empty = true then (⟨0, 0, Str.nil, Str.nil, false, Str.nil⟩, false)
 else if m.kind = 4 then ({ m with key := (m.span.meet s).lo, hi := (m.span.meet s).hi, opn := (m.span.meet s).opn }, true) else (m, true)
def Msg.size (m : Msg) : Int := if m.kind = 4 then 36 else 4 + m.key.b.size + m.val.b.size
theorem Str.min_eq (a b : Str) : a.min b = if b.lt a = true then b else a := by
 unfold Str.min
 cases h : b.lt a
 ·cases h2 : a.lt b
  ·obtain rfl := Str.lt_total h h2; simp
  ·simp
 ·have h3 := Str.lt_asymm h
  rw [h3]
  have h4 : a ≠ b := by rintro rfl; rw [Str.lt_irrefl] at h; cases h
  simp [h4]
theorem smeet_eq (a b : Span) : Span.norm ⟨a.lo.max b.lo, if a.opn = true then b.hi else if b.opn = true then a.hi else a.hi.min b.hi, a.opn && b.opn⟩ = Span.meet a b := by
 unfold Span.meet
 rw [Str.min_eq]
 cases h1 : a.opn <;> cases h2 : b.opn <;> simp [Str.max]
 simp [Span.norm, Span.empty]
theorem clip_e {m : Msg} {s : Span} (h : (m.span.meet s).empty = true) : m.clip s = (⟨0, 0, Str.nil, Str.nil, false, Str.nil⟩, false) := if_pos h
theorem clip_4 {m : Msg} {s : Span} (h : (m.span.meet s).empty = false) (k : m.kind = 4) : m.clip s = ({ m with key := (m.span.meet s).lo, hi := (m.span.meet s).hi, opn := (m.span.meet s).opn }, true) := by
 rw [Msg.clip, if_neg (by simp [h]), if_pos k]
theorem clip_n {m : Msg} {s : Span} (h : (m.span.meet s).empty = false) (k : ¬ m.kind = 4) : m.clip s = (m, true) := by
 rw [Msg.clip, if_neg (by simp [h]), if_neg k]
def clips (s : Span) (l : List Msg) : List Msg := l.filterMap fun m => if (m.clip s).2 = true then some (m.clip s).1 else none
theorem clips_t {s : Span} {l : List Msg} {i : Nat} (h : i < l.length) (hc : (l[i].clip s).2 = true) : clips s (l.take (i + 1)) = clips s (l.take i) ++ [(l[i].clip s).1] := by
 rw [clips, List.take_succ_eq_append_getElem h, List.filterMap_append]; simp [clips, hc]
theorem clips_f {s : Span} {l : List Msg} {i : Nat} (h : i < l.length) (hc : (l[i].clip s).2 = false) : clips s (l.take (i + 1)) = clips s (l.take i) := by
 rw [clips, List.take_succ_eq_append_getElem h, List.filterMap_append]; simp [clips, hc]
theorem clips_le {s : Span} {l : List Msg} : (clips s l).length ≤ l.length := List.length_filterMap_le _ _
theorem clip_ok {m : Msg} {s : Span} (h : m.Ok) : (m.clip s).1.Ok := by
 unfold Msg.clip
 split
 ·exact ⟨⟨by decide, by decide⟩, ⟨by decide, by decide⟩⟩
 ·split
  ·exact h
  ·exact h
def Nd.light (m : Int) (n : Nd) : Prop := longG Pair.w n.rows 0 m ≤ m ∧ longN n.pivots 0 m ≤ m ∧ (n.kids.length : Int) ≤ m ∧ longG Msg.w n.msgs 0 m ≤ m ∧ (n.high.b.size : Int) ≤ m
instance (m : Int) (n : Nd) : Decidable (n.light m) := by unfold Nd.light; infer_instance
def Light (l : List Nd) (n m : Int) : Prop := (l.length : Int) ≤ n ∧ ∀ i (h : i < l.length), l[i].light m
instance (l : List Nd) (n m : Int) : Decidable (Light l n m) := by unfold Light; infer_instance
def Msg.R (m : Msg) : Prop := (1 ≤ m.stamp ∧ m.key.b.size ≤ 16 ∧ m.val.b.size ≤ 16 ∧ m.hi.b.size ≤ 16) ∧
 if m.kind = 4 then m.val = Str.nil ∧ (m.opn = false ∨ m.hi = Str.nil) ∧ m.span.empty = false
 else m.hi = Str.nil ∧ m.opn = false ∧ (m.kind = 1 ∨ m.kind = 2 ∨ (m.kind = 3 ∧ m.val = Str.nil))
instance (m : Msg) : Decidable m.R := by unfold Msg.R; infer_instance
def MsgsR (l : List Msg) : Prop := ∀ i (h : i < l.length), l[i].R ∧ (0 < i → (l[i - 1]'om9).stamp < l[i].stamp)
instance (l : List Msg) : Decidable (MsgsR l) := by unfold MsgsR; infer_instance
def Nd.zero : Nd := ⟨0, 0, [], [], Str.nil, false, 0, 0, [], []⟩
theorem Nd.zero_ok : Nd.zero.Ok := ⟨⟨by decide, by decide⟩, ⟨by decide, by decide⟩, ⟨by decide, by decide⟩, ⟨by decide, by decide⟩⟩
def sizesN (l : List Msg) : Int := (l.map Msg.size).sum
theorem sizes_succ {l : List Msg} {k : Nat} (h : k < l.length) : sizesN (l.take (k + 1)) = sizesN (l.take k) + (l[k]).size := by
 rw [sizesN, List.take_succ_eq_append_getElem h, List.map_append, List.sum_append]
 show _ + ((l[k]).size + 0) = _
 rw [Int.add_zero]; rfl
theorem size_36 {m : Msg} (h : m.key.b.size ≤ 16 ∧ m.val.b.size ≤ 16) : 4 ≤ m.size ∧ m.size ≤ 36 := by
 unfold Msg.size; split <;> omega
def Nd.has (n : Nd) (k : Str) : Bool := n.top || k.lt n.high
def Nd.leafR (leaf : Int) (n : Nd) : Prop := (n.pivots.length + n.kids.length + n.msgs.length = 0) ∧ (n.rows.length : Int) ≤ leaf ∧ PairsR n.rows ∧ ∀ i (h : i < n.rows.length), n.has n.rows[i].key = true
instance (m : Int) (n : Nd) : Decidable (n.leafR m) := by unfold Nd.leafR; infer_instance
def Nd.fits (n : Nd) (m : Msg) : Prop := m.stamp ≤ n.seen ∧ (n.top = true ∨ (m.span.opn = false ∧ n.high.lt m.span.hi = false))
instance (n : Nd) (m : Msg) : Decidable (n.fits m) := by unfold Nd.fits; infer_instance
def Nd.parts (n : Nd) (k : Str) : Prop := k ≠ Str.nil ∧ k.b.size ≤ 16 ∧ n.has k = true
instance (n : Nd) (k : Str) : Decidable (n.parts k) := by unfold Nd.parts; infer_instance
def Nd.innerR (fan bud : Int) (n : Nd) : Prop := (n.rows.length = 0 ∧ 2 ≤ n.kids.length ∧ (n.kids.length : Int) ≤ fan) ∧ rightN n.pivots n.kids.length = true ∧ MsgsR n.msgs ∧ sizesN n.msgs ≤ bud ∧
 (∀ i (h : i < n.kids.length), 0 ≤ n.kids[i]) ∧ (∀ i (h : i < n.pivots.length), n.parts n.pivots[i]) ∧ ∀ i (h : i < n.msgs.length), n.fits n.msgs[i]
instance (f b : Int) (n : Nd) : Decidable (n.innerR f b) := by unfold Nd.innerR; infer_instance
def Nd.R (fan leaf bud : Int) (n : Nd) : Prop := (0 ≤ n.slot ∧ 0 ≤ n.level ∧ 0 ≤ n.seen) ∧ (n.top = true → n.high = Str.nil ∧ n.right = -1) ∧ (n.top = false → n.high ≠ Str.nil ∧ n.high.b.size ≤ 16 ∧ 0 ≤ n.right) ∧
 if n.level = 0 then n.leafR leaf else n.innerR fan bud
instance (f l b : Int) (n : Nd) : Decidable (n.R f l b) := by unfold Nd.R; infer_instance
def Nd.sound (n : Nd) : Prop := Light [n] 1 2000 ∧ if n.level = 0 then PairsR n.rows else MsgsR n.msgs
instance (n : Nd) : Decidable n.sound := by unfold Nd.sound; infer_instance
theorem MsgsR.sizes {l : List Msg} (h : MsgsR l) : ∀ m ∈ l, m.key.b.size ≤ 16 ∧ m.val.b.size ≤ 16 := fun m hm => by
 obtain ⟨i, hi, rfl⟩ := List.getElem_of_mem hm
 have := (h i hi).1.1
 exact ⟨this.2.1, this.2.2.1⟩
theorem MsgsR.iff {l : List Msg} : MsgsR l ↔ (∀ m ∈ l, m.R) ∧ l.Pairwise fun a b => a.stamp < b.stamp := by
 constructor
 ·intro h
  refine ⟨fun m hm => ?_, List.pairwise_iff_getElem.2 fun i j hi hj hij => ?_⟩
  ·obtain ⟨i, hi, rfl⟩ := List.getElem_of_mem hm; exact (h i hi).1
  ·induction j with
   | zero => omega
   | succ j ih =>
    have h1 : l[j].stamp < l[j + 1].stamp := (h (j + 1) hj).2 om9
    by_cases e : i = j
    ·subst e; exact h1
    ·have := ih om9 om9; omega
 ·rintro ⟨h1, h2⟩ i hi
  exact ⟨h1 _ (List.getElem_mem hi), fun h0 => List.pairwise_iff_getElem.1 h2 (i - 1) i om9 hi om9⟩
theorem clips_mem {s : Span} {l : List Msg} {m : Msg} (h : m ∈ clips s l) : ∃ a ∈ l, (a.clip s).2 = true ∧ (a.clip s).1 = m := by
 obtain ⟨a, ha, h⟩ := List.mem_filterMap.1 h
 split at h
 ·rename_i hc; exact ⟨a, ha, hc, by simpa using h⟩
 ·cases h
theorem clip_of {m : Msg} {s : Span} (h : (m.clip s).2 = true) : (m.span.meet s).empty = false ∧ (m.clip s).1 = if m.kind = 4 then { m with key := (m.span.meet s).lo, hi := (m.span.meet s).hi, opn := (m.span.meet s).opn } else m := by
 cases he : (m.span.meet s).empty
 ·refine ⟨rfl, ?_⟩
  by_cases k : m.kind = 4
  ·rw [clip_4 he k, if_pos k]
  ·rw [clip_n he k, if_neg k]
 ·rw [clip_e he] at h; cases h
theorem clip_stamp {m : Msg} {s : Span} (h : (m.clip s).2 = true) : (m.clip s).1.stamp = m.stamp := by
 rw [(clip_of h).2]; split <;> rfl
theorem norm_sizes {s : Span} {n : Nat} (h1 : s.lo.b.size ≤ n) (h2 : s.hi.b.size ≤ n) : s.norm.lo.b.size ≤ n ∧ s.norm.hi.b.size ≤ n := by
 have h0 : Str.nil.b.size = 0 := rfl
 unfold Span.norm
 split
 ·exact ⟨by show Str.nil.b.size ≤ n; omega, by show Str.nil.b.size ≤ n; omega⟩
 ·split
  ·exact ⟨h1, by show Str.nil.b.size ≤ n; omega⟩
  ·exact ⟨h1, h2⟩
theorem norm_opn {s : Span} : s.norm.opn = false ∨ s.norm.hi = Str.nil := by
 unfold Span.norm
 split
 ·exact .inl rfl
 ·split
  ·exact .inr rfl
  ·rename_i h; exact .inl (by simpa using h)
theorem clip_R {m : Msg} {s : Span} (hm : m.R) (h1 : s.lo.b.size ≤ 16) (h2 : s.hi.b.size ≤ 16) (h : (m.clip s).2 = true) : (m.clip s).1.R := by
 obtain ⟨he, e⟩ := clip_of h
 rw [e]
 by_cases k : m.kind = 4
 ·rw [if_pos k]
  obtain ⟨⟨q1, q2, q3, q4⟩, q5⟩ := hm
  rw [if_pos k] at q5
  have hs : m.span = ⟨m.key, m.hi, m.opn⟩ := if_pos k
  have hz : (m.span.meet s).lo.b.size ≤ 16 ∧ (m.span.meet s).hi.b.size ≤ 16 := by
   rw [hs]
   exact norm_sizes (by show (if _ then _ else _ : Str).b.size ≤ 16; split; exact h1; exact q2) (by show (if _ then _ else _ : Str).b.size ≤ 16; split; exact h2; exact q4)
  refine ⟨⟨q1, hz.1, q3, hz.2⟩, ?_⟩
  show if m.kind = 4 then _ else _
  rw [if_pos k]
  refine ⟨q5.1, norm_opn, ?_⟩
  show Span.empty (if m.kind = 4 then _ else _) = false
  rw [if_pos k]; exact he
 ·rw [if_neg k]; exact hm
theorem sizes_cons {m : Msg} {l : List Msg} : sizesN (m :: l) = m.size + sizesN l := by simp [sizesN]
def tailL {α : Type} (l : List α) : List α := l.drop (l.length - 16)
theorem tailL_len {α : Type} (l : List α) : (tailL l).length = min l.length 16 := by simp [tailL]; omega
theorem tailL_left {α : Type} (x b : List α) : tailL (tailL x ++ b) = tailL (x ++ b) := by
 simp only [tailL, List.length_append, List.length_drop]
 by_cases h : x.length ≤ 16
 ·rw [show x.length - 16 = 0 from by omega]; simp
 ·rw [show x.length - (x.length - 16) + b.length - 16 = b.length from by omega, show x.length + b.length - 16 = (x.length - 16) + b.length from by omega, ← List.drop_drop,
   List.drop_append_of_le_length (by omega : x.length - 16 ≤ x.length)]
theorem tailL_right {α : Type} (x y : List α) : tailL (x ++ tailL y) = tailL (x ++ y) := by
 simp only [tailL, List.length_append, List.length_drop]
 by_cases h : y.length ≤ 16
 ·rw [show y.length - 16 = 0 from by omega]; simp
 ·rw [show x.length + (y.length - (y.length - 16)) - 16 = x.length from by omega, show x.length + y.length - 16 = x.length + (y.length - 16) from by omega]
  rw [List.drop_append_of_le_length (Nat.le_refl _), ← List.drop_drop, List.drop_append_of_le_length (Nat.le_refl _)]
  simp
def tailB (b : ByteArray) : ByteArray := b.extract (b.size - 16) b.size
theorem tailB_data (b : ByteArray) : (tailB b).data.toList = tailL b.data.toList := by
 simp only [tailB, tailL, ByteArray.data_extract, Array.toList_extract, List.extract_eq_take_drop, Array.length_toList]
 show List.take (b.data.size - (b.data.size - 16)) (List.drop (b.data.size - 16) b.data.toList) = _
 rw [List.take_of_length_le (by simp)]
theorem ba_ext {a b : ByteArray} (h : a.data.toList = b.data.toList) : a = b := by
 cases a; cases b
 simp only [ByteArray.mk.injEq]
 exact Array.toList_inj.1 h
theorem tailB_size (b : ByteArray) : (tailB b).size = min b.size 16 := by
 have h := congrArg List.length (tailB_data b)
 rw [tailL_len] at h
 simpa using h
theorem app_data (a b : ByteArray) : (a ++ b).data.toList = a.data.toList ++ b.data.toList := by simp [ByteArray.data_append]
theorem tailB_left (x b : ByteArray) : tailB (tailB x ++ b) = tailB (x ++ b) := by
 apply ba_ext; rw [tailB_data, tailB_data, app_data, app_data, tailB_data, tailL_left]
theorem tailB_right (x y : ByteArray) : tailB (x ++ tailB y) = tailB (x ++ y) := by
 apply ba_ext; rw [tailB_data, tailB_data, app_data, app_data, tailB_data, tailL_right]
theorem app_assoc (a b c : ByteArray) : a ++ b ++ c = a ++ (b ++ c) := by
 apply ba_ext; simp only [app_data, List.append_assoc]
def Str.tail (s : Str) : Str := ⟨tailB s.b, by rw [tailB_size]; omega⟩
def Str.cat (a b : Str) : Str := if h : (a.b ++ b.b).size ≤ 140737488355328 then ⟨a.b ++ b.b, h⟩ else a
theorem Str.cat_b {a b : Str} (h : a.b.size + b.b.size ≤ 140737488355328) : (a.cat b).b = a.b ++ b.b := by
 have h1 : (a.b ++ b.b).size ≤ 140737488355328 := by rw [ByteArray.size_append]; exact h
 rw [Str.cat, dif_pos h1]
def Str.add (a b : Str) : Str := ⟨tailB (a.b ++ b.b), by rw [tailB_size]; omega⟩
theorem Str.cat_tail {a b : Str} (h : a.b.size + b.b.size ≤ 140737488355328) : (a.cat b).tail = a.add b := by
 apply Str.ext'; simp only [Str.tail, Str.add]; rw [Str.cat_b h]
theorem Str.add_assoc (x a b : Str) : (x.add a).add b = x.add (a.add b) := by
 apply Str.ext'; simp only [Str.add]; rw [tailB_left, tailB_right, app_assoc]
theorem Str.add_size (a b : Str) : (a.add b).b.size ≤ 16 := by show (tailB _).size ≤ 16; rw [tailB_size]; omega
theorem Str.cut_size (s : Str) (i j : Nat) : (s.cut i j).b.size = Min.min j s.b.size - i := by simp [Str.cut, ByteArray.size_extract]
theorem Str.cut_nil {s : Str} {i j : Nat} (h : j ≤ i) : (s.cut i j).b = ⟨#[]⟩ := by
 apply ba_ext
 simp only [Str.cut, ByteArray.data_extract, Array.toList_extract, List.extract_eq_take_drop]
 rw [show j - i = 0 from by omega]; rfl
theorem Str.cut_app {s : Str} {a b c : Nat} (h1 : a ≤ b) (h2 : b ≤ c) (h3 : c ≤ s.b.size) : (s.cut a b).b ++ (s.cut b c).b = (s.cut a c).b := by
 apply ba_ext
 rw [app_data]
 simp only [Str.cut, ByteArray.data_extract, Array.toList_extract, List.extract_eq_take_drop]
 rw [show c - a = (b - a) + (c - b) from by omega, List.take_add, List.drop_drop, show a + (b - a) = b from by omega]
theorem Str.cut_cat {s : Str} {k : Nat} (h : k < s.b.size) : (s.cut (s.b.size - 1 - k) (s.b.size - k)).b ++ (s.cut (s.b.size - k) s.b.size).b = (s.cut (s.b.size - (k + 1)) s.b.size).b := by
 rw [Str.cut_app om9 om9 (Nat.le_refl _), show s.b.size - 1 - k = s.b.size - (k + 1) from by omega]
structure Eff where
 kind : Int
 val : Str
 deriving DecidableEq
def Eff.cells (e : Eff) : List Value := [.int .i64 e.kind, .string e.val.b]
def Eff.zero : Eff := ⟨0, Str.nil⟩
def optS (has : Bool) (v : Str) : Option Str := if has = true then some v else none
def Eff.apply (e : Eff) (o : Option Str) : Option Str :=
 if e.kind = 1 then some e.val else if e.kind = 3 then none else if e.kind = 2 then some ((o.getD Str.nil).add e.val) else o
def Eff.then (a b : Eff) : Eff :=
 if b.kind = 0 then a else if b.kind ≠ 2 ∨ a.kind = 0 then b else ⟨if a.kind = 2 then 2 else 1, (if a.kind = 3 then Str.nil else a.val).add b.val⟩
def Eff.K (e : Eff) : Prop := 0 ≤ e.kind ∧ e.kind ≤ 3
theorem Eff.zero_apply (o : Option Str) : Eff.zero.apply o = o := rfl
theorem Eff.then_apply {a b : Eff} (ha : a.K) (hb : b.K) (o : Option Str) : (a.then b).apply o = b.apply (a.apply o) := by
 obtain ⟨a1, a2⟩ := ha
 obtain ⟨b1, b2⟩ := hb
 obtain ⟨k, v⟩ := a
 obtain ⟨j, u⟩ := b
 simp only at a1 a2 b1 b2
 have hk : k = 0 ∨ k = 1 ∨ k = 2 ∨ k = 3 := om9
 have hj : j = 0 ∨ j = 1 ∨ j = 2 ∨ j = 3 := om9
 rcases hj with rfl | rfl | rfl | rfl <;> rcases hk with rfl | rfl | rfl | rfl <;> simp [Eff.then, Eff.apply, Str.add_assoc]
theorem Eff.then_K {a b : Eff} (ha : a.K) (hb : b.K) : (a.then b).K := by
 unfold Eff.then
 split
 ·exact ha
 ·split
  ·exact hb
  ·unfold Eff.K; dsimp only; split <;> omega
def Msg.on (m : Msg) (k : Str) : Eff :=
 if m.span.has k = false ∨ m.kind < 1 ∨ 4 < m.kind then Eff.zero else if 3 ≤ m.kind then ⟨3, Str.nil⟩ else ⟨m.kind, m.val⟩
theorem Msg.on_K (m : Msg) (k : Str) : (m.on k).K := by
 unfold Msg.on
 split
 ·exact ⟨by decide, by decide⟩
 ·split
  ·exact ⟨by decide, by decide⟩
  ·constructor <;> dsimp only <;> omega
def onsN (l : List Msg) (k : Str) : Eff := l.foldl (fun e m => e.then (m.on k)) Eff.zero
theorem foldl_apply (k : Str) : ∀ (l : List Msg) (e : Eff) (o : Option Str), e.K → (l.foldl (fun e m => e.then (m.on k)) e).apply o = l.foldl (fun o m => (m.on k).apply o) (e.apply o)
 | [], e, o, h => rfl
 | m :: l, e, o, h => by
  rw [List.foldl_cons, List.foldl_cons, foldl_apply k l _ o (Eff.then_K h (m.on_K k)), Eff.then_apply h (m.on_K k)]
theorem onsN_apply (l : List Msg) (k : Str) (o : Option Str) : (onsN l k).apply o = l.foldl (fun o m => (m.on k).apply o) o := foldl_apply k l _ o ⟨by decide, by decide⟩
theorem onsN_succ {l : List Msg} {i : Nat} (k : Str) (h : i < l.length) : onsN (l.take (i + 1)) k = (onsN (l.take i) k).then (l[i].on k) := by
 rw [List.take_succ_eq_append_getElem h, onsN, List.foldl_append]; rfl
def getN (l : List Pair) (k : Str) : Option Str := (l.find? fun p => decide (p.key = k)).map Pair.val
theorem getN_cons (p : Pair) (l : List Pair) (k : Str) : getN (p :: l) k = if p.key = k then some p.val else getN l k := by
 unfold getN; rw [List.find?_cons]; by_cases h : p.key = k <;> simp [h]
theorem getN_append : ∀ (l m : List Pair) (k : Str), getN (l ++ m) k = (getN l k).or (getN m k)
 | [], m, k => by simp [getN]
 | p :: l, m, k => by
  rw [List.cons_append, getN_cons, getN_cons, getN_append l m k]
  split <;> simp
theorem getN_filter (q : Str → Bool) (k : Str) : ∀ (l : List Pair), getN (l.filter fun p => q p.key) k = if q k = true then getN l k else none
 | [] => by simp [getN]
 | p :: l => by
  have ih := getN_filter q k l
  by_cases h : q p.key = true
  ·rw [List.filter_cons_of_pos (p := fun p : Pair => q p.key) h, getN_cons, getN_cons, ih]
   by_cases e : p.key = k
   ·subst e; simp [h]
   ·simp [e]
  ·rw [List.filter_cons_of_neg (p := fun p : Pair => q p.key) h, ih, getN_cons]
   by_cases e : p.key = k
   ·subst e; simp [h]
   ·simp [e]
theorem getN_at {l : List Pair} {i : Nat} (hi : i < l.length) (h : ∀ j (hj : j < l.length), j < i → l[j].key ≠ l[i].key) : getN l l[i].key = some l[i].val := by
 induction l generalizing i with
 | nil => simp at hi
 | cons p l ih =>
  rw [getN_cons]
  cases i with
  | zero => simp
  | succ i =>
   have h0 := h 0 (by simp) om9
   simp only [List.getElem_cons_zero, List.getElem_cons_succ] at h0
   simp only [List.getElem_cons_succ]
   rw [if_neg h0]
   exact ih (by simpa using hi) (fun j hj hji => by have := h (j + 1) (by simpa using hj) om9; simpa using this)
theorem getN_no {l : List Pair} {k : Str} (h : ∀ j (hj : j < l.length), l[j].key ≠ k) : getN l k = none := by
 unfold getN
 rw [Option.map_eq_none_iff, List.find?_eq_none]
 intro p hp
 obtain ⟨j, hj, rfl⟩ := List.getElem_of_mem hp
 simpa using h j hj
def withN (l : List Pair) (k : Str) (e : Eff) : List Pair :=
 (l.filter fun p => p.key.lt k) ++ (match e.apply (getN l k) with | some v => [⟨k, v⟩] | none => []) ++ (l.filter fun p => k.lt p.key)
def takeN (l : List Pair) (m : Msg) : List Pair := if m.kind = 4 then l.filter fun p => !m.span.has p.key else withN l m.key (m.on m.key)
def foldN (l : List Pair) (ms : List Msg) : List Pair := ms.foldl takeN l
def scanN (l : List Pair) (s : Span) (limit : Int) : List Pair := (l.filter fun p => s.has p.key).take limit.toNat
theorem getN_with (l : List Pair) (k : Str) (e : Eff) (k' : Str) : getN (withN l k e) k' = if k' = k then e.apply (getN l k) else getN l k' := by
 unfold withN
 rw [getN_append, getN_append, getN_filter (fun x => x.lt k), getN_filter (fun x => k.lt x)]
 by_cases h : k' = k
 ·subst h
  simp only [Str.lt_irrefl, if_true]
  cases e.apply (getN l k') with
  | none => simp [getN]
  | some v => simp [getN_cons]
 ·rw [if_neg h]
  have hm : getN (match e.apply (getN l k) with | some v => [⟨k, v⟩] | none => []) k' = none := by
   cases e.apply (getN l k) with
   | none => rfl
   | some v => simp only [getN_cons]; rw [if_neg (fun x => h x.symm)]; rfl
  rw [hm]
  cases h1 : k'.lt k
  ·cases h2 : k.lt k'
   ·exact absurd (Str.lt_total h1 h2) h
   ·simp
  ·rw [Str.lt_asymm h1]; simp
theorem next_lt {k x : Str} (hk : k.b.size < 140737488355328) : x.lt k.next = true ↔ k.lt x = false := by
 have e : k.next.b.toList = k.b.toList ++ [0] := by
  rw [Str.next_b hk, ByteArray.toList_eq, ByteArray.toList_eq, app_data]
 show Op.bytesLess x.b.toList k.next.b.toList = true ↔ Op.bytesLess k.b.toList x.b.toList = false
 rw [e]
 generalize k.b.toList = a
 generalize x.b.toList = b
 clear e hk
 induction a generalizing b with
 | nil =>
  cases b with
  | nil => simp [Op.bytesLess]
  | cons y b =>
   simp only [List.nil_append, Op.bytesLess, Bool.or_eq_true, Bool.and_eq_true, decide_eq_true_eq, beq_iff_eq, Bool.true_eq_false, iff_false]
   rintro (h | ⟨_, h⟩)
   ·exact absurd h (by simp)
   ·cases b <;> simp [Op.bytesLess] at h
 | cons z a ih =>
  cases b with
  | nil => simp [Op.bytesLess]
  | cons y b =>
   simp only [List.cons_append, Op.bytesLess, Bool.or_eq_true, Bool.and_eq_true, decide_eq_true_eq, beq_iff_eq, Bool.or_eq_false_iff, Bool.and_eq_false_iff, decide_eq_false_iff_not, beq_eq_false_iff_ne, ih]
   constructor
   ·rintro (h | ⟨rfl, h⟩)
    ·exact ⟨UInt8.not_lt.2 (UInt8.le_of_lt h), .inl (fun e => by subst e; exact absurd h (UInt8.lt_irrefl _))⟩
    ·exact ⟨UInt8.lt_irrefl _, .inr h⟩
   ·rintro ⟨h1, h2⟩
    rcases h2 with h2 | h2
    ·exact .inl (UInt8.lt_of_le_of_ne (UInt8.not_lt.1 h1) (fun e => h2 e.symm))
    ·by_cases e : y = z
     ·exact .inr ⟨e, h2⟩
     ·exact .inl (UInt8.lt_of_le_of_ne (UInt8.not_lt.1 h1) e)
theorem point_has {k x : Str} (hk : k.b.size < 140737488355328) : (Span.has ⟨k, k.next, false⟩ x) = decide (x = k) := by
 rw [Bool.eq_iff_iff]
 simp only [Span.has, Bool.false_or, Bool.and_eq_true, Bool.not_eq_true', decide_eq_true_eq]
 rw [next_lt hk]
 constructor
 ·rintro ⟨h1, h2⟩; exact Str.lt_total h1 h2
 ·rintro rfl; exact ⟨Str.lt_irrefl _, Str.lt_irrefl _⟩
theorem getN_take {l : List Pair} {m : Msg} (hk : m.key.b.size < 140737488355328) (h1 : 1 ≤ m.kind) (h4 : m.kind ≤ 4) (k : Str) : getN (takeN l m) k = (m.on k).apply (getN l k) := by
 unfold takeN
 by_cases h : m.kind = 4
 ·rw [if_pos h, getN_filter (fun x => !m.span.has x)]
  unfold Msg.on
  cases hs : m.span.has k
  ·simp [Eff.zero_apply]
  ·simp [h, Eff.apply]
 ·rw [if_neg h, getN_with]
  have hsp : ∀ x, m.span.has x = decide (x = m.key) := fun x => by rw [Msg.span, if_neg h]; exact point_has hk
  by_cases e : k = m.key
  ·subst e; simp
  ·rw [if_neg e, Msg.on, hsp k]
   simp [e, Eff.zero_apply]
theorem getN_fold {k : Str} : ∀ {ms : List Msg} {l : List Pair}, (∀ m ∈ ms, m.key.b.size < 140737488355328 ∧ 1 ≤ m.kind ∧ m.kind ≤ 4) → getN (foldN l ms) k = (onsN ms k).apply (getN l k) := by
 intro ms
 suffices ∀ l : List Pair, (∀ m ∈ ms, m.key.b.size < 140737488355328 ∧ 1 ≤ m.kind ∧ m.kind ≤ 4) → getN (foldN l ms) k = ms.foldl (fun o m => (m.on k).apply o) (getN l k) from
  fun {l} h => by rw [onsN_apply]; exact this l h
 induction ms with
 | nil => intro l _; rfl
 | cons m ms ih =>
  intro l h
  obtain ⟨h1, h2, h3⟩ := h m (by simp)
  rw [foldN, List.foldl_cons, List.foldl_cons, ← getN_take h1 h2 h3]
  exact ih _ (fun m hm => h m (by simp [hm]))
def Srt (l : List Pair) : Prop := l.Pairwise fun a b => a.key.lt b.key = true
theorem Srt.lt {l : List Pair} (h : Srt l) {i j : Nat} (hij : i < j) (hj : j < l.length) : (l[i]'om9).key.lt l[j].key = true :=
 List.pairwise_iff_getElem.1 h i j om9 hj hij
theorem Srt.of_step {l : List Pair} (h : ∀ i (h : i < l.length), 0 < i → (l[i - 1]'om9).key.lt l[i].key = true) : Srt l := by
 refine List.pairwise_iff_getElem.2 fun i j hi hj hij => ?_
 induction j with
 | zero => omega
 | succ j ih =>
  have h1 := h (j + 1) hj om9
  simp only [Nat.add_sub_cancel] at h1
  by_cases e : i = j
  ·subst e; exact h1
  ·exact Str.lt_trans (ih om9 om9) h1
def Fits (p : Pair) : Prop := p.key.b.size ≤ 16 ∧ p.val.b.size ≤ 16
theorem pairsR_iff {l : List Pair} : PairsR l ↔ (∀ p ∈ l, Fits p) ∧ Srt l := by
 constructor
 ·intro h
  refine ⟨fun p hp => ?_, Srt.of_step fun i hi h0 => (h i hi).2 h0⟩
  obtain ⟨i, hi, rfl⟩ := List.getElem_of_mem hp
  exact (h i hi).1
 ·rintro ⟨h1, h2⟩ i hi
  exact ⟨h1 _ (List.getElem_mem hi), fun h0 => h2.lt om9 hi⟩
def fndN (l : List Pair) (k : Str) : Nat := (l.filter fun p => p.key.lt k).length
theorem fndN_le (l : List Pair) (k : Str) : fndN l k ≤ l.length := List.length_filter_le _ _
theorem fnd_split {l : List Pair} {k : Str} {i : Nat} (hi : i ≤ l.length) (h1 : ∀ j (h : j < l.length), j < i → l[j].key.lt k = true) (h2 : ∀ j (h : j < l.length), i ≤ j → l[j].key.lt k = false) :
  (l.filter fun p => p.key.lt k) = l.take i := by
 have e : l = l.take i ++ l.drop i := (List.take_append_drop i l).symm
 rw [show (l.filter fun p => p.key.lt k) = (l.take i ++ l.drop i).filter (fun p => p.key.lt k) from by rw [← e], List.filter_append]
 have f1 : (l.take i).filter (fun p => p.key.lt k) = l.take i := by
  rw [List.filter_eq_self]
  intro a ha
  obtain ⟨j, hj, rfl⟩ := List.getElem_of_mem ha
  simp only [List.length_take] at hj
  rw [List.getElem_take, h1 j om9 om9]
 have f2 : (l.drop i).filter (fun p => p.key.lt k) = [] := by
  rw [List.filter_eq_nil_iff]
  intro a ha
  obtain ⟨j, hj, rfl⟩ := List.getElem_of_mem ha
  simp only [List.length_drop] at hj
  rw [List.getElem_drop, h2 (i + j) om9 om9]; simp
 rw [f1, f2, List.append_nil]
theorem fnd_eq {l : List Pair} {k : Str} {i : Nat} (hi : i ≤ l.length) (h1 : ∀ j (h : j < l.length), j < i → l[j].key.lt k = true) (h2 : ∀ j (h : j < l.length), i ≤ j → l[j].key.lt k = false) : fndN l k = i := by
 unfold fndN; rw [fnd_split hi h1 h2]; simp [hi]
theorem Srt.below {l : List Pair} (hr : Srt l) {m : Nat} (hm : m < l.length) {k : Str} (h : l[m].key.lt k = true) (q : Nat) (hq : q < l.length) (hqm : q < m + 1) : l[q].key.lt k = true := by
 by_cases e : q = m
 ·subst e; exact h
 ·exact Str.lt_trans (hr.lt om9 hm) h
theorem Srt.above {l : List Pair} (hr : Srt l) {m : Nat} (hm : m < l.length) {k : Str} (h : l[m].key.lt k = false) (q : Nat) (hq : q < l.length) (hqm : m ≤ q) : l[q].key.lt k = false := by
 by_cases e : q = m
 ·subst e; exact h
 ·cases h1 : l[q].key.lt k
  ·rfl
  ·rw [Str.lt_trans (hr.lt om9 hq) h1] at h; cases h
theorem Srt.fnd {l : List Pair} (hr : Srt l) (k : Str) : (∀ j (h : j < l.length), j < fndN l k → l[j].key.lt k = true) ∧ (∀ j (h : j < l.length), fndN l k ≤ j → l[j].key.lt k = false) := by
 suffices ∃ i, i ≤ l.length ∧ (∀ j (h : j < l.length), j < i → l[j].key.lt k = true) ∧ (∀ j (h : j < l.length), i ≤ j → l[j].key.lt k = false) by
  obtain ⟨i, h0, h1, h2⟩ := this
  rw [fnd_eq h0 h1 h2]; exact ⟨h1, h2⟩
 induction l with
 | nil => exact ⟨0, by simp, fun j h => by simp at h, fun j h => by simp at h⟩
 | cons p l ih =>
  have hr' : Srt l := (List.pairwise_cons.1 hr).2
  cases hp : p.key.lt k
  ·exact ⟨0, by simp, fun j _ h => by omega, fun j h _ => hr.above (m := 0) (by simp) (by simpa using hp) j h om9⟩
  ·obtain ⟨i, h0, h1, h2⟩ := ih hr'
   refine ⟨i + 1, by simp; omega, fun j h hj => ?_, fun j h hj => ?_⟩
   ·cases j with
    | zero => simpa using hp
    | succ j => simpa using h1 j (by simpa using h) om9
   ·cases j with
    | zero => omega
    | succ j => simpa using h2 j (by simpa using h) om9
theorem Srt.get {l : List Pair} (hr : Srt l) {i : Nat} (hi : i < l.length) : getN l l[i].key = some l[i].val :=
 getN_at hi fun j hj hji e => by have := hr.lt hji hi; rw [e, Str.lt_irrefl] at this; cases this
theorem Srt.has {l : List Pair} (hr : Srt l) (k : Str) : (getN l k).isSome = decide (∃ h : fndN l k < l.length, l[fndN l k].key = k) := by
 rw [Bool.eq_iff_iff, decide_eq_true_iff]
 constructor
 ·intro h
  have hf := hr.fnd k
  have hex : ∃ j, ∃ hj : j < l.length, l[j].key = k := by
   refine Decidable.byContradiction fun hc => ?_
   rw [getN_no (fun j hj e => hc ⟨j, hj, e⟩)] at h
   cases h
  obtain ⟨j, hj, e⟩ := hex
  have h1 : fndN l k ≤ j := by
   rcases Nat.lt_or_ge j (fndN l k) with h2 | h2
   ·have := hf.1 j hj h2; rw [e, Str.lt_irrefl] at this; cases this
   ·exact h2
  by_cases h3 : fndN l k = j
  ·exact ⟨om9, by simp only [h3]; exact e⟩
  ·have h4 := hr.lt (i := fndN l k) (j := j) om9 hj
   rw [e, hf.2 _ om9 (Nat.le_refl _)] at h4; cases h4
 ·rintro ⟨h, e⟩
  have := hr.get h
  rw [e] at this
  rw [this]; rfl
theorem Srt.val {l : List Pair} (hr : Srt l) {k : Str} (h : fndN l k < l.length) (e : l[fndN l k].key = k) : getN l k = some l[fndN l k].val := by
 have := hr.get h; rwa [e] at this
theorem Srt.front {l : List Pair} (hr : Srt l) (k : Str) : (l.filter fun p => p.key.lt k) = l.take (fndN l k) := fnd_split (fndN_le l k) (hr.fnd k).1 (hr.fnd k).2
theorem Srt.back {l : List Pair} (hr : Srt l) {k : Str} {i : Nat} (hi : i ≤ l.length) (h1 : ∀ j (h : j < l.length), j < i → k.lt l[j].key = false) (h2 : ∀ j (h : j < l.length), i ≤ j → k.lt l[j].key = true) : (l.filter fun p => k.lt p.key) = l.drop i := by
 have e : l = l.take i ++ l.drop i := (List.take_append_drop i l).symm
 rw [show (l.filter fun p => k.lt p.key) = (l.take i ++ l.drop i).filter (fun p => k.lt p.key) from by rw [← e], List.filter_append]
 have f1 : (l.take i).filter (fun p => k.lt p.key) = [] := by
  rw [List.filter_eq_nil_iff]
  intro a ha
  obtain ⟨j, hj, rfl⟩ := List.getElem_of_mem ha
  simp only [List.length_take] at hj
  rw [List.getElem_take, h1 j om9 om9]; simp
 have f2 : (l.drop i).filter (fun p => k.lt p.key) = l.drop i := by
  rw [List.filter_eq_self]
  intro a ha
  obtain ⟨j, hj, rfl⟩ := List.getElem_of_mem ha
  simp only [List.length_drop] at hj
  rw [List.getElem_drop, h2 (i + j) om9 om9]
 rw [f1, f2, List.nil_append]
theorem Srt.back_no {l : List Pair} (hr : Srt l) {k : Str} (h : (getN l k).isSome = false) : (l.filter fun p => k.lt p.key) = l.drop (fndN l k) := by
 rw [hr.has k] at h
 have h := of_decide_eq_false h
 have hf := hr.fnd k
 refine hr.back (fndN_le l k) (fun j hj hji => Str.lt_asymm (hf.1 j hj hji)) (fun j hj hij => ?_)
 cases h1 : k.lt l[j].key
 ·have h2 : l[j].key = k := Str.lt_total (hf.2 j hj hij) h1
  by_cases e : j = fndN l k
  ·subst e; exact absurd ⟨hj, h2⟩ h
  ·have h3 := hr.lt (i := fndN l k) (j := j) om9 hj
   rw [h2, hf.2 _ om9 (Nat.le_refl _)] at h3; cases h3
 ·rfl
theorem Srt.back_yes {l : List Pair} (hr : Srt l) {k : Str} (hi : fndN l k < l.length) (e : l[fndN l k].key = k) : (l.filter fun p => k.lt p.key) = l.drop (fndN l k + 1) := by
 have hf := hr.fnd k
 refine hr.back om9 (fun j hj hji => ?_) (fun j hj hij => ?_)
 ·by_cases e2 : j = fndN l k
  ·subst e2; rw [e]; exact Str.lt_irrefl _
  ·exact Str.lt_asymm (hf.1 j hj om9)
 ·have h3 := hr.lt (i := fndN l k) (j := j) om9 hj
  rwa [e] at h3
theorem Srt.filter {l : List Pair} (h : Srt l) (p : Pair → Bool) : Srt (l.filter p) := List.Pairwise.filter p h
theorem Srt.with {l : List Pair} (h : Srt l) (k : Str) (e : Eff) : Srt (withN l k e) := by
 unfold withN Srt
 have ha : ∀ a ∈ l.filter (fun p => p.key.lt k), a.key.lt k = true := fun a ha => (List.mem_filter.1 ha).2
 have hb : ∀ b ∈ l.filter (fun p => k.lt p.key), k.lt b.key = true := fun b hb => (List.mem_filter.1 hb).2
 have hm : ∀ m ∈ (match e.apply (getN l k) with | some v => [(⟨k, v⟩ : Pair)] | none => []), m.key = k := fun m hm => by
  cases h1 : e.apply (getN l k) with
  | none => rw [h1] at hm; cases hm
  | some v => rw [h1] at hm; simp only [List.mem_singleton] at hm; rw [hm]
 refine List.pairwise_append.2 ⟨List.pairwise_append.2 ⟨h.filter _, ?_, fun a h1 m h2 => by rw [hm m h2]; exact ha a h1⟩, h.filter _, fun a h1 b h2 => ?_⟩
 ·cases e.apply (getN l k) <;> simp
 ·rcases List.mem_append.1 h1 with h1 | h1
  ·exact Str.lt_trans (ha a h1) (hb b h2)
  ·rw [hm a h1]; exact hb b h2
theorem getN_mem {l : List Pair} {k v : Str} (h : getN l k = some v) : ⟨k, v⟩ ∈ l := by
 unfold getN at h
 obtain ⟨p, hp, e⟩ := Option.map_eq_some_iff.1 h
 have h1 := List.mem_of_find?_eq_some hp
 have h2 := List.find?_some hp
 have h3 : p.key = k := of_decide_eq_true h2
 subst h3; subst e; exact h1
theorem fits_with {l : List Pair} {k : Str} {e : Eff} (h : ∀ p ∈ l, Fits p) (hk : k.b.size ≤ 16) (he : e.val.b.size ≤ 16) : ∀ p ∈ withN l k e, Fits p := by
 intro p hp
 unfold withN at hp
 rcases List.mem_append.1 hp with hp | hp
 ·rcases List.mem_append.1 hp with hp | hp
  ·exact h p (List.mem_filter.1 hp).1
  ·cases hv : e.apply (getN l k) with
   | none => rw [hv] at hp; cases hp
   | some v =>
    rw [hv] at hp
    simp only [List.mem_singleton] at hp
    subst hp
    refine ⟨hk, ?_⟩
    show v.b.size ≤ 16
    unfold Eff.apply at hv
    split at hv
    ·cases hv; exact he
    ·split at hv
     ·cases hv
     ·split at hv
      ·cases hv; exact Str.add_size _ _
      ·exact (h _ (getN_mem hv)).2
 ·exact h p (List.mem_filter.1 hp).1
theorem on_val {m : Msg} (k : Str) (h : m.val.b.size ≤ 16) : (m.on k).val.b.size ≤ 16 := by
 unfold Msg.on
 split
 ·show (ByteArray.mk #[]).size ≤ 16; decide
 ·split
  ·show (ByteArray.mk #[]).size ≤ 16; decide
  ·exact h
theorem PairsR.with {l : List Pair} {k : Str} {e : Eff} (h : PairsR l) (hk : k.b.size ≤ 16) (he : e.val.b.size ≤ 16) : PairsR (withN l k e) := by
 obtain ⟨h1, h2⟩ := pairsR_iff.1 h
 exact pairsR_iff.2 ⟨fits_with h1 hk he, h2.with k e⟩
theorem PairsR.filter {l : List Pair} (h : PairsR l) (p : Pair → Bool) : PairsR (l.filter p) := by
 obtain ⟨h1, h2⟩ := pairsR_iff.1 h
 exact pairsR_iff.2 ⟨fun a ha => h1 a (List.mem_filter.1 ha).1, h2.filter p⟩
theorem PairsR.srt {l : List Pair} (h : PairsR l) : Srt l := (pairsR_iff.1 h).2
theorem Srt.with_len {l : List Pair} (hr : Srt l) (k : Str) (e : Eff) : (withN l k e).length ≤ l.length + 1 := by
 unfold withN
 rw [hr.front]
 cases h : (getN l k).isSome
 ·rw [hr.back_no h]
  cases e.apply (getN l k) <;> simp <;> omega
 ·rw [hr.has k] at h
  obtain ⟨h1, h2⟩ := of_decide_eq_true h
  rw [hr.back_yes h1 h2]
  cases e.apply (getN l k) <;> simp <;> omega
theorem PairsR.take_len {l : List Pair} (h : PairsR l) (m : Msg) : (takeN l m).length ≤ l.length + 1 := by
 unfold takeN
 split
 ·have := List.length_filter_le (fun p : Pair => !m.span.has p.key) l; omega
 ·exact h.srt.with_len _ _
theorem filt_t {α : Type} {p : α → Bool} {l : List α} {i : Nat} (hi : i < l.length) (h : p l[i] = true) : (l.take (i + 1)).filter p = (l.take i).filter p ++ [l[i]] := by
 rw [List.take_succ_eq_append_getElem hi, List.filter_append]; simp [h]
theorem filt_f {α : Type} {p : α → Bool} {l : List α} {i : Nat} (hi : i < l.length) (h : p l[i] = false) : (l.take (i + 1)).filter p = (l.take i).filter p := by
 rw [List.take_succ_eq_append_getElem hi, List.filter_append]; simp [h]
theorem filt_le {α : Type} (p : α → Bool) (l : List α) (i : Nat) : ((l.take i).filter p).length ≤ l.length := by
 have := List.length_filter_le p (l.take i); rw [List.length_take] at this; omega
def midN (o : Option Str) (k : Str) : List Pair := match o with | some v => [⟨k, v⟩] | none => []
theorem midN_le (o : Option Str) (k : Str) : (midN o k).length ≤ 1 := by cases o <;> simp [midN]
theorem midN_some {o : Option Str} {k : Str} (h : o.isSome = true) : midN o k = [⟨k, o.getD Str.nil⟩] := by cases o <;> simp_all [midN]
theorem midN_none {o : Option Str} {k : Str} (h : o.isSome = false) : midN o k = [] := by cases o <;> simp_all [midN]
theorem withN_mid (l : List Pair) (k : Str) (e : Eff) : withN l k e = (l.filter fun p => p.key.lt k) ++ midN (e.apply (getN l k)) k ++ (l.filter fun p => k.lt p.key) := by
 unfold withN midN; cases e.apply (getN l k) <;> rfl
theorem optS_get (o : Option Str) : optS o.isSome (o.getD Str.nil) = o := by cases o <;> rfl
theorem foldN_succ {l : List Pair} {ms : List Msg} {k : Nat} (h : k < ms.length) : foldN l (ms.take (k + 1)) = takeN (foldN l (ms.take k)) ms[k] := by
 rw [List.take_succ_eq_append_getElem h, foldN, List.foldl_append]; rfl
theorem PairsR.val {l : List Pair} (h : PairsR l) (k : Str) : ((getN l k).getD Str.nil).b.size ≤ 16 := by
 cases hg : getN l k with
 | none => show (ByteArray.mk #[]).size ≤ _; decide
 | some v => exact ((pairsR_iff.1 h).1 _ (getN_mem hg)).2
theorem MsgsR.kinds {l : List Msg} (h : MsgsR l) : ∀ m ∈ l, 1 ≤ m.kind ∧ m.kind ≤ 4 := fun m hm => by
 obtain ⟨i, hi, rfl⟩ := List.getElem_of_mem hm
 have h1 := (h i hi).1
 unfold Msg.R at h1
 grind
def cmpN (a b : Str) : Int := if a.lt b = true then -1 else if b.lt a = true then 1 else 0
theorem cmpN_neg {a b : Str} : cmpN a b < 0 ↔ a.lt b = true := by
 unfold cmpN; split
 ·simp_all
 ·split <;> simp_all
theorem cmpN_zero {a b : Str} : cmpN a b = 0 ↔ a = b := by
 unfold cmpN; split
 ·rename_i h; simp only [Int.reduceNeg, Int.reduceEq, false_iff]; rintro rfl; rw [Str.lt_irrefl] at h; cases h
 ·rename_i h; split
  ·rename_i h2; simp only [Int.reduceEq, false_iff]; rintro rfl; rw [Str.lt_irrefl] at h2; cases h2
  ·rename_i h2; simp only [true_iff]; exact Str.lt_total (by simpa using h) (by simpa using h2)
theorem cmpN_zero_d {a b : Str} : decide (cmpN a b = 0) = decide (a = b) := decide_eq_decide.2 cmpN_zero
theorem then_val {a b : Eff} (ha : a.val.b.size ≤ 16) (hb : b.val.b.size ≤ 16) : (a.then b).val.b.size ≤ 16 := by
 unfold Eff.then
 split
 ·exact ha
 ·split
  ·exact hb
  ·exact Str.add_size _ _
theorem onsN_val (l : List Msg) (k : Str) (h : ∀ m ∈ l, m.val.b.size ≤ 16) : (onsN l k).val.b.size ≤ 16 := by
 suffices ∀ (l : List Msg) (e : Eff), e.val.b.size ≤ 16 → (∀ m ∈ l, m.val.b.size ≤ 16) → (l.foldl (fun e m => e.then (m.on k)) e).val.b.size ≤ 16 from
  this l _ (by show (ByteArray.mk #[]).size ≤ 16; decide) h
 intro l
 induction l with
 | nil => exact fun e he _ => he
 | cons m l ih => exact fun e he h => ih _ (then_val he (on_val k (h m (by simp)))) (fun m h2 => h m (by simp [h2]))
theorem cmpN_nn {a b : Str} (h : ¬ cmpN a b < 0) : a.lt b = false := by
 cases h1 : a.lt b
 ·rfl
 ·exact absurd (cmpN_neg.2 h1) h
theorem scan_full {l : List Pair} {s : Span} {n : Int} {i : Nat} (h : n ≤ ((scanN (l.take i) s n).length : Nat)) : scanN l s n = scanN (l.take i) s n := by
 unfold scanN at h ⊢
 have e : l = l.take i ++ l.drop i := (List.take_append_drop i l).symm
 rw [show (l.filter fun p => s.has p.key) = (l.take i ++ l.drop i).filter (fun p => s.has p.key) from by rw [← e], List.filter_append, List.take_append_of_le_length]
 rw [List.length_take] at h; omega
theorem scan_succ_t {l : List Pair} {s : Span} {n : Int} {i : Nat} (hi : i < l.length) (h : ((scanN (l.take i) s n).length : Nat) < n) (hs : s.has l[i].key = true) : scanN (l.take (i + 1)) s n = scanN (l.take i) s n ++ [l[i]] := by
 unfold scanN at h ⊢
 rw [List.length_take] at h
 rw [List.take_succ_eq_append_getElem hi, List.filter_append]
 have e : List.filter (fun p : Pair => s.has p.key) [l[i]] = [l[i]] := by simp [hs]
 rw [e, List.take_append, List.take_of_length_le (l := List.filter _ _) om9, List.take_of_length_le (l := [l[i]]) (by simp; omega)]
theorem scan_succ_f {l : List Pair} {s : Span} {n : Int} {i : Nat} (hi : i < l.length) (hs : s.has l[i].key = false) : scanN (l.take (i + 1)) s n = scanN (l.take i) s n := by
 unfold scanN
 rw [List.take_succ_eq_append_getElem hi, List.filter_append]
 have e : List.filter (fun p : Pair => s.has p.key) [l[i]] = [] := by simp [hs]
 rw [e, List.append_nil]
theorem scan_len {l : List Pair} {s : Span} {n : Int} : (scanN l s n).length ≤ l.length := by
 unfold scanN; rw [List.length_take]; have := List.length_filter_le (fun p : Pair => s.has p.key) l; omega
theorem scan_full' {l : List Pair} {s : Span} {n : Int} {i : Nat} (hi : i < l.length) (h : ¬ ((scanN (l.take i) s n).length : Nat) < n) : scanN (l.take (i + 1)) s n = scanN (l.take i) s n := by
 have e : l.take i = (l.take (i + 1)).take i := by rw [List.take_take]; congr 1; omega
 conv => rhs; rw [e]
 exact scan_full (l := l.take (i + 1)) (i := i) (by rw [← e]; omega)
end Go.Fw
namespace Go.Fw
section
variable {α : Type} [Inhabited α]
def nth (l : List α) (k : Nat) : α := l.getD k default
theorem nth_lt {l : List α} {k : Nat} (h : k < l.length) : nth l k = l[k] := by simp [nth, List.getD, List.getElem?_eq_getElem h]
def swapL (l : List α) (i j : Nat) : List α := (l.set i (nth l j)).set j (nth l i)
theorem swapL_length (l : List α) (i j : Nat) : (swapL l i j).length = l.length := by simp [swapL]
theorem nth_set {l : List α} {i k : Nat} {a : α} (h : i < l.length) : nth (l.set i a) k = if k = i then a else nth l k := by
 simp only [nth, List.getD, List.getElem?_set]
 by_cases e : i = k
 ·subst e; simp [h]
 ·rw [if_neg e, if_neg (fun x => e x.symm)]
theorem nth_swap {l : List α} {i j : Nat} (hi : i < l.length) (hj : j < l.length) (k : Nat) : nth (swapL l i j) k = if k = j then nth l i else if k = i then nth l j else nth l k := by
 rw [swapL, nth_set (by simpa using hj), nth_set hi]
theorem swapL_perm {l : List α} {i j : Nat} (hi : i < l.length) (hj : j < l.length) : (swapL l i j).Perm l := by
 have h := Array.swap_perm (xs := l.toArray) (i := i) (j := j) (by simpa using hi) (by simpa using hj)
 rw [Array.perm_iff_toList_perm] at h
 simpa [swapL, nth_lt hi, nth_lt hj, Array.swap_def] using h
structure LO (lt : α → α → Bool) : Prop where
 asymm : ∀ {a b}, lt a b = true → lt b a = false
 trans : ∀ {a b c}, lt b a = false → lt c b = false → lt c a = false
variable {lt : α → α → Bool}
theorem LO.irrefl (h : LO lt) (a : α) : lt a a = false := by
 cases e : lt a a
 ·rfl
 ·exact e.symm.trans (h.asymm e)
def HeapF (lt : α → α → Bool) (l : List α) (n s : Nat) : Prop := ∀ c, 0 < c → c < n → s ≤ (c - 1) / 2 → lt (nth l c) (nth l ((c - 1) / 2)) = false
abbrev Heap (lt : α → α → Bool) (l : List α) : Prop := HeapF lt l l.length 0
def upL (lt : α → α → Bool) : Nat → List α → Nat → List α
 | 0, l, _ => l
 | f + 1, l, j => if (j - 1) / 2 = j ∨ lt (nth l j) (nth l ((j - 1) / 2)) = false then l else upL lt f (swapL l ((j - 1) / 2) j) ((j - 1) / 2)
theorem upL_perm : ∀ (f : Nat) (l : List α) (j : Nat), j < l.length → (upL lt f l j).Perm l
 | 0, _, _, _ => List.Perm.refl _
 | f + 1, l, j, h => by
  unfold upL; split
  ·exact List.Perm.refl _
  ·exact (upL_perm f _ _ (by rw [swapL_length]; omega)).trans (swapL_perm om9 h)
def UpI (lt : α → α → Bool) (l : List α) (n j : Nat) : Prop :=
 (∀ c, 0 < c → c < n → c ≠ j → lt (nth l c) (nth l ((c - 1) / 2)) = false) ∧ (∀ c, 0 < c → c < n → (c - 1) / 2 = j → 0 < j → lt (nth l c) (nth l ((j - 1) / 2)) = false)
theorem upL_heap (ho : LO lt) : ∀ (f : Nat) (l : List α) (j n : Nat), UpI lt l n j → j < n → n ≤ l.length → j ≤ f → HeapF lt (upL lt f l j) n 0
 | 0, l, j, n, h, hj, hn, hf => fun c h0 hc _ => h.1 c h0 hc om9
 | f + 1, l, j, n, h, hj, hn, hf => by
  unfold upL
  split
  ·rename_i hs
   intro c h0 hc _
   by_cases e : c = j
   ·subst e
    rcases hs with hs | hs
    ·omega
    ·exact hs
   ·exact h.1 c h0 hc e
  ·rename_i hs
   have hs1 : ¬ (j - 1) / 2 = j := fun x => hs (.inl x)
   have hs2 : lt (nth l j) (nth l ((j - 1) / 2)) = true := by cases e : lt (nth l j) (nth l ((j - 1) / 2)) with | false => exact absurd (.inr e) hs | true => rfl
   have hj0 : 0 < j := om9
   have hp : (j - 1) / 2 < j := om9
   refine upL_heap ho f _ _ n ⟨fun c h0 hc hne => ?_, fun c h0 hc hpc hp0 => ?_⟩ om9 (by rw [swapL_length]; exact hn) om9
   ·rw [nth_swap om9 om9, nth_swap om9 om9]
    by_cases e : c = j
    ·subst e
     rw [if_pos rfl, if_neg om9, if_pos rfl]
     exact ho.asymm hs2
    ·rw [if_neg e, if_neg hne]
     by_cases e1 : (c - 1) / 2 = j
     ·rw [if_pos e1]; exact h.2 c h0 hc e1 hj0
     ·rw [if_neg e1]
      by_cases e2 : (c - 1) / 2 = (j - 1) / 2
      ·rw [if_pos e2]
       have := h.1 c h0 hc e
       rw [e2] at this
       exact ho.trans (ho.asymm hs2) this
      ·rw [if_neg e2]; exact h.1 c h0 hc e
   ·have hg := h.1 ((j - 1) / 2) hp0 om9 om9
    rw [nth_swap om9 om9, nth_swap om9 om9]
    rw [if_neg (by omega : ¬ ((j - 1) / 2 - 1) / 2 = j), if_neg (by omega : ¬ ((j - 1) / 2 - 1) / 2 = (j - 1) / 2)]
    by_cases e : c = j
    ·rw [if_pos e]; exact hg
    ·rw [if_neg e, if_neg om9]
     have := h.1 c h0 hc e
     rw [hpc] at this
     exact ho.trans hg this
def kidJ (lt : α → α → Bool) (l : List α) (i n : Nat) : Nat := if 2 * i + 2 < n ∧ lt (nth l (2 * i + 2)) (nth l (2 * i + 1)) = true then 2 * i + 2 else 2 * i + 1
def downL (lt : α → α → Bool) : Nat → List α → Nat → Nat → List α
 | 0, l, _, _ => l
 | f + 1, l, i, n => if n ≤ 2 * i + 1 then l else if lt (nth l (kidJ lt l i n)) (nth l i) = false then l else downL lt f (swapL l i (kidJ lt l i n)) (kidJ lt l i n) n
theorem kidJ_lt {l : List α} {i n : Nat} (h : ¬ n ≤ 2 * i + 1) : kidJ lt l i n < n ∧ i < kidJ lt l i n ∧ (kidJ lt l i n - 1) / 2 = i ∧ kidJ lt l i n ≤ 2 * i + 2 ∧ 2 * i + 1 ≤ kidJ lt l i n := by
 unfold kidJ; split <;> omega
theorem downL_length : ∀ (f : Nat) (l : List α) (i n : Nat), (downL lt f l i n).length = l.length
 | 0, _, _, _ => rfl
 | f + 1, l, i, n => by
  unfold downL; split
  ·rfl
  ·split
   ·rfl
   ·rw [downL_length f, swapL_length]
theorem downL_perm : ∀ (f : Nat) (l : List α) (i n : Nat), n ≤ l.length → (downL lt f l i n).Perm l
 | 0, _, _, _, _ => List.Perm.refl _
 | f + 1, l, i, n, h => by
  unfold downL; split
  ·exact List.Perm.refl _
  ·rename_i h1
   split
   ·exact List.Perm.refl _
   ·have := kidJ_lt (lt := lt) (l := l) h1
    exact (downL_perm f _ _ n (by rw [swapL_length]; exact h)).trans (swapL_perm om9 om9)
theorem downL_above : ∀ (f : Nat) (l : List α) (i n k : Nat), n ≤ l.length → n ≤ k → nth (downL lt f l i n) k = nth l k
 | 0, _, _, _, _, _, _ => rfl
 | f + 1, l, i, n, k, h, hk => by
  unfold downL; split
  ·rfl
  ·rename_i h1
   split
   ·rfl
   ·have := kidJ_lt (lt := lt) (l := l) h1
    rw [downL_above f _ _ n k (by rw [swapL_length]; exact h) hk, nth_swap om9 om9, if_neg om9, if_neg om9]
def DownI (lt : α → α → Bool) (l : List α) (n s i : Nat) : Prop :=
 (∀ c, 0 < c → c < n → s ≤ (c - 1) / 2 → (c - 1) / 2 ≠ i → lt (nth l c) (nth l ((c - 1) / 2)) = false) ∧ (∀ c, 0 < c → c < n → (c - 1) / 2 = i → 0 < i → s ≤ (i - 1) / 2 → lt (nth l c) (nth l ((i - 1) / 2)) = false)
theorem downL_heap (ho : LO lt) : ∀ (f : Nat) (l : List α) (i n s : Nat), DownI lt l n s i → s ≤ i → n ≤ l.length → n ≤ i + f → HeapF lt (downL lt f l i n) n s
 | 0, l, i, n, s, h, hs, hn, hf => fun c h0 hc h1 => h.1 c h0 hc h1 om9
 | f + 1, l, i, n, s, h, hs, hn, hf => by
  unfold downL
  split
  ·exact fun c h0 hc h1 => h.1 c h0 hc h1 om9
  ·rename_i h1
   obtain ⟨k1, k2, k3, k4, k5⟩ := kidJ_lt (lt := lt) (l := l) h1
   have hk : ∀ c, 0 < c → c < n → (c - 1) / 2 = i → lt (nth l c) (nth l (kidJ lt l i n)) = false := fun c h0 hc hp => by
    have hc2 : c = 2 * i + 1 ∨ c = 2 * i + 2 := om9
    unfold kidJ
    by_cases hb : 2 * i + 2 < n ∧ lt (nth l (2 * i + 2)) (nth l (2 * i + 1)) = true
    ·rw [if_pos hb]
     rcases hc2 with rfl | rfl
     ·exact ho.asymm hb.2
     ·exact ho.irrefl _
    ·rw [if_neg hb]
     rcases hc2 with rfl | rfl
     ·exact ho.irrefl _
     ·cases e : lt (nth l (2 * i + 2)) (nth l (2 * i + 1)) with
      | false => rfl
      | true => exact absurd ⟨hc, e⟩ hb
   split
   ·rename_i h2
    intro c h0 hc h3
    by_cases e : (c - 1) / 2 = i
    ·rw [e]; exact ho.trans h2 (hk c h0 hc e)
    ·exact h.1 c h0 hc h3 e
   ·rename_i h2
    have h2 : lt (nth l (kidJ lt l i n)) (nth l i) = true := by cases e : lt (nth l (kidJ lt l i n)) (nth l i) with | false => exact absurd e h2 | true => rfl
    generalize hj : kidJ lt l i n = j at *
    refine downL_heap ho f _ j n s ⟨fun c h0 hc h3 h4 => ?_, fun c h0 hc hp hj0 h3 => ?_⟩ om9 (by rw [swapL_length]; exact hn) om9
    ·rw [nth_swap om9 om9, nth_swap om9 om9, if_neg h4]
     by_cases e : (c - 1) / 2 = i
     ·rw [if_pos e]
      by_cases e2 : c = j
      ·rw [if_pos e2]; exact ho.asymm h2
      ·rw [if_neg e2, if_neg om9]; exact hk c h0 hc e
     ·rw [if_neg e]
      have hcj : c ≠ j := fun x => e (by rw [x]; exact k3)
      rw [if_neg hcj]
      by_cases e3 : c = i
      ·rw [if_pos e3]
       subst e3
       exact h.2 j om9 k1 k3 h0 h3
      ·rw [if_neg e3]; exact h.1 c h0 hc h3 e
    ·rw [nth_swap om9 om9, nth_swap om9 om9, if_neg om9, if_neg om9, k3, if_neg om9, if_pos rfl]
     have := h.1 c h0 hc om9 om9
     rwa [hp] at this
theorem heap_min (ho : LO lt) {l : List α} {n : Nat} (h : HeapF lt l n 0) : ∀ (c : Nat), c < n → lt (nth l c) (nth l 0) = false
 | 0, _ => ho.irrefl _
 | c + 1, hc => by
  have h1 := h (c + 1) om9 hc om9
  have h2 := heap_min ho h ((c + 1 - 1) / 2) om9
  exact ho.trans h2 h1
termination_by c => c
def pushL (lt : α → α → Bool) (l : List α) (x : α) : List α := upL lt l.length (l ++ [x]) l.length
def popL (lt : α → α → Bool) (l : List α) : List α := (downL lt l.length (swapL l 0 (l.length - 1)) 0 (l.length - 1)).take (l.length - 1)
theorem nth_append_l {l m : List α} {k : Nat} (h : k < l.length) : nth (l ++ m) k = nth l k := by simp [nth, List.getD, List.getElem?_append_left h]
theorem nth_take {l : List α} {n k : Nat} (h : k < n) : nth (l.take n) k = nth l k := by simp [nth, List.getD, List.getElem?_take, h]
theorem push_heap (ho : LO lt) {l : List α} (h : Heap lt l) (x : α) : Heap lt (pushL lt l x) ∧ (pushL lt l x).Perm (x :: l) := by
 have hp : (pushL lt l x).Perm (l ++ [x]) := upL_perm _ _ _ (by simp)
 refine ⟨?_, hp.trans (List.perm_append_singleton _ _)⟩
 have hl : (pushL lt l x).length = l.length + 1 := by rw [hp.length_eq]; simp
 unfold Heap
 rw [hl]
 refine upL_heap ho _ _ _ _ ⟨fun c h0 hc hne => ?_, fun c h0 hc hp hj => by omega⟩ om9 (by simp) (Nat.le_refl _)
 rw [nth_append_l om9, nth_append_l om9]
 exact h c h0 om9 om9
theorem pop_heap (ho : LO lt) {l : List α} (h : Heap lt l) (hl : 0 < l.length) : Heap lt (popL lt l) ∧ (nth l 0 :: popL lt l).Perm l ∧ (popL lt l).length = l.length - 1 := by
 have hd : (downL lt l.length (swapL l 0 (l.length - 1)) 0 (l.length - 1)).length = l.length := by rw [downL_length, swapL_length]
 have hlen : (popL lt l).length = l.length - 1 := by unfold popL; rw [List.length_take, hd]; omega
 refine ⟨?_, ?_, hlen⟩
 ·unfold Heap
  rw [hlen]
  intro c h0 hc h1
  unfold popL
  rw [nth_take hc, nth_take om9]
  refine downL_heap ho l.length _ 0 (l.length - 1) 0 ⟨fun c h0 hc _ hne => ?_, fun c _ _ _ h0 => by omega⟩ (Nat.le_refl _) (by rw [swapL_length]; omega) om9 c h0 hc h1
  rw [nth_swap om9 om9, nth_swap om9 om9, if_neg om9, if_neg om9, if_neg om9, if_neg hne]
  exact h c h0 om9 om9
 ·have hp : (downL lt l.length (swapL l 0 (l.length - 1)) 0 (l.length - 1)).Perm l :=
   (downL_perm _ _ _ _ (by rw [swapL_length]; omega)).trans (swapL_perm om9 om9)
  have hlast : nth (downL lt l.length (swapL l 0 (l.length - 1)) 0 (l.length - 1)) (l.length - 1) = nth l 0 := by
   rw [downL_above _ _ _ _ _ (by rw [swapL_length]; omega) (Nat.le_refl _), nth_swap om9 om9, if_pos rfl]
  refine List.Perm.trans ?_ hp
  generalize hm : downL lt l.length (swapL l 0 (l.length - 1)) 0 (l.length - 1) = m at *
  have e : m = m.take (l.length - 1) ++ [nth l 0] := by
   conv => lhs; rw [← List.take_append_drop (l.length - 1) m]
   congr 1
   rw [List.drop_eq_getElem_cons om9, List.drop_eq_nil_of_le om9, ← hlast, nth_lt om9]
  unfold popL
  rw [hm]
  conv => rhs; rw [e]
  exact (List.perm_append_singleton _ _).symm
end
end Go.Fw
namespace Go.Fw
open Go Go.RowKit
def eSpan : Enc Span where
 k := 3
 w := 40
 R := fun _ cs s => cs = [.string s.lo.b, .string s.hi.b, .bool s.opn]
 mono := fun _ h => h
 len := fun h => by rw [h]; rfl
 one := fun h u hu => by rw [h] at hu; simp at hu; rcases hu with rfl | rfl | rfl <;> rfl
def eEff : Enc Eff where
 k := 2
 w := 24
 R := fun _ cs e => cs = [.int .i64 e.kind, .string e.val.b] ∧ i64 e.kind
 mono := fun _ h => h
 len := fun h => by rw [h.1]; rfl
 one := fun h u hu => by rw [h.1] at hu; simp at hu; rcases hu with rfl | rfl <;> rfl
end Go.Fw
