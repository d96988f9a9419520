/- Runs of steps that ask for no choice, in one word. Nothing of the program is named here. No condition. -/
import Derived.Test.YtemoalimclnfkaaGreatQjX2
set_option linter.unusedVariables false
set_option linter.unusedSimpArgs false
set_option linter.unnecessarySimpa false
namespace Go.Fw
open Go Go.RowKit
abbrev iV (n : Int) : Value := .int .i64 n
abbrev nt9 (n : Nat) : Value := .int .i64 (n : Int)
abbrev sV (s : ByteArray) : Value := .string s
abbrev lV (a : Option Addr) (n c : Nat) : Value := .slice a n c
abbrev pt9 (b : Nat) : Value := .pointer (some ⟨b, 0, none⟩)
abbrev ce9 (T : TypeId) (L : List Value) : Obj := .cells (List.toArray L) T (0, 0)
abbrev nz9 : List Value := [.int .i64 0, .int .i64 0, .slice none 0 0, .slice none 0 0, .string ⟨#[]⟩, .bool false, .int .i64 0, .int .i64 0, .slice none 0 0, .slice none 0 0]
theorem WD.tk {E : Env} {f : Fr} {G : GH} {M Mk : MH} {ops : Array Oper} {K : Kt} {fuel : Nat} {listed : Array Bool} (i : Nat) {op : Op} {ty : TypeId} {pos : String} {aft : Array Edge} {d : Nat} {v : Value} (ho : ops[i]? = some ⟨some d, op, ty, pos, aft, none⟩) (hok : Ok E f G Mk ⟨some d, op, ty, pos, aft, none⟩ v)
    (h : WD E ops fuel (listed.setIfInBounds i true) (upd f d v) G M Mk K) (hs : Region.noSelect ops = true := by kernel_rfl) (hf : Region.free .any ops listed i = true := by kernel_rfl) (hr : (Region.ready .any ops listed).contains i = true := by kernel_rfl) (hd : Nat.blt d E.n = true := by rfl) : WD E ops (fuel + 1) listed f G M Mk K :=
  WD.take i ho rfl rfl hs hf hr hok h hd
theorem WD.n9 {E : Env} {f : Fr} {G G' : GH} {M' Mk : MH} {ops : Array Oper} {K : Kt} {fuel : Nat} {listed : Array Bool} (a : Le G G') (b : Mk.Sublist M') (h : WD E ops fuel listed f G' M' Mk K) : Le G G' ∧ Mk.Sublist M' ∧ ∃ Mk' : MH, Mk'.Sublist M' ∧ Mk.Sublist Mk' ∧ WD E ops fuel listed f G' M' Mk' K := ⟨a, b, Mk, b, List.Sublist.refl _, h⟩
theorem WD.a1 {E : Env} {f : Fr} {G : GH} {M Mk : MH} {ops : Array Oper} {K : Kt} {fuel : Nat} {listed : Array Bool} (i : Nat) {dst : Option Nat} {op : Op} {ty : TypeId} {pos : String} {aft : Array Edge} (ho : ops[i]? = some ⟨dst, op, ty, pos, aft, none⟩)
    (h : W E [(⟨dst, op, ty, pos, aft, none⟩ : Oper)].toArray false [(⟨dst, op, ty, pos, aft, none⟩ : Oper)] f G M (fun f' G' M' => Le G G' ∧ Mk.Sublist M' ∧ ∃ Mk', Mk'.Sublist M' ∧ Mk.Sublist Mk' ∧ WD E ops fuel (listed.setIfInBounds i true) f' G' M' Mk' K))
    (hr : Region.ready .any ops listed = [i] := by kernel_rfl) : WD E ops (fuel + 1) listed f G M Mk K := WD.any [i] hr rfl ⟨⟨_, ho, rfl, h⟩, trivial⟩
theorem WD.ap {E : Env} {f : Fr} {G : GH} {M : MH} {K : Kt} {ops : Array Oper} {i : Nat} {dst : Option Nat} {op : Op} {ty : TypeId} {pos : String} {aft : Array Edge} (h : W E [(⟨dst, op, ty, pos, aft, none⟩ : Oper)].toArray false [(⟨dst, op, ty, pos, aft, none⟩ : Oper)] f G M K) (ho : ops[i]? = some ⟨dst, op, ty, pos, aft, none⟩ := by rfl) :
    ∃ o, ops[i]? = some o ∧ o.guard = none ∧ W E [o].toArray false [o] f G M K := ⟨_, ho, rfl, h⟩
section
variable {E : Env} {Q : Exit → Kt} {f : Fr} {G : GH} {M : MH} {x y : Code} {c : Operand} {p : Prop} {inst : Decidable p} {ops : List Oper} {q : Bool} {l : List Oper} {K : Kt}
theorem WC.cd (ht : decide p = true → p → WC E x Q f G M) (hf : decide p = false → ¬ p → WC E y Q f G M) (hc : ev f c = .bool (decide p) := by rfl) : WC E (.cond c x y) Q f G M := WC.cond hc (fun h => ht h (of_decide_eq_true h)) (fun h => hf h (of_decide_eq_false h))
theorem WC.cn (ht : (!decide p) = true → ¬ p → WC E x Q f G M) (hf : (!decide p) = false → p → WC E y Q f G M) (hc : ev f c = .bool (!decide p) := by rfl) : WC E (.cond c x y) Q f G M := WC.cond hc (fun h => ht h (nd_t h)) (fun h => hf h (nd_f h))
theorem W.sd (dj : Nat) (ht : decide p = true → p → W E ops.toArray q l f G M K) (hf : decide p = false → ¬ p → W E ops.toArray q l f G M K) (hc : f dj = .bool (decide p) := by rfl) : W E ops.toArray q l f G M K := W.sp dj hc (fun h => ht h (of_decide_eq_true h)) (fun h => hf h (of_decide_eq_false h))
theorem W.sm (dj : Nat) (ht : (!decide p) = true → ¬ p → W E ops.toArray q l f G M K) (hf : (!decide p) = false → p → W E ops.toArray q l f G M K) (hc : f dj = .bool (!decide p) := by rfl) : W E ops.toArray q l f G M K := W.sp dj hc (fun h => ht h (nd_t h)) (fun h => hf h (nd_f h))
end
theorem Fc.go {P : Program} {g : FuncId} {fn : Func} {c : Code} {n : Nat} {args : List Value} {G : GH} {M : MH} {Q : Value → GH → MH → Prop} (rs : List ResultVar) (hf : P.funcs[g]? = some fn) (hn : fn.ntmps = n) (hb : fn.body = some c)
    (h : ∀ w0, WC ⟨P, n, w0, fun b => b ∈ M.map (·.1), G⟩ c (fun e f G' M' => (e = .normal ∨ e = .ret) ∧ ∃ vs, ResL P f M' rs vs ∧ ∃ M'', M''.Sublist M' ∧ Q (pack vs) G' M'') (setL (fun _ => undef) (argL 0 args)) G M)
    (hr : fn.results.toList = rs := by rfl) (hl : Nat.ble args.length n = true := by rfl) (hN : (fn.name == "runtime.NumGoroutine") = false := by decide) : Fc P g args G M Q :=
  Fc.intro (callable_of hf (by rw [hb]; rfl) hN) hf hb hn hr hl h
class EqE {α : Type} (e : Enc α) (c : outParam (α → List Value)) : Prop where
  h : ∀ G cs a, e.R G cs a → cs = c a
class EqP {α : Type} (e : Enc α) (c : outParam (α → List Value)) (p : outParam (α → Prop)) : Prop where
  h : ∀ G cs a, e.R G cs a → cs = c a ∧ p a
instance : EqE eStr (fun s => [.string s.b]) := ⟨fun _ _ _ h => h⟩
instance : EqE ePair (fun p => [.string p.key.b, .string p.val.b]) := ⟨fun _ _ _ h => h⟩
instance : EqP eInt (fun n => [.int .i64 n]) i64 := ⟨fun _ _ _ h => h⟩
instance : EqP eMsg (fun m => [.int .i64 m.stamp, .int .i64 m.kind, .string m.key.b, .string m.hi.b, .bool m.opn, .string m.val.b]) Msg.Ok := ⟨fun _ _ _ h => h⟩
section
variable {α : Type} {e : Enc α} {G : GH} {v : Value} {l : List α} {c : α → List Value} {p : α → Prop} {T : TypeId} {Ms : MH} {P : Prop} {i : Nat}
theorem SlR.a1 (h : SlR e G v l) [hE : EqE e c] (hi : i < l.length) (k : ElemAt G v e.k i (c l[i]) → P) : P := by obtain ⟨cs, h1, h2⟩ := h.at hi; rw [hE.h _ _ _ h2] at h1; exact k h1
theorem SlR.a2 (h : SlR e G v l) [hE : EqP e c p] (hi : i < l.length) (k : ElemAt G v e.k i (c l[i]) → p l[i] → P) : P := by obtain ⟨cs, h1, h2⟩ := h.at hi; obtain ⟨h3, h4⟩ := hE.h _ _ _ h2; rw [h3] at h1; exact k h1 h4
theorem OwnR.a1 (h : OwnR e T G v l Ms) [hE : EqE e c] (hi : i < l.length) (k : OwnAt Ms v e.k i (c l[i]) → P) : P := by obtain ⟨cs, h1, h2⟩ := h.at hi; rw [hE.h _ _ _ h2] at h1; exact k h1
theorem OwnR.a2 (h : OwnR e T G v l Ms) [hE : EqP e c p] (hi : i < l.length) (k : OwnAt Ms v e.k i (c l[i]) → p l[i] → P) : P := by obtain ⟨cs, h1, h2⟩ := h.at hi; obtain ⟨h3, h4⟩ := hE.h _ _ _ h2; rw [h3] at h1; exact k h1 h4
abbrev NdK (n : Nd) (a1 : Option Addr) (c1 : Nat) (a2 : Option Addr) (c2 : Nat) (a3 : Option Addr) (c3 : Nat) (a4 : Option Addr) (c4 : Nat) : List Value := [.int .i64 n.slot, .int .i64 n.level, .slice a1 n.pivots.length c1, .slice a2 n.kids.length c2, .string n.high.b, .bool n.top, .int .i64 n.right, .int .i64 n.seen, .slice a3 n.msgs.length c3, .slice a4 n.rows.length c4]
theorem SlR.aN {l : List Nd} (h : SlR eNode G v l) (hi : i < l.length) (k : ∀ a1 c1 a2 c2 a3 c3 a4 c4, ElemAt G v eNode.k i [.int .i64 l[i].slot, .int .i64 l[i].level, .slice a1 l[i].pivots.length c1, .slice a2 l[i].kids.length c2, .string l[i].high.b, .bool l[i].top, .int .i64 l[i].right, .int .i64 l[i].seen, .slice a3 l[i].msgs.length c3, .slice a4 l[i].rows.length c4] → SlR eStr G (.slice a1 l[i].pivots.length c1) l[i].pivots → SlR eInt G (.slice a2 l[i].kids.length c2) l[i].kids → SlR eMsg G (.slice a3 l[i].msgs.length c3) l[i].msgs → SlR ePair G (.slice a4 l[i].rows.length c4) l[i].rows → l[i].Ok → P) : P := by
  obtain ⟨cs, h1, a1, c1, a2, c2, a3, c3, a4, c4, h2, q1, q2, q3, q4, q5⟩ := h.at hi; rw [h2] at h1; exact k _ _ _ _ _ _ _ _ h1 q1 q2 q3 q4 q5
theorem OwnR.aN {l : List Nd} (h : OwnR eNode T G v l Ms) (hi : i < l.length) (k : ∀ a1 c1 a2 c2 a3 c3 a4 c4, OwnAt Ms v eNode.k i [.int .i64 l[i].slot, .int .i64 l[i].level, .slice a1 l[i].pivots.length c1, .slice a2 l[i].kids.length c2, .string l[i].high.b, .bool l[i].top, .int .i64 l[i].right, .int .i64 l[i].seen, .slice a3 l[i].msgs.length c3, .slice a4 l[i].rows.length c4] → SlR eStr G (.slice a1 l[i].pivots.length c1) l[i].pivots → SlR eInt G (.slice a2 l[i].kids.length c2) l[i].kids → SlR eMsg G (.slice a3 l[i].msgs.length c3) l[i].msgs → SlR ePair G (.slice a4 l[i].rows.length c4) l[i].rows → l[i].Ok → P) : P := by
  obtain ⟨cs, h1, a1, c1, a2, c2, a3, c3, a4, c4, h2, q1, q2, q3, q4, q5⟩ := h.at hi; rw [h2] at h1; exact k _ _ _ _ _ _ _ _ h1 q1 q2 q3 q4 q5
end
section
variable {E : Env} {f : Fr} {G : GH} {M : MH} {ops rest : List Oper} {K : Kt} {d : Nat} {ty : TypeId} {pos : String} {aft : Array Edge} {g : FuncId} {args : List Operand} {at' : Array TypeId} {vs : List Value}
theorem W.cS {α : Type} {e : Enc α} {l : List α} {F : Value → Value} (hc : Fc E.P g vs G [] (fun v G' M' => M' = [] ∧ ∃ u, v = F u ∧ SlR e G' u l)) (ha : args.map (ev f) = vs)
    (k : ∀ a c G', Le G G' → SlR e G' (.slice a l.length c) l → W E ops.toArray false rest (upd f d (F (.slice a l.length c))) G' M K) (hd : Nat.blt d E.n = true := by rfl) :
    W E ops.toArray false (⟨some d, .call { callee := .value (.func g), args := args.toArray, argTypes := at' }, ty, pos, aft, none⟩ :: rest) f G M K :=
  W.call (Mp := []) hc ha (List.Perm.refl _) (fun v G' M' hl ⟨h1, u, h2, h3⟩ => by
    obtain ⟨a, c, h4⟩ := h3.form
    subst h1 h4 h2
    exact k a c G' hl h3) hd
theorem W.cN {n : Nd} {F : List Value → Value} (hc : Fc E.P g vs G [] (fun v G' M' => M' = [] ∧ ∃ u, v = F u ∧ NodeC G' u n)) (ha : args.map (ev f) = vs)
    (k : ∀ a1 c1 a2 c2 a3 c3 a4 c4 G', Le G G' → SlR eStr G' (.slice a1 n.pivots.length c1) n.pivots → SlR eInt G' (.slice a2 n.kids.length c2) n.kids → SlR eMsg G' (.slice a3 n.msgs.length c3) n.msgs → SlR ePair G' (.slice a4 n.rows.length c4) n.rows → n.Ok →
      W E ops.toArray false rest (upd f d (F (NdK n a1 c1 a2 c2 a3 c3 a4 c4))) G' M K) (hd : Nat.blt d E.n = true := by rfl) :
    W E ops.toArray false (⟨some d, .call { callee := .value (.func g), args := args.toArray, argTypes := at' }, ty, pos, aft, none⟩ :: rest) f G M K :=
  W.call (Mp := []) hc ha (List.Perm.refl _) (fun v G' M' hl ⟨h1, u, h2, a1, c1, a2, c2, a3, c3, a4, c4, h3, q1, q2, q3, q4, q5⟩ => by
    subst h1 h3 h2
    exact k _ _ _ _ _ _ _ _ G' hl q1 q2 q3 q4 q5) hd
theorem W.cM {β : Type} {s : β} {F : β → List Value → List Value → Value} {A B : β → Nd} (hc : Fc E.P g vs G [] (fun v G' M' => M' = [] ∧ ∃ r, r = s ∧ ∃ u w, v = F r u w ∧ NodeC G' u (A r) ∧ NodeC G' w (B r))) (ha : args.map (ev f) = vs)
    (k : ∀ a1 c1 a2 c2 a3 c3 a4 c4 b1 d1 b2 d2 b3 d3 b4 d4 G', Le G G' → SlR eStr G' (.slice a1 (A s).pivots.length c1) (A s).pivots → SlR eInt G' (.slice a2 (A s).kids.length c2) (A s).kids → SlR eMsg G' (.slice a3 (A s).msgs.length c3) (A s).msgs → SlR ePair G' (.slice a4 (A s).rows.length c4) (A s).rows → (A s).Ok →
      SlR eStr G' (.slice b1 (B s).pivots.length d1) (B s).pivots → SlR eInt G' (.slice b2 (B s).kids.length d2) (B s).kids → SlR eMsg G' (.slice b3 (B s).msgs.length d3) (B s).msgs → SlR ePair G' (.slice b4 (B s).rows.length d4) (B s).rows → (B s).Ok →
      W E ops.toArray false rest (upd f d (F s (NdK (A s) a1 c1 a2 c2 a3 c3 a4 c4) (NdK (B s) b1 d1 b2 d2 b3 d3 b4 d4))) G' M K) (hd : Nat.blt d E.n = true := by rfl) :
    W E ops.toArray false (⟨some d, .call { callee := .value (.func g), args := args.toArray, argTypes := at' }, ty, pos, aft, none⟩ :: rest) f G M K :=
  W.call (Mp := []) hc ha (List.Perm.refl _) (fun v G' M' hl ⟨h1, r, hr, u, w, h2, ⟨a1, c1, a2, c2, a3, c3, a4, c4, h3, q1, q2, q3, q4, q5⟩, b1, d1, b2, d2, b3, d3, b4, d4, p3, p5, p6, p7, p8, p9⟩ => by
    subst hr h1 h3 p3 h2
    exact k _ _ _ _ _ _ _ _ _ _ _ _ _ _ _ _ G' hl q1 q2 q3 q4 q5 p5 p6 p7 p8 p9) hd
end
structure Cn (n : Nat) (B : Prop) : Prop where
  h : B
structure Hd9 (A : Prop) : Prop where
  h : A
theorem Cn.st {n : Nat} {B B' : Prop} (f : B' → B) (k : Cn n B') : Cn (n + 1) B := ⟨f k.h⟩
class TyK (P : Program) (t : TypeId) (b : outParam Bool) (j : outParam Nat) : Prop where
  h : tyK P t = some (b, j)
class SlK (P : Program) (t : TypeId) (t' : outParam TypeId) : Prop where
  h : sliceK P t = some t'
class FdK (P : Program) (t : TypeId) (j : Nat) (off : outParam Nat) : Prop where
  h : fieldK P t j = some off
class StK (P : Program) (t : TypeId) : Prop where
  h : P.underlying t = some .string
class BoK (P : Program) (t : TypeId) : Prop where
  h : P.underlying t = some .bool
class InM (M : MH) (b : Nat) (i : outParam Nat) (L : outParam (List Value)) (T : outParam TypeId) : Prop where
  h : nthM M i = some (b, .cells L.toArray T (0, 0))
instance InM.hd {b : Nat} {L : List Value} {T : TypeId} {M : MH} : InM ((b, .cells (List.toArray L) T (0, 0)) :: M) b 0 L T := ⟨rfl⟩
instance (priority := 900) InM.tl {c : Nat × Obj} {M : MH} {b i : Nat} {L : List Value} {T : TypeId} [h : InM M b i L T] : InM (c :: M) b (i + 1) L T := ⟨h.h⟩
instance (priority := 800) InM.nl {M : MH} {b i : Nat} {L : List Value} {T : TypeId} [h : InM M b i L T] : InM ([] ++ M) b i L T := ⟨h.h⟩
instance (priority := 700) InM.ap {c : Nat × Obj} {M N : MH} {b i : Nat} {L : List Value} {T : TypeId} [h : InM (c :: (M ++ N)) b i L T] : InM ((c :: M) ++ N) b i L T := ⟨h.h⟩
class SetAt (L : List Value) (o : Nat) (v : Value) (L' : outParam (List Value)) : Prop where
  h : setAt L o [v] = L' ∧ o + 1 ≤ L.length
instance SetAt.z {x : Value} {L : List Value} {v : Value} : SetAt (x :: L) 0 v (v :: L) := ⟨by cases L <;> simp [setAt], by simp⟩
instance (priority := 900) SetAt.s {x : Value} {L : List Value} {o : Nat} {v : Value} {L' : List Value} [h : SetAt L o v L'] : SetAt (x :: L) (o + 1) v (x :: L') := ⟨by simp only [setAt, h.h.1], by have := h.h.2; simp only [List.length_cons]; omega⟩
instance (priority := 800) SetAt.z0 {x : Value} {L : List Value} {v : Value} : SetAt (x :: L) (0 + 0) v (v :: L) := ⟨by cases L <;> simp [setAt], by simp⟩
instance (priority := 700) SetAt.p {L : List Value} {a c : Nat} {v : Value} {L' : List Value} [h : SetAt L (a + c) v L'] : SetAt L (a + c + 0) v L' := ⟨h.h⟩
class StM (M : MH) (b o : Nat) (v : Value) (T : outParam TypeId) (M' : outParam MH) : Prop where
  h : ∃ i L L', nthM M i = some (b, .cells (List.toArray L) T (0, 0)) ∧ setAt L o [v] = L' ∧ o + 1 ≤ L.length ∧ setM M i (.cells (List.toArray L') T (0, 0)) = M'
instance StM.hd {b o : Nat} {L L' : List Value} {v : Value} {T : TypeId} {M : MH} [h : SetAt L o v L'] : StM ((b, .cells (List.toArray L) T (0, 0)) :: M) b o v T ((b, .cells (List.toArray L') T (0, 0)) :: M) :=
  ⟨0, L, L', rfl, h.h.1, h.h.2, rfl⟩
instance (priority := 900) StM.tl {c : Nat × Obj} {M M' : MH} {b o : Nat} {v : Value} {T : TypeId} [h : StM M b o v T M'] : StM (c :: M) b o v T (c :: M') := by
  obtain ⟨i, L, L', h1, h2, h3, h4⟩ := h.h
  exact ⟨i + 1, L, L', h1, h2, h3, by simp only [setM, h4]⟩
instance (priority := 800) StM.nl {M M' : MH} {b o : Nat} {v : Value} {T : TypeId} [h : StM M b o v T M'] : StM ([] ++ M) b o v T M' := ⟨h.h⟩
instance (priority := 700) StM.ap {c : Nat × Obj} {M N M' : MH} {b o : Nat} {v : Value} {T : TypeId} [h : StM (c :: (M ++ N)) b o v T M'] : StM ((c :: M) ++ N) b o v T M' := ⟨h.h⟩
class PtM (M : MH) (b : Nat) (L' : List Value) (L : outParam (List Value)) (T : outParam TypeId) (M' : outParam MH) : Prop where
  h : ∃ i, nthM M i = some (b, .cells (List.toArray L) T (0, 0)) ∧ setM M i (.cells (List.toArray L') T (0, 0)) = M'
instance PtM.hd {b : Nat} {L L' : List Value} {T : TypeId} {M : MH} : PtM ((b, .cells (List.toArray L) T (0, 0)) :: M) b L' L T ((b, .cells (List.toArray L') T (0, 0)) :: M) := ⟨0, rfl, rfl⟩
instance (priority := 900) PtM.tl {c : Nat × Obj} {M M' : MH} {b : Nat} {L L' : List Value} {T : TypeId} [h : PtM M b L' L T M'] : PtM (c :: M) b L' L T (c :: M') := by
  obtain ⟨i, h1, h2⟩ := h.h
  exact ⟨i + 1, h1, by simp only [setM, h2]⟩
instance (priority := 800) PtM.nl {M M' : MH} {b : Nat} {L L' : List Value} {T : TypeId} [h : PtM M b L' L T M'] : PtM ([] ++ M) b L' L T M' := ⟨h.h⟩
instance (priority := 700) PtM.ap {c : Nat × Obj} {M N M' : MH} {b : Nat} {L L' : List Value} {T : TypeId} [h : PtM (c :: (M ++ N)) b L' L T M'] : PtM ((c :: M) ++ N) b L' L T M' := ⟨h.h⟩
instance (priority := 600) InM.z {c : Nat} {u w : Obj} {M : MH} {b i : Nat} {L : List Value} {T : TypeId} [h : InM ((c, w) :: M) b i L T] : InM (setM ((c, u) :: M) 0 w) b i L T := ⟨h.h⟩
instance (priority := 500) InM.sc {p : Nat × Obj} {w : Obj} {M : MH} {k : Nat} {b i : Nat} {L : List Value} {T : TypeId} [h : InM (p :: setM M k w) b i L T] : InM (setM (p :: M) (k + 1) w) b i L T := ⟨h.h⟩
instance (priority := 600) StM.z {c : Nat} {u w : Obj} {M : MH} {b o : Nat} {v : Value} {T : TypeId} {M' : MH} [h : StM ((c, w) :: M) b o v T M'] : StM (setM ((c, u) :: M) 0 w) b o v T M' := ⟨h.h⟩
instance (priority := 500) StM.sc {p : Nat × Obj} {w : Obj} {M : MH} {k : Nat} {b o : Nat} {v : Value} {T : TypeId} {M' : MH} [h : StM (p :: setM M k w) b o v T M'] : StM (setM (p :: M) (k + 1) w) b o v T M' := ⟨h.h⟩
instance (priority := 600) PtM.z {c : Nat} {u w : Obj} {M : MH} {b : Nat} {L L' : List Value} {T : TypeId} {M' : MH} [h : PtM ((c, w) :: M) b L' L T M'] : PtM (setM ((c, u) :: M) 0 w) b L' L T M' := ⟨h.h⟩
instance (priority := 500) PtM.sc {p : Nat × Obj} {w : Obj} {M : MH} {k : Nat} {b : Nat} {L L' : List Value} {T : TypeId} {M' : MH} [h : PtM (p :: setM M k w) b L' L T M'] : PtM (setM (p :: M) (k + 1) w) b L' L T M' := ⟨h.h⟩
section
variable {E : Env} {f : Fr} {G : GH} {M : MH} {ops rest : List Oper} {q : Bool} {K : Kt} {d : Nat} {op : Op} {ty : TypeId} {pos : String} {aft : Array Edge} {v : Value} {x y : Operand} {t t' : TypeId} {b o : Nat}
theorem ok_l1 {i : Nat} {L : List Value} {T : TypeId} [hT : TyK E.P t false 1] (hx : ev f x = .pointer (some ⟨b, o, none⟩)) [hM : InM M b i L T] (hv : L[o]? = some v) : Ok E f G M ⟨some d, .load t x, ty, pos, aft, none⟩ v :=
  ok_loadB (vs := [v]) hT.h hx hM.h (by
    have hl := (List.getElem?_eq_some_iff.1 hv)
    obtain ⟨h1, h2⟩ := hl
    rw [List.drop_eq_getElem_cons h1, h2]; simp) rfl (fun _ => rfl)
theorem ok_lA {i j : Nat} {L : List Value} {T : TypeId} [hT : TyK E.P t true j] (hx : ev f x = .pointer (some ⟨b, o, none⟩)) (ho : o = 0) [hM : InM M b i L T] (hj : L.length = j) : Ok E f G M ⟨some d, .load t x, ty, pos, aft, none⟩ (.agg L.toArray) :=
  ok_loadB (vs := L) hT.h hx hM.h (by subst ho hj; simp) hj (fun h => by cases h)
class CutL (L : List Value) (o j : Nat) (vs : outParam (List Value)) : Prop where
  h : (L.drop o).take j = vs ∧ vs.length = j
instance CutL.n {L : List Value} : CutL L 0 0 [] := ⟨by simp, rfl⟩
instance CutL.c {x : Value} {L : List Value} {j : Nat} {vs : List Value} [h : CutL L 0 j vs] : CutL (x :: L) 0 (j + 1) (x :: vs) := ⟨by have := h.h.1; simp only [List.drop_zero] at this; simp [this], by simp [h.h.2]⟩
instance CutL.s {x : Value} {L : List Value} {o j : Nat} {vs : List Value} [h : CutL L o j vs] : CutL (x :: L) (o + 1) j vs := ⟨by simpa using h.h.1, h.h.2⟩
instance CutL.z {L : List Value} {j : Nat} {vs : List Value} [h : CutL L 0 j vs] : CutL L (0 + 0) j vs := ⟨h.h⟩
theorem ok_lP {i j : Nat} {L vs : List Value} {T : TypeId} [hT : TyK E.P t true j] (hx : ev f x = .pointer (some ⟨b, o, none⟩)) [hM : InM M b i L T] [hC : CutL L o j vs] : Ok E f G M ⟨some d, .load t x, ty, pos, aft, none⟩ (.agg vs.toArray) :=
  ok_loadB (vs := vs) hT.h hx hM.h hC.h.1 hC.h.2 (fun h => by cases h)
theorem ok_e1 {u : Value} {kk i : Nat} {cs : List Value} [hT : TyK E.P t false 1] (hx : ev f x = .pointer (some (elemA u kk i o))) (he : ElemAt G u kk i cs) (hv : cs[o]? = some v) : Ok E f G M ⟨some d, .load t x, ty, pos, aft, none⟩ v :=
  ok_loadE (vs := [v]) hT.h he hx (by
    have hl := (List.getElem?_eq_some_iff.1 hv)
    obtain ⟨h1, h2⟩ := hl
    rw [List.drop_eq_getElem_cons h1, h2]; simp) rfl (fun _ => rfl)
theorem ok_eA {u : Value} {kk i j : Nat} {cs : List Value} [hT : TyK E.P t true j] (hx : ev f x = .pointer (some (elemA u kk i o))) (ho : o = 0) (he : ElemAt G u kk i cs) (hj : cs.length = j) : Ok E f G M ⟨some d, .load t x, ty, pos, aft, none⟩ (.agg cs.toArray) :=
  ok_loadE (vs := cs) hT.h he hx (by subst ho hj; simp) hj (fun h => by cases h)
theorem ok_eP {u : Value} {kk i j : Nat} {cs vs : List Value} (hT : TyK E.P t true j) (hx : ev f x = .pointer (some (elemA u kk i o))) (he : ElemAt G u kk i cs) (hC : CutL cs o j vs) : Ok E f G M ⟨some d, .load t x, ty, pos, aft, none⟩ (.agg vs.toArray) :=
  ok_loadE (vs := vs) hT.h he hx hC.h.1 hC.h.2 (fun h => by cases h)
theorem ok_fb {off : Nat} {j : Nat} [hF : FdK E.P t j off] (hx : ev f x = .pointer (some ⟨b, o, none⟩)) : Ok E f G M ⟨some d, .fieldAddr t x j, ty, pos, aft, none⟩ (.pointer (some ⟨b, o + off, none⟩)) := ok_fieldB hF.h hx
theorem ok_fe {u : Value} {kk i off : Nat} {j : Nat} [hF : FdK E.P t j off] (hx : ev f x = .pointer (some (elemA u kk i o))) (hv : ∃ a n c, u = .slice (some a) n c) : Ok E f G M ⟨some d, .fieldAddr t x j, ty, pos, aft, none⟩ (.pointer (some (elemA u kk i (o + off)))) := ok_fieldE hF.h hx hv
theorem W.s1 {T : TypeId} {M' : MH} [hT : TyK E.P t false 1] (hx : ev f x = .pointer (some ⟨b, o, none⟩)) (hy : ev f y = v) (hc : v.cells.toList = [v]) (h1 : Value.oneCell' v = true) [hM : StM M b o v T M']
    (k : W E ops.toArray false rest f G M' K) : W E ops.toArray false (⟨none, .store t x y, ty, pos, aft, none⟩ :: rest) f G M K := by
  obtain ⟨i, L, L', a1, a2, a3, a4⟩ := hM.h
  exact W.store hT.h hx a1 hy hc rfl (by simp [h1]) (Nat.ble_eq ▸ a3) a2 (a4 ▸ k)
theorem W.sA {T : TypeId} {L L' : List Value} {M' : MH} {j : Nat} [hT : TyK E.P t true j] (hx : ev f x = .pointer (some ⟨b, o, none⟩)) (ho : o = 0) (hy : ev f y = .agg L'.toArray) (h1 : L'.all Value.oneCell' = true) [hM : PtM M b L' L T M'] (hl : L.length = j) (hl' : L'.length = j)
    (k : W E ops.toArray false rest f G M' K) : W E ops.toArray false (⟨none, .store t x y, ty, pos, aft, none⟩ :: rest) f G M K := by
  obtain ⟨i, a1, a2⟩ := hM.h
  subst ho
  exact W.store (vs := L') hT.h hx a1 hy (by simp [Value.cells]) hl' h1 (Nat.ble_eq ▸ (by omega : 0 + j ≤ L.length)) (by rw [setAt_eq _ _ _ (by omega)]; simp [hl, hl']) (a2 ▸ k)
variable {α : Type} {e : Enc α} {l : List α} {m : Int} {k : IntKind}
theorem ok_ln [hT : SlK E.P t t'] (hx : ev f x = v) (hs : SlR e G v l) :
    Ok E f G M ⟨some d, .call { callee := .builtin .len, args := #[x], argTypes := #[t] }, ty, pos, aft, none⟩ (.int .i64 l.length) := ok_len hT.h hs hx
theorem ok_lnO [hT : SlK E.P t t'] {T : TypeId} {Ms : MH} (hx : ev f x = v) (ho : OwnR e T G v l Ms) :
    Ok E f G M ⟨some d, .call { callee := .builtin .len, args := #[x], argTypes := #[t] }, ty, pos, aft, none⟩ (.int .i64 l.length) := ok_lenO hT.h ho hx
theorem ok_lnS [hT : StK E.P t] {a : ByteArray} (hx : ev f x = .string a) :
    Ok E f G M ⟨some d, .call { callee := .builtin .len, args := #[x], argTypes := #[t] }, ty, pos, aft, none⟩ (.int .i64 a.size) := ok_lenS hT.h hx
theorem ok_ix {bb : Bool} {j i n c : Nat} {a : Option Addr} [hT : SlK E.P t t'] [hK : TyK E.P t' bb j] (hx : ev f x = .slice a n c) (hs : SlR e G (.slice a n c) l) (hj : j = e.k) (hy : ev f y = .int k m) (hi : m = ((i : Nat) : Int)) (hl : i < l.length) :
    Ok E f G M ⟨some d, .indexAddr t x y, ty, pos, aft, none⟩ (.pointer (some (elemA (.slice a n c) e.k i 0))) := ok_indexAddr hT.h (hj ▸ hK.h) hs hx hy ⟨hi, hl⟩
end
theorem isS9 {α : Type} {x : α} : (some x).isSome = true := rfl
theorem isN9 {α : Type} {x : α} : (some x).isNone = false := rfl
theorem isO9 {α : Type} : (none : Option α).isNone = true := rfl
theorem isM9 {α : Type} : (none : Option α).isSome = false := rfl
theorem nb9 {a : Bool} (h : a = true) : (!a) = false := by rw [h]; rfl
theorem nc9 {a : Bool} (h : a = false) : (!a) = true := by rw [h]; rfl
theorem nF9 : (!false) = true := rfl
theorem nT9 : (!true) = false := rfl
theorem pk9 {a b : Bool} (h : a = b := by first | with_reducible assumption | with_reducible rfl | with_reducible exact isS9 | with_reducible exact isN9 | with_reducible exact nF9 | with_reducible exact nT9 | with_reducible exact isO9 | with_reducible exact isM9 | exact nb9 (by with_reducible assumption) | exact nc9 (by with_reducible assumption) | decide) : a = b := h
theorem W.noF {E : Env} {f : Fr} {G : GH} {M : MH} {ops rest : List Oper} {q : Bool} {K : Kt} {d : Nat} {op : Op} {ty : TypeId} {pos : String} {aft : Array Edge} {j dj : Nat} {b : Bool} (hj : (ops.toArray[j]?).bind (·.dst) = some dj) (hb : f dj = .bool b) (hn : b = true)
    (k : W E ops.toArray q rest (upd f d undef) G M K) (hd : Nat.blt d E.n = true := by rfl) : W E ops.toArray q (⟨some d, op, ty, pos, aft, some (j, false)⟩ :: rest) f G M K := W.no hj hb (by rw [hn]; rfl) k hd
theorem W.noT {E : Env} {f : Fr} {G : GH} {M : MH} {ops rest : List Oper} {q : Bool} {K : Kt} {d : Nat} {op : Op} {ty : TypeId} {pos : String} {aft : Array Edge} {j dj : Nat} {b : Bool} (hj : (ops.toArray[j]?).bind (·.dst) = some dj) (hb : f dj = .bool b) (hn : b = false)
    (k : W E ops.toArray q rest (upd f d undef) G M K) (hd : Nat.blt d E.n = true := by rfl) : W E ops.toArray q (⟨some d, op, ty, pos, aft, some (j, true)⟩ :: rest) f G M K := W.no hj hb (by rw [hn]; rfl) k hd
theorem rl_n {P : Program} {f : Fr} {M : MH} : ResL P f M [] [] := trivial
theorem rl_t {P : Program} {f : Fr} {M : MH} {rs : List ResultVar} {vs : List Value} {v : Value} {t : Nat} (hx : f t = v) (k : ResL P f M rs vs) : ResL P f M (.tmp t :: rs) (v :: vs) := ⟨hx, k⟩
theorem rl_c {P : Program} {f : Fr} {M : MH} {rs : List ResultVar} {vs L : List Value} {a b i k : Nat} {t T : TypeId} {bb : Bool} (hx : f a = .pointer (some ⟨b, 0, none⟩)) (hM : InM M b i L T) (hT : TyK P t bb k) (h1 : bb = false → k = 1) (hl : L.length = k) (h : ResL P f M rs vs) : ResL P f M (.cell a t :: rs) (mkV bb L :: vs) :=
  ⟨⟨_, _, _, _, _, hx, nthM_mem hM.h, hT.h, h1, hl, rfl⟩, h⟩
theorem rsl {P : Program} {f : Fr} {M : MH} {rs : List ResultVar} {vs : List Value} (h : ResL P f M rs vs := by
  repeat (first
    | exact rl_n
    | ((with_reducible apply rl_t); exact rfl)
    | ((with_reducible apply rl_c); exact rfl; infer_instance; infer_instance; simp; exact rfl))) : ResL P f M rs vs := h
theorem hs9 {f : Fr} {l : List (Nat × Value)} (h : Has f l := by
  repeat (first
    | exact trivial
    | refine ⟨by first | rfl | exact iv (by dsimp only; omega) | exact iv (by omega), ?_⟩)) : Has f l := h
theorem lec {A B : GH} (h : Le A B := by repeat (first | exact Le.rfl | assumption | refine Le.trans ?_ (by assumption))) : Le A B := h
theorem SlR.mo {α : Type} {e : Enc α} {G G' : GH} {v : Value} {l : List α} (h : SlR e G v l) (hl : Le G G') : SlR e G' v l := h.mono hl
theorem OwnR.mo {α : Type} {e : Enc α} {T : TypeId} {G G' : GH} {v : Value} {l : List α} {Ms : MH} (h : OwnR e T G v l Ms) (hl : Le G G') : OwnR e T G' v l Ms := h.mono hl
theorem ElemAt.mo {G G' : GH} {v : Value} {k n : Nat} {cs : List Value} (h : ElemAt G v k n cs) (hl : Le G G') : ElemAt G' v k n cs := h.mono hl
theorem SlR.go {α : Type} {e : Enc α} {G : GH} {v : Value} {l : List α} (h : SlR e G v l := by first | assumption | exact SlR.mo (by assumption) lec) : SlR e G v l := h
theorem Cn.isW {E : Env} {f : Fr} {G : GH} {M : MH} {ops : Array Oper} {q : Bool} {l : List Oper} {K : Kt} {n : Nat} (h : Cn n (W E ops q l f G M K)) : Cn n (W E ops q l f G M K) := h
theorem Cn.isC {E : Env} {f : Fr} {G : GH} {M : MH} {c x y : _} {Q : Exit → Kt} {n : Nat} (h : Cn n (WC E (.cond c x y) Q f G M)) : Cn n (WC E (.cond c x y) Q f G M) := h
section
variable {E : Env} {f : Fr} {G : GH} {M : MH} {ops rest : List Oper} {q : Bool} {K : Kt} {d n : Nat} {op : Op} {ty : TypeId} {pos : String} {aft : Array Edge} {v : Value} {x y z : Operand} {t t' : TypeId} {Q : Exit → Kt} {c c' : Code} {b : Bool} {j dj : Nat}
theorem is_fa {j : Nat} (h : Ok E f G M ⟨some d, .fieldAddr t x j, ty, pos, aft, none⟩ v) : Ok E f G M ⟨some d, .fieldAddr t x j, ty, pos, aft, none⟩ v := h
theorem is_ld (h : Ok E f G M ⟨some d, .load t x, ty, pos, aft, none⟩ v) : Ok E f G M ⟨some d, .load t x, ty, pos, aft, none⟩ v := h
theorem is_pk (h : Ok E f G M ⟨some d, .pick x y z, ty, pos, aft, none⟩ v) : Ok E f G M ⟨some d, .pick x y z, ty, pos, aft, none⟩ v := h
theorem is_bi {o : BinOp} (h : Ok E f G M ⟨some d, .binOp o t x y t', ty, pos, aft, none⟩ v) : Ok E f G M ⟨some d, .binOp o t x y t', ty, pos, aft, none⟩ v := h
theorem is_ca {c : Call} (h : Ok E f G M ⟨some d, .call c, ty, pos, aft, none⟩ v) : Ok E f G M ⟨some d, .call c, ty, pos, aft, none⟩ v := h
theorem Cn.ok (h : Ok E f G M ⟨some d, op, ty, pos, aft, none⟩ v) (hd : Nat.blt d E.n = true) (k : Cn n (W E ops.toArray q rest (upd f d v) G M K)) : Cn (n + 1) (W E ops.toArray q (⟨some d, op, ty, pos, aft, none⟩ :: rest) f G M K) := ⟨W.ok h k.h hd⟩
theorem Cn.noF (hj : (ops.toArray[j]?).bind (·.dst) = some dj) (hb : f dj = .bool b) (hn : b = true) (hd : Nat.blt d E.n = true) (k : Cn n (W E ops.toArray q rest (upd f d undef) G M K)) : Cn (n + 1) (W E ops.toArray q (⟨some d, op, ty, pos, aft, some (j, false)⟩ :: rest) f G M K) := ⟨W.no hj hb (by rw [hn]; rfl) k.h hd⟩
theorem Cn.noT (hj : (ops.toArray[j]?).bind (·.dst) = some dj) (hb : f dj = .bool b) (hn : b = false) (hd : Nat.blt d E.n = true) (k : Cn n (W E ops.toArray q rest (upd f d undef) G M K)) : Cn (n + 1) (W E ops.toArray q (⟨some d, op, ty, pos, aft, some (j, true)⟩ :: rest) f G M K) := ⟨W.no hj hb (by rw [hn]; rfl) k.h hd⟩
theorem Cn.yes {o : Option Nat} {w : Bool} (hj : (ops.toArray[j]?).bind (·.dst) = some dj) (hb : f dj = .bool b) (hn : b = w) (hd : Nat.blt dj E.n = true) (k : Cn n (W E ops.toArray q (⟨o, op, ty, pos, aft, none⟩ :: rest) f G M K)) : Cn (n + 1) (W E ops.toArray q (⟨o, op, ty, pos, aft, some (j, w)⟩ :: rest) f G M K) := ⟨W.yes hj hb hn k.h hd⟩
theorem Cn.nou {w : Bool} (hj : (ops.toArray[j]?).bind (·.dst) = some dj) (hb : f dj = undef) (hd : Nat.blt d E.n = true) (k : Cn n (W E ops.toArray q rest (upd f d undef) G M K)) : Cn (n + 1) (W E ops.toArray q (⟨some d, op, ty, pos, aft, some (j, w)⟩ :: rest) f G M K) := ⟨W.nou hj hb k.h hd⟩
theorem Cn.nil (k : Cn n (K f G M)) : Cn (n + 1) (W E ops.toArray q [] f G M K) := ⟨W.nil k.h⟩
theorem Cn.rg {id : Nat} {l : List Oper} (k : Cn n (W E l.toArray false l f G M (Q .normal))) : Cn (n + 1) (WC E (.region id l.toArray false) Q f G M) := ⟨WC.region k.h⟩
theorem Cn.sq (k : Cn n (WC E c (thn (WC E c' Q) Q) f G M)) : Cn (n + 1) (WC E (.seq c c') Q f G M) := ⟨WC.seq k.h⟩
theorem Cn.bk {id : Nat} (k : Cn n (WC E c (blk id Q) f G M)) : Cn (n + 1) (WC E (.block id c) Q f G M) := ⟨WC.block k.h⟩
theorem Cn.sk (k : Cn n (Q .normal f G M)) : Cn (n + 1) (WC E .skip Q f G M) := ⟨WC.skip k.h⟩
theorem Cn.rt (k : Cn n (Q .ret f G M)) : Cn (n + 1) (WC E .ret Q f G M) := ⟨WC.ret k.h⟩
theorem Cn.xt {id : Nat} (k : Cn n (Q (.exit id) f G M)) : Cn (n + 1) (WC E (.exit id) Q f G M) := ⟨WC.exit k.h⟩
theorem Cn.cT (hc : ev f x = .bool b) (hb : b = true) (k : Cn n (WC E c Q f G M)) : Cn (n + 1) (WC E (.cond x c c') Q f G M) := ⟨WC.cond_t hc hb k.h⟩
theorem Cn.cF (hc : ev f x = .bool b) (hb : b = false) (k : Cn n (WC E c' Q f G M)) : Cn (n + 1) (WC E (.cond x c c') Q f G M) := ⟨WC.cond_f hc hb k.h⟩
theorem Cn.tn (k : Cn n (K f G M)) : Cn (n + 1) (thn K Q .normal f G M) := ⟨thn_n k.h⟩
theorem Cn.tx {id : Nat} (k : Cn n (Q (.exit id) f G M)) : Cn (n + 1) (thn K Q (.exit id) f G M) := ⟨thn_x k.h⟩
theorem Cn.tr (k : Cn n (Q .ret f G M)) : Cn (n + 1) (thn K Q .ret f G M) := ⟨thn_r k.h⟩
theorem Cn.bn {id : Nat} (k : Cn n (Q .normal f G M)) : Cn (n + 1) (blk id Q .normal f G M) := ⟨blk_n k.h⟩
theorem Cn.br {id : Nat} (k : Cn n (Q .ret f G M)) : Cn (n + 1) (blk id Q .ret f G M) := ⟨blk_r k.h⟩
theorem Cn.bh {id : Nat} (k : Cn n (Q .normal f G M)) : Cn (n + 1) (blk id Q (.exit id) f G M) := ⟨blk_h k.h⟩
theorem Cn.rr {P : Program} {rs : List ResultVar} {vs : List Value} {R : List Value → MH → Prop} (hr : ResL P f M rs vs) (k : Cn n (R vs [])) : Cn (n + 1) ((Exit.ret = .normal ∨ Exit.ret = .ret) ∧ ∃ vs, ResL P f M rs vs ∧ ∃ M', M'.Sublist M ∧ R vs M') := ⟨.inr rfl, vs, hr, [], List.nil_sublist _, k.h⟩
theorem Cn.bm {id id' : Nat} (hn : Nat.beq id' id = false) (k : Cn n (Q (.exit id') f G M)) : Cn (n + 1) (blk id Q (.exit id') f G M) := ⟨blk_m k.h hn⟩
end
theorem ok9 {E : Env} {f : Fr} {G : GH} {M : MH} {o : Oper} {v : Value} (h : Ok E f G M o v := by
  first
  | (with_reducible apply is_fa
     first
     | exact ok_fb rfl
     | exact ok_fe rfl (by first | exact ElemAt.form (by assumption) | exact OwnAt.form (by assumption)))
  | (with_reducible apply is_ld
     first
     | exact ok_l1 rfl rfl
     | exact ok_lA rfl rfl rfl
     | exact ok_lP rfl
     | exact ok_e1 rfl (by first | assumption | exact ElemAt.mo (by assumption) lec) (by rfl)
     | exact ok_eA rfl rfl (by first | assumption | exact ElemAt.mo (by assumption) lec) (by rfl)
     | ((with_reducible apply ok_eP); infer_instance; exact rfl; (first | assumption | exact ElemAt.mo (by assumption) lec); infer_instance))
  | (with_reducible apply is_pk
     first
     | exact ok_pick_t rfl pk9
     | exact ok_pick_f rfl pk9)
  | (with_reducible apply is_bi
     first
     | ((with_reducible apply ok_lss); exact rfl; exact rfl)
     | ((with_reducible apply ok_add); exact rfl; exact rfl; first | omega | (dsimp only; omega))
     | ((with_reducible apply ok_eql); exact rfl; exact rfl)
     | ((with_reducible apply ok_gtr); exact rfl; exact rfl)
     | ((with_reducible apply ok_leq); exact rfl; exact rfl)
     | ((with_reducible apply ok_neq); exact rfl; exact rfl)
     | ((with_reducible apply ok_geq); exact rfl; exact rfl)
     | ((with_reducible apply ok_sub); exact rfl; exact rfl; first | omega | (dsimp only; omega))
     | ((with_reducible apply ok_eqlS); exact rfl; exact rfl)
     | ((with_reducible apply ok_neqS); exact rfl; exact rfl)
     | ((with_reducible apply ok_lssS); exact rfl; exact rfl))
  | (with_reducible apply is_ca
     first
     | exact ok_lnS rfl
     | exact ok_ln rfl SlR.go
     | exact ok_lnO rfl (by first | assumption | exact OwnR.mo (by assumption) lec))
  | with_reducible apply ok_move
  | with_reducible apply ok_assign
  | ((with_reducible apply ok_extract); exact rfl; exact rfl)
  | ((with_reducible apply ok_not); exact rfl)
  | ((with_reducible apply ok_nilP); exact rfl)
  | exact ok_ix rfl SlR.go (by rfl) rfl rfl (by omega)) : Ok E f G M o v := h
structure Cd (l : List Nat) (B : Prop) : Prop where
  h : B
section
variable {E : Env} {f : Fr} {G : GH} {M Mk : MH} {ops : Array Oper} {K : Kt} {fuel F : Nat} {listed : Array Bool} {i d j dj : Nat} {l : List Nat} {op : Op} {ty t T : TypeId} {pos : String} {aft : Array Edge} {v : Value} {x y : Operand} {b o : Nat} {w u : Bool}
theorem Cd.tk (hr : (Region.ready .any ops listed).contains i = true) (hf : Region.free .any ops listed i = true) (hs : Region.noSelect ops = true) (hF : F = fuel + 1) (ho : ops[i]? = some ⟨some d, op, ty, pos, aft, none⟩) (hok : Ok E f G Mk ⟨some d, op, ty, pos, aft, none⟩ v) (hd : Nat.blt d E.n = true)
    (k : Cd l (WD E ops fuel (listed.setIfInBounds i true) (upd f d v) G M Mk K)) : Cd (i :: l) (WD E ops F listed f G M Mk K) := ⟨hF ▸ WD.take i ho rfl rfl hs hf hr hok k.h hd⟩
theorem Cd.tY (hr : (Region.ready .any ops listed).contains i = true) (hf : Region.free .any ops listed i = true) (hs : Region.noSelect ops = true) (hF : F = fuel + 1) (ho : ops[i]? = some ⟨some d, op, ty, pos, aft, some (j, w)⟩) (hj : (ops[j]?).bind (·.dst) = some dj) (hb : f dj = .bool u) (hw : u = w) (hok : Ok E f G Mk ⟨some d, op, ty, pos, aft, none⟩ v) (hd : Nat.blt d E.n = true) (hdj : Nat.blt dj E.n = true)
    (k : Cd l (WD E ops fuel (listed.setIfInBounds i true) (upd f d v) G M Mk K)) : Cd (i :: l) (WD E ops F listed f G M Mk K) := ⟨hF ▸ WD.takeY i dj ho rfl rfl hj hb hw hs hf hr hok k.h hd hdj⟩
theorem Cd.tF (hr : (Region.ready .any ops listed).contains i = true) (hf : Region.free .any ops listed i = true) (hs : Region.noSelect ops = true) (hF : F = fuel + 1) (ho : ops[i]? = some ⟨some d, op, ty, pos, aft, some (j, false)⟩) (hj : (ops[j]?).bind (·.dst) = some dj) (hb : f dj = .bool u) (hw : u = true) (hd : Nat.blt d E.n = true) (hdj : Nat.blt dj E.n = true)
    (k : Cd l (WD E ops fuel (listed.setIfInBounds i true) (upd f d undef) G M Mk K)) : Cd (i :: l) (WD E ops F listed f G M Mk K) := ⟨hF ▸ WD.takeN i dj ho rfl rfl hj hb (by rw [hw]; rfl) hs hf hr k.h hd hdj⟩
theorem Cd.tT (hr : (Region.ready .any ops listed).contains i = true) (hf : Region.free .any ops listed i = true) (hs : Region.noSelect ops = true) (hF : F = fuel + 1) (ho : ops[i]? = some ⟨some d, op, ty, pos, aft, some (j, true)⟩) (hj : (ops[j]?).bind (·.dst) = some dj) (hb : f dj = .bool u) (hw : u = false) (hd : Nat.blt d E.n = true) (hdj : Nat.blt dj E.n = true)
    (k : Cd l (WD E ops fuel (listed.setIfInBounds i true) (upd f d undef) G M Mk K)) : Cd (i :: l) (WD E ops F listed f G M Mk K) := ⟨hF ▸ WD.takeN i dj ho rfl rfl hj hb (by rw [hw]; rfl) hs hf hr k.h hd hdj⟩
theorem Cd.st {M' : MH} (hr : Region.ready .any ops listed = [i]) (hF : F = fuel + 1) (ho : ops[i]? = some ⟨none, op, ty, pos, aft, none⟩)
    (hw : ∀ K, W E [(⟨none, op, ty, pos, aft, none⟩ : Oper)].toArray false [] f G M' K → W E [(⟨none, op, ty, pos, aft, none⟩ : Oper)].toArray false [(⟨none, op, ty, pos, aft, none⟩ : Oper)] f G M K)
    (hs : Mk.Sublist M') (k : Cd l (WD E ops fuel (listed.setIfInBounds i true) f G M' Mk K)) : Cd (i :: l) (WD E ops F listed f G M Mk K) := ⟨hF ▸ WD.a1 i ho (hw _ (W.nil (WD.n9 Le.rfl hs k.h))) hr⟩
theorem sb_n {A B : MH} (h : A.Sublist B) : A.Sublist ([] ++ B) := h
theorem sb_c {A B C : MH} {p : Nat × Obj} (h : A.Sublist (p :: (B ++ C))) : A.Sublist ((p :: B) ++ C) := h
theorem sb_m {A B : MH} (h : A.Sublist B) : ([] ++ A).Sublist B := h
theorem sb_d {A B C : MH} {p : Nat × Obj} (h : (p :: (A ++ C)).Sublist B) : ((p :: A) ++ C).Sublist B := h
theorem sb9 {A B : MH} (h : A.Sublist B := by
  repeat (first
    | with_reducible exact List.nil_sublist _
    | with_reducible exact List.Sublist.refl _
    | with_reducible apply List.Sublist.cons_cons
    | with_reducible apply sb_n
    | with_reducible apply sb_c
    | with_reducible apply sb_m
    | with_reducible apply sb_d
    | apply List.Sublist.cons)) : A.Sublist B := h
theorem W.nn {G' : GH} {M' : MH} {ops' : List Oper} {q : Bool} (h : WD E ops fuel listed f G' M' Mk K) (hl : Le G G' := by exact lec) (hs : Mk.Sublist M' := by exact sb9) :
    W E ops'.toArray q [] f G' M' (fun f' G' M' => Le G G' ∧ Mk.Sublist M' ∧ ∃ Mk', Mk'.Sublist M' ∧ Mk.Sublist Mk' ∧ WD E ops fuel listed f' G' M' Mk' K) := W.nil (WD.n9 hl hs h)
class MixK (P : Program) : Prop where
  h : P.follows .mixedOrders = true
theorem WC.dw {Q : Exit → Kt} {id : Nat} {l : List Oper} (hsub : Mk.Sublist M) [hm : MixK E.P] (h : WD E l.toArray l.toArray.size (Array.replicate l.toArray.size false) f G M Mk (Q .normal)) (hq : ∀ c f G M, ¬ Q (.panic c) f G M := by rintro _ _ _ _ ⟨h | h, _⟩ <;> cases h) :
    WC E (.region id l.toArray true) Q f G M := WC.drawW Mk hsub hm.h hq h
theorem Cn.dn {n : Nat} (hr : Region.ready .any ops listed = []) (k : Cn n (K f G M)) : Cn (n + 1) (WD E ops fuel listed f G M Mk K) := ⟨WD.done hr k.h⟩
theorem Cn.dq {n id : Nat} {l : List Oper} {Q : Exit → Kt} [hm : MixK E.P] (hB : Region.lexB .any l.toArray = true) (k : Cn n (W E l.toArray true l f G M (Q .normal))) : Cn (n + 1) (WC E (.region id l.toArray true) Q f G M) := ⟨WC.draw hm.h hB k.h⟩
end
theorem d9 (l : List Nat) {A B : Prop} (h : A) (k : Hd9 A → Cd l B := by
  intro h9
  repeat (first
    | (with_reducible apply Cd.tk
       kernel_rfl
       kernel_rfl
       kernel_rfl
       exact rfl
       exact rfl
       exact ok9
       exact rfl)
    | (with_reducible apply Cd.st
       kernel_rfl
       exact rfl
       exact rfl
       first
       | exact fun K h => W.s1 rfl (v := .int _ _) rfl rfl rfl h
       | exact fun K h => W.s1 rfl (v := .slice _ _ _) rfl rfl rfl h
       | exact fun K h => W.s1 rfl (v := .string _) rfl rfl rfl h
       | exact fun K h => W.s1 rfl (v := .bool _) rfl rfl rfl h
       | exact fun K h => W.s1 rfl (v := .pointer _) rfl rfl rfl h
       | exact fun K h => W.sA rfl rfl rfl rfl (by rfl) (by rfl) h
       exact sb9)
    | (with_reducible apply Cd.tY
       kernel_rfl
       kernel_rfl
       kernel_rfl
       exact rfl
       exact rfl
       exact rfl
       exact rfl
       exact pk9
       exact ok9
       exact rfl
       exact rfl)
    | (with_reducible apply Cd.tF
       kernel_rfl
       kernel_rfl
       kernel_rfl
       exact rfl
       exact rfl
       exact rfl
       exact rfl
       exact pk9
       exact rfl
       exact rfl)
    | (with_reducible apply Cd.tT
       kernel_rfl
       kernel_rfl
       kernel_rfl
       exact rfl
       exact rfl
       exact rfl
       exact rfl
       exact pk9
       exact rfl
       exact rfl))
  exact (⟨h9.h⟩ : Cd [] _)) : B := (k ⟨h⟩).h
theorem g9 (n : Nat) {A B : Prop} (h : A) (k : Hd9 A → Cn n B := by
  intro h9
  repeat (first
    | ((with_reducible apply Cn.ok); exact ok9; exact rfl)
    | (with_reducible apply Cn.noF
       exact rfl
       exact rfl
       exact pk9
       exact rfl)
    | (with_reducible apply Cn.yes
       exact rfl
       exact rfl
       exact pk9
       exact rfl)
    | (with_reducible apply Cn.noT
       exact rfl
       exact rfl
       exact pk9
       exact rfl)
    | with_reducible apply Cn.nil
    | with_reducible apply Cn.rg
    | with_reducible apply Cn.sq
    | with_reducible apply Cn.tn
    | (with_reducible apply Cn.isW
       first
       | refine Cn.st (fun h => W.s1 rfl (v := .int _ _) rfl rfl rfl h) ?_
       | refine Cn.st (fun h => W.s1 rfl (v := .slice _ _ _) rfl rfl rfl h) ?_
       | refine Cn.st (fun h => W.s1 rfl (v := .string _) rfl rfl rfl h) ?_
       | refine Cn.st (fun h => W.s1 rfl (v := .bool _) rfl rfl rfl h) ?_
       | refine Cn.st (fun h => W.s1 rfl (v := .pointer _) rfl rfl rfl h) ?_
       | refine Cn.st (fun h => W.sA rfl rfl rfl rfl (by rfl) (by rfl) h) ?_
       | (with_reducible apply Cn.nou
          exact rfl
          exact rfl
          exact rfl))
    | ((with_reducible apply Cn.dn); kernel_rfl)
    | ((with_reducible apply Cn.dq); kernel_rfl)
    | with_reducible apply Cn.bk
    | with_reducible apply Cn.sk
    | with_reducible apply Cn.rt
    | with_reducible apply Cn.xt
    | with_reducible apply Cn.bn
    | with_reducible apply Cn.tx
    | with_reducible apply Cn.bh
    | with_reducible apply Cn.tr
    | with_reducible apply Cn.br
    | ((with_reducible apply Cn.cT); exact rfl; exact pk9)
    | ((with_reducible apply Cn.cF); exact rfl; exact pk9)
    | ((with_reducible apply Cn.bm); exact rfl)
    | (with_reducible apply Cn.rr
       exact rsl))
  exact (⟨h9.h⟩ : Cn 0 _)) : B := (k ⟨h⟩).h
end Go.Fw
