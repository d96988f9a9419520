/- Runs of steps that ask for no choice, in one word. Nothing of the program is named here. No condition. -/
import Derived.Test.YtbbemibbmbmamaaGreatQiX2
set_option linter.unusedVariables false
set_option linter.unusedSimpArgs false
set_option linter.unnecessarySimpa false
set_option linter.unusedSectionVars false
namespace Go.Fw
open Go Go.RowKit
abbrev iV (n : Int) : Value := .int .i64 n
abbrev nt9 (n : Nat) : Value := .int .i64 (n : Int)
abbrev sV (s : ByteArray) : Value := .string s
abbrev lV (a : Option Addr) (n c : Nat) : Value := .slice a n c
abbrev pt9 (b : Nat) : Value := .pointer (some ⟨b, 0, none⟩)
abbrev ce9 (T : TypeId) (L : List Value) : Obj := .cells (List.toArray L) T (0, 0)
abbrev nz9 : List Value := [.int .i64 0, .int .i64 0, .slice none 0 0, .slice none 0 0, .string ⟨#[]⟩, .bool false, .int .i64 0, .int .i64 0, .slice none 0 0, .slice none 0 0]
theorem WD.tk {E : Env} {f : Fr} {G : GH} {M Mk : MH} {ops : Array Oper} {K : Kt} {fuel : Nat} {listed : Array Bool} (i : Nat) {op : Op} {ty : TypeId} {pos : String} {aft : Array Edge} {d : Nat} {v : Value} (ho : ops[i]? = some ⟨some d, op, ty, pos, aft, none⟩) (hok : Ok E f G Mk ⟨some d, op, ty, pos, aft, none⟩ v)
    (h : WD E ops fuel (listed.setIfInBounds i true) (upd f d v) G M Mk K) (hs : Region.noSelect ops = true := by kernel_rfl) (hf : Region.free .any ops listed i = true := by kernel_rfl) (hr : (Region.ready .any ops listed).contains i = true := by kernel_rfl) (hd : Nat.blt d E.n = true := by rfl) : WD E ops (fuel + 1) listed f G M Mk K :=
  WD.take i ho rfl rfl hs hf hr hok h hd
theorem WD.n9 {E : Env} {f : Fr} {G G' : GH} {M' Mk : MH} {ops : Array Oper} {K : Kt} {fuel : Nat} {listed : Array Bool} (a : Le G G') (b : Mk.Sublist M') (h : WD E ops fuel listed f G' M' Mk K) : Le G G' ∧ Mk.Sublist M' ∧ ∃ Mk' : MH, Mk'.Sublist M' ∧ Mk.Sublist Mk' ∧ WD E ops fuel listed f G' M' Mk' K := ⟨a, b, Mk, b, List.Sublist.refl _, h⟩
theorem WD.a1 {E : Env} {f : Fr} {G : GH} {M Mk : MH} {ops : Array Oper} {K : Kt} {fuel : Nat} {listed : Array Bool} (i : Nat) {dst : Option Nat} {op : Op} {ty : TypeId} {pos : String} {aft : Array Edge} (ho : ops[i]? = some ⟨dst, op, ty, pos, aft, none⟩)
    (h : W E [(⟨dst, op, ty, pos, aft, none⟩ : Oper)].toArray false [(⟨dst, op, ty, pos, aft, none⟩ : Oper)] f G M (fun f' G' M' => Le G G' ∧ Mk.Sublist M' ∧ ∃ Mk', Mk'.Sublist M' ∧ Mk.Sublist Mk' ∧ WD E ops fuel (listed.setIfInBounds i true) f' G' M' Mk' K))
    (hr : Region.ready .any ops listed = [i] := by kernel_rfl) : WD E ops (fuel + 1) listed f G M Mk K := WD.any [i] hr rfl ⟨⟨_, ho, rfl, h⟩, trivial⟩
theorem WD.ap {E : Env} {f : Fr} {G : GH} {M : MH} {K : Kt} {ops : Array Oper} {i : Nat} {dst : Option Nat} {op : Op} {ty : TypeId} {pos : String} {aft : Array Edge} (h : W E [(⟨dst, op, ty, pos, aft, none⟩ : Oper)].toArray false [(⟨dst, op, ty, pos, aft, none⟩ : Oper)] f G M K) (ho : ops[i]? = some ⟨dst, op, ty, pos, aft, none⟩ := by rfl) :
    ∃ o, ops[i]? = some o ∧ o.guard = none ∧ W E [o].toArray false [o] f G M K := ⟨_, ho, rfl, h⟩
section
variable {E : Env} {Q : Exit → Kt} {f : Fr} {G : GH} {M : MH} {x y : Code} {c : Operand} {p : Prop} {inst : Decidable p} {ops : List Oper} {q : Bool} {l : List Oper} {K : Kt}
theorem WC.cd (ht : decide p = true → p → WC E x Q f G M) (hf : decide p = false → ¬ p → WC E y Q f G M) (hc : ev f c = .bool (decide p) := by rfl) : WC E (.cond c x y) Q f G M := WC.cond hc (fun h => ht h (of_decide_eq_true h)) (fun h => hf h (of_decide_eq_false h))
theorem WC.cn (ht : (!decide p) = true → ¬ p → WC E x Q f G M) (hf : (!decide p) = false → p → WC E y Q f G M) (hc : ev f c = .bool (!decide p) := by rfl) : WC E (.cond c x y) Q f G M := WC.cond hc (fun h => ht h (Zmc h)) (fun h => hf h (Zmd h))
theorem W.sd (dj : Nat) (ht : decide p = true → p → W E ops.toArray q l f G M K) (hf : decide p = false → ¬ p → W E ops.toArray q l f G M K) (hc : f dj = .bool (decide p) := by rfl) : W E ops.toArray q l f G M K := W.sp dj hc (fun h => ht h (of_decide_eq_true h)) (fun h => hf h (of_decide_eq_false h))
theorem W.sm (dj : Nat) (ht : (!decide p) = true → ¬ p → W E ops.toArray q l f G M K) (hf : (!decide p) = false → p → W E ops.toArray q l f G M K) (hc : f dj = .bool (!decide p) := by rfl) : W E ops.toArray q l f G M K := W.sp dj hc (fun h => ht h (Zmc h)) (fun h => hf h (Zmd h))
end
theorem Fc.go {P : Program} {g : FuncId} {fn : Func} {c : Code} {n : Nat} {args : List Value} {G : GH} {M : MH} {Q : Value → GH → MH → Prop} (rs : List ResultVar) (hf : P.funcs[g]? = some fn) (hn : fn.ntmps = n) (hb : fn.body = some c)
    (h : ∀ w0, WC ⟨P, n, w0, fun b => b ∈ M.map (·.1), G⟩ c (fun e f G' M' => (e = .normal ∨ e = .ret) ∧ ∃ vs, ResL P f M' rs vs ∧ ∃ M'', M''.Sublist M' ∧ Q (Zbu vs) G' M'') (ZX (fun _ => undef) (JW 0 args)) G M)
    (hr : fn.results.toList = rs := by rfl) (hl : Nat.ble args.length n = true := by rfl) (hN : (fn.name == "runtime.NumGoroutine") = false := by decide) : Fc P g args G M Q :=
  Fc.intro (Zl2 hf (by rw [hb]; rfl) hN) hf hb hn hr hl h
class EqE {α : Type} (e : Enc α) (c : outParam (α → List Value)) : Prop where
  h : ∀ G cs a, e.R G cs a → cs = c a
class EqP {α : Type} (e : Enc α) (c : outParam (α → List Value)) (p : outParam (α → Prop)) : Prop where
  h : ∀ G cs a, e.R G cs a → cs = c a ∧ p a
instance : EqE Yh (fun s => [.string s.b]) := ⟨fun _ _ _ h => h⟩
instance : EqE Zp (fun p => [.string p.key.b, .string p.val.b]) := ⟨fun _ _ _ h => h⟩
instance : EqP ZA (fun n => [.int .i64 n]) i64 := ⟨fun _ _ _ h => h⟩
instance : EqP Zu (fun m => [.int .i64 m.stamp, .int .i64 m.kind, .string m.key.b, .string m.hi.b, .bool m.opn, .string m.val.b]) Msg.Ok := ⟨fun _ _ _ h => h⟩
section
variable {α : Type} {e : Enc α} {G : GH} {v : Value} {l : List α} {c : α → List Value} {p : α → Prop} {T : TypeId} {Ms : MH} {P : Prop} {i : Nat}
theorem SlR.a1 (h : SlR e G v l) [hE : EqE e c] (hi : i < l.length) (k : ElemAt G v e.k i (c l[i]) → P) : P := by obtain ⟨cs, h1, h2⟩ := h.at hi; rw [hE.h _ _ _ h2] at h1; exact k h1
theorem SlR.a2 (h : SlR e G v l) [hE : EqP e c p] (hi : i < l.length) (k : ElemAt G v e.k i (c l[i]) → p l[i] → P) : P := by obtain ⟨cs, h1, h2⟩ := h.at hi; obtain ⟨h3, h4⟩ := hE.h _ _ _ h2; rw [h3] at h1; exact k h1 h4
theorem OwnR.a1 (h : OwnR e T G v l Ms) [hE : EqE e c] (hi : i < l.length) (k : OwnAt Ms v e.k i (c l[i]) → P) : P := by obtain ⟨cs, h1, h2⟩ := h.at hi; rw [hE.h _ _ _ h2] at h1; exact k h1
theorem OwnR.a2 (h : OwnR e T G v l Ms) [hE : EqP e c p] (hi : i < l.length) (k : OwnAt Ms v e.k i (c l[i]) → p l[i] → P) : P := by obtain ⟨cs, h1, h2⟩ := h.at hi; obtain ⟨h3, h4⟩ := hE.h _ _ _ h2; rw [h3] at h1; exact k h1 h4
abbrev NdK (n : Nd) (a1 : Option Addr) (c1 : Nat) (a2 : Option Addr) (c2 : Nat) (a3 : Option Addr) (c3 : Nat) (a4 : Option Addr) (c4 : Nat) : List Value := [.int .i64 n.slot, .int .i64 n.level, .slice a1 n.pivots.length c1, .slice a2 n.kids.length c2, .string n.high.b, .bool n.top, .int .i64 n.right, .int .i64 n.seen, .slice a3 n.msgs.length c3, .slice a4 n.rows.length c4]
theorem SlR.aN {l : List Nd} (h : SlR Zv G v l) (hi : i < l.length) (k : ∀ a1 c1 a2 c2 a3 c3 a4 c4, ElemAt G v Zv.k i [.int .i64 l[i].slot, .int .i64 l[i].level, .slice a1 l[i].pivots.length c1, .slice a2 l[i].kids.length c2, .string l[i].high.b, .bool l[i].top, .int .i64 l[i].right, .int .i64 l[i].seen, .slice a3 l[i].msgs.length c3, .slice a4 l[i].rows.length c4] → SlR Yh G (.slice a1 l[i].pivots.length c1) l[i].pivots → SlR ZA G (.slice a2 l[i].kids.length c2) l[i].kids → SlR Zu G (.slice a3 l[i].msgs.length c3) l[i].msgs → SlR Zp G (.slice a4 l[i].rows.length c4) l[i].rows → l[i].Ok → P) : P := by
  obtain ⟨cs, h1, a1, c1, a2, c2, a3, c3, a4, c4, h2, q1, q2, q3, q4, q5⟩ := h.at hi; rw [h2] at h1; exact k _ _ _ _ _ _ _ _ h1 q1 q2 q3 q4 q5
theorem OwnR.aN {l : List Nd} (h : OwnR Zv T G v l Ms) (hi : i < l.length) (k : ∀ a1 c1 a2 c2 a3 c3 a4 c4, OwnAt Ms v Zv.k i [.int .i64 l[i].slot, .int .i64 l[i].level, .slice a1 l[i].pivots.length c1, .slice a2 l[i].kids.length c2, .string l[i].high.b, .bool l[i].top, .int .i64 l[i].right, .int .i64 l[i].seen, .slice a3 l[i].msgs.length c3, .slice a4 l[i].rows.length c4] → SlR Yh G (.slice a1 l[i].pivots.length c1) l[i].pivots → SlR ZA G (.slice a2 l[i].kids.length c2) l[i].kids → SlR Zu G (.slice a3 l[i].msgs.length c3) l[i].msgs → SlR Zp G (.slice a4 l[i].rows.length c4) l[i].rows → l[i].Ok → P) : P := by
  obtain ⟨cs, h1, a1, c1, a2, c2, a3, c3, a4, c4, h2, q1, q2, q3, q4, q5⟩ := h.at hi; rw [h2] at h1; exact k _ _ _ _ _ _ _ _ h1 q1 q2 q3 q4 q5
end
section
variable {E : Env} {f : Fr} {G : GH} {M : MH} {ops rest : List Oper} {K : Kt} {d : Nat} {ty : TypeId} {pos : String} {aft : Array Edge} {g : FuncId} {args : List Operand} {at' : Array TypeId} {vs : List Value}
theorem W.cS {α : Type} {e : Enc α} {l : List α} {F : Value → Value} (hc : Fc E.P g vs G [] (fun v G' M' => M' = [] ∧ ∃ u, v = F u ∧ SlR e G' u l)) (ha : args.map (ev f) = vs)
    (k : ∀ a c G', Le G G' → SlR e G' (.slice a l.length c) l → W E ops.toArray false rest (upd f d (F (.slice a l.length c))) G' M K) (hd : Nat.blt d E.n = true := by rfl) :
    W E ops.toArray false (⟨some d, .call { callee := .value (.func g), args := args.toArray, argTypes := at' }, ty, pos, aft, none⟩ :: rest) f G M K :=
  W.call (Mp := []) hc ha (List.Perm.refl _) (fun v G' M' hl ⟨h1, u, h2, h3⟩ => by
    obtain ⟨a, c, h4⟩ := h3.form
    subst h1 h4 h2
    exact k a c G' hl h3) hd
theorem W.cN {n : Nd} {F : List Value → Value} (hc : Fc E.P g vs G [] (fun v G' M' => M' = [] ∧ ∃ u, v = F u ∧ NodeC G' u n)) (ha : args.map (ev f) = vs)
    (k : ∀ a1 c1 a2 c2 a3 c3 a4 c4 G', Le G G' → SlR Yh G' (.slice a1 n.pivots.length c1) n.pivots → SlR ZA G' (.slice a2 n.kids.length c2) n.kids → SlR Zu G' (.slice a3 n.msgs.length c3) n.msgs → SlR Zp G' (.slice a4 n.rows.length c4) n.rows → n.Ok →
      W E ops.toArray false rest (upd f d (F (NdK n a1 c1 a2 c2 a3 c3 a4 c4))) G' M K) (hd : Nat.blt d E.n = true := by rfl) :
    W E ops.toArray false (⟨some d, .call { callee := .value (.func g), args := args.toArray, argTypes := at' }, ty, pos, aft, none⟩ :: rest) f G M K :=
  W.call (Mp := []) hc ha (List.Perm.refl _) (fun v G' M' hl ⟨h1, u, h2, a1, c1, a2, c2, a3, c3, a4, c4, h3, q1, q2, q3, q4, q5⟩ => by
    subst h1 h3 h2
    exact k _ _ _ _ _ _ _ _ G' hl q1 q2 q3 q4 q5) hd
theorem W.cM {β : Type} {s : β} {F : β → List Value → List Value → Value} {A B : β → Nd} (hc : Fc E.P g vs G [] (fun v G' M' => M' = [] ∧ ∃ r, r = s ∧ ∃ u w, v = F r u w ∧ NodeC G' u (A r) ∧ NodeC G' w (B r))) (ha : args.map (ev f) = vs)
    (k : ∀ a1 c1 a2 c2 a3 c3 a4 c4 b1 d1 b2 d2 b3 d3 b4 d4 G', Le G G' → SlR Yh G' (.slice a1 (A s).pivots.length c1) (A s).pivots → SlR ZA G' (.slice a2 (A s).kids.length c2) (A s).kids → SlR Zu G' (.slice a3 (A s).msgs.length c3) (A s).msgs → SlR Zp G' (.slice a4 (A s).rows.length c4) (A s).rows → (A s).Ok →
      SlR Yh G' (.slice b1 (B s).pivots.length d1) (B s).pivots → SlR ZA G' (.slice b2 (B s).kids.length d2) (B s).kids → SlR Zu G' (.slice b3 (B s).msgs.length d3) (B s).msgs → SlR Zp G' (.slice b4 (B s).rows.length d4) (B s).rows → (B s).Ok →
      W E ops.toArray false rest (upd f d (F s (NdK (A s) a1 c1 a2 c2 a3 c3 a4 c4) (NdK (B s) b1 d1 b2 d2 b3 d3 b4 d4))) G' M K) (hd : Nat.blt d E.n = true := by rfl) :
    W E ops.toArray false (⟨some d, .call { callee := .value (.func g), args := args.toArray, argTypes := at' }, ty, pos, aft, none⟩ :: rest) f G M K :=
  W.call (Mp := []) hc ha (List.Perm.refl _) (fun v G' M' hl ⟨h1, r, hr, u, w, h2, ⟨a1, c1, a2, c2, a3, c3, a4, c4, h3, q1, q2, q3, q4, q5⟩, b1, d1, b2, d2, b3, d3, b4, d4, p3, p5, p6, p7, p8, p9⟩ => by
    subst hr h1 h3 p3 h2
    exact k _ _ _ _ _ _ _ _ _ _ _ _ _ _ _ _ G' hl q1 q2 q3 q4 q5 p5 p6 p7 p8 p9) hd
end
structure Cn (n : Nat) (B : Prop) : Prop where
  h : B
structure Hd9 (A : Prop) : Prop where
  h : A
theorem Cn.st {n : Nat} {B B' : Prop} (f : B' → B) (k : Cn n B') : Cn (n + 1) B := ⟨f k.h⟩
class TyK (P : Program) (t : TypeId) (b : outParam Bool) (j : outParam Nat) : Prop where
  h : tyK P t = some (b, j)
class SlK (P : Program) (t : TypeId) (t' : outParam TypeId) : Prop where
  h : ZY P t = some t'
class FdK (P : Program) (t : TypeId) (j : Nat) (off : outParam Nat) : Prop where
  h : ZK P t j = some off
class StK (P : Program) (t : TypeId) : Prop where
  h : P.underlying t = some .string
class BoK (P : Program) (t : TypeId) : Prop where
  h : P.underlying t = some .bool
class InM (M : MH) (b : Nat) (i : outParam Nat) (L : outParam (List Value)) (T : outParam TypeId) : Prop where
  h : Jg M i = some (b, .cells L.toArray T (0, 0))
instance InM.hd {b : Nat} {L : List Value} {T : TypeId} {M : MH} : InM ((b, .cells (List.toArray L) T (0, 0)) :: M) b 0 L T := ⟨rfl⟩
instance (priority := 900) InM.tl {c : Nat × Obj} {M : MH} {b i : Nat} {L : List Value} {T : TypeId} [h : InM M b i L T] : InM (c :: M) b (i + 1) L T := ⟨h.h⟩
instance (priority := 800) InM.nl {M : MH} {b i : Nat} {L : List Value} {T : TypeId} [h : InM M b i L T] : InM ([] ++ M) b i L T := ⟨h.h⟩
instance (priority := 700) InM.ap {c : Nat × Obj} {M N : MH} {b i : Nat} {L : List Value} {T : TypeId} [h : InM (c :: (M ++ N)) b i L T] : InM ((c :: M) ++ N) b i L T := ⟨h.h⟩
class SetAt (L : List Value) (o : Nat) (v : Value) (L' : outParam (List Value)) : Prop where
  h : Yr L o [v] = L' ∧ o + 1 ≤ L.length
instance SetAt.z {x : Value} {L : List Value} {v : Value} : SetAt (x :: L) 0 v (v :: L) := ⟨by cases L <;> simp [Yr], by simp⟩
instance (priority := 900) SetAt.s {x : Value} {L : List Value} {o : Nat} {v : Value} {L' : List Value} [h : SetAt L o v L'] : SetAt (x :: L) (o + 1) v (x :: L') := ⟨by simp only [Yr, h.h.1], by have := h.h.2; simp only [List.length_cons]; omega⟩
instance (priority := 800) SetAt.z0 {x : Value} {L : List Value} {v : Value} : SetAt (x :: L) (0 + 0) v (v :: L) := ⟨by cases L <;> simp [Yr], by simp⟩
instance (priority := 700) SetAt.p {L : List Value} {a c : Nat} {v : Value} {L' : List Value} [h : SetAt L (a + c) v L'] : SetAt L (a + c + 0) v L' := ⟨h.h⟩
class StM (M : MH) (b o : Nat) (v : Value) (T : outParam TypeId) (M' : outParam MH) : Prop where
  h : ∃ i L L', Jg M i = some (b, .cells (List.toArray L) T (0, 0)) ∧ Yr L o [v] = L' ∧ o + 1 ≤ L.length ∧ Xn M i (.cells (List.toArray L') T (0, 0)) = M'
instance StM.hd {b o : Nat} {L L' : List Value} {v : Value} {T : TypeId} {M : MH} [h : SetAt L o v L'] : StM ((b, .cells (List.toArray L) T (0, 0)) :: M) b o v T ((b, .cells (List.toArray L') T (0, 0)) :: M) :=
  ⟨0, L, L', rfl, h.h.1, h.h.2, rfl⟩
instance (priority := 900) StM.tl {c : Nat × Obj} {M M' : MH} {b o : Nat} {v : Value} {T : TypeId} [h : StM M b o v T M'] : StM (c :: M) b o v T (c :: M') := by
  obtain ⟨i, L, L', h1, h2, h3, h4⟩ := h.h
  exact ⟨i + 1, L, L', h1, h2, h3, by simp only [Xn, h4]⟩
instance (priority := 800) StM.nl {M M' : MH} {b o : Nat} {v : Value} {T : TypeId} [h : StM M b o v T M'] : StM ([] ++ M) b o v T M' := ⟨h.h⟩
instance (priority := 700) StM.ap {c : Nat × Obj} {M N M' : MH} {b o : Nat} {v : Value} {T : TypeId} [h : StM (c :: (M ++ N)) b o v T M'] : StM ((c :: M) ++ N) b o v T M' := ⟨h.h⟩
class PtM (M : MH) (b : Nat) (L' : List Value) (L : outParam (List Value)) (T : outParam TypeId) (M' : outParam MH) : Prop where
  h : ∃ i, Jg M i = some (b, .cells (List.toArray L) T (0, 0)) ∧ Xn M i (.cells (List.toArray L') T (0, 0)) = M'
instance PtM.hd {b : Nat} {L L' : List Value} {T : TypeId} {M : MH} : PtM ((b, .cells (List.toArray L) T (0, 0)) :: M) b L' L T ((b, .cells (List.toArray L') T (0, 0)) :: M) := ⟨0, rfl, rfl⟩
instance (priority := 900) PtM.tl {c : Nat × Obj} {M M' : MH} {b : Nat} {L L' : List Value} {T : TypeId} [h : PtM M b L' L T M'] : PtM (c :: M) b L' L T (c :: M') := by
  obtain ⟨i, h1, h2⟩ := h.h
  exact ⟨i + 1, h1, by simp only [Xn, h2]⟩
instance (priority := 800) PtM.nl {M M' : MH} {b : Nat} {L L' : List Value} {T : TypeId} [h : PtM M b L' L T M'] : PtM ([] ++ M) b L' L T M' := ⟨h.h⟩
instance (priority := 700) PtM.ap {c : Nat × Obj} {M N M' : MH} {b : Nat} {L L' : List Value} {T : TypeId} [h : PtM (c :: (M ++ N)) b L' L T M'] : PtM ((c :: M) ++ N) b L' L T M' := ⟨h.h⟩
instance (priority := 600) InM.z {c : Nat} {u w : Obj} {M : MH} {b i : Nat} {L : List Value} {T : TypeId} [h : InM ((c, w) :: M) b i L T] : InM (Xn ((c, u) :: M) 0 w) b i L T := ⟨h.h⟩
instance (priority := 500) InM.sc {p : Nat × Obj} {w : Obj} {M : MH} {k : Nat} {b i : Nat} {L : List Value} {T : TypeId} [h : InM (p :: Xn M k w) b i L T] : InM (Xn (p :: M) (k + 1) w) b i L T := ⟨h.h⟩
instance (priority := 600) StM.z {c : Nat} {u w : Obj} {M : MH} {b o : Nat} {v : Value} {T : TypeId} {M' : MH} [h : StM ((c, w) :: M) b o v T M'] : StM (Xn ((c, u) :: M) 0 w) b o v T M' := ⟨h.h⟩
instance (priority := 500) StM.sc {p : Nat × Obj} {w : Obj} {M : MH} {k : Nat} {b o : Nat} {v : Value} {T : TypeId} {M' : MH} [h : StM (p :: Xn M k w) b o v T M'] : StM (Xn (p :: M) (k + 1) w) b o v T M' := ⟨h.h⟩
instance (priority := 600) PtM.z {c : Nat} {u w : Obj} {M : MH} {b : Nat} {L L' : List Value} {T : TypeId} {M' : MH} [h : PtM ((c, w) :: M) b L' L T M'] : PtM (Xn ((c, u) :: M) 0 w) b L' L T M' := ⟨h.h⟩
instance (priority := 500) PtM.sc {p : Nat × Obj} {w : Obj} {M : MH} {k : Nat} {b : Nat} {L L' : List Value} {T : TypeId} {M' : MH} [h : PtM (p :: Xn M k w) b L' L T M'] : PtM (Xn (p :: M) (k + 1) w) b L' L T M' := ⟨h.h⟩
section
variable {E : Env} {f : Fr} {G : GH} {M : MH} {ops rest : List Oper} {q : Bool} {K : Kt} {d : Nat} {op : Op} {ty : TypeId} {pos : String} {aft : Array Edge} {v : Value} {x y : Operand} {t t' : TypeId} {b o : Nat}
theorem ZmA {i : Nat} {L : List Value} {T : TypeId} [hT : TyK E.P t false 1] (hx : ev f x = .pointer (some ⟨b, o, none⟩)) [hM : InM M b i L T] (hv : L[o]? = some v) : Ok E f G M ⟨some d, .load t x, ty, pos, aft, none⟩ v :=
  Zex (vs := [v]) hT.h hx hM.h (by
    have hl := (List.getElem?_eq_some_iff.1 hv)
    obtain ⟨h1, h2⟩ := hl
    rw [List.drop_eq_getElem_cons h1, h2]; simp) rfl (fun _ => rfl)
theorem ZmB {i j : Nat} {L : List Value} {T : TypeId} [hT : TyK E.P t true j] (hx : ev f x = .pointer (some ⟨b, o, none⟩)) (ho : o = 0) [hM : InM M b i L T] (hj : L.length = j) : Ok E f G M ⟨some d, .load t x, ty, pos, aft, none⟩ (.agg L.toArray) :=
  Zex (vs := L) hT.h hx hM.h (by subst ho hj; simp) hj (fun h => by cases h)
class CutL (L : List Value) (o j : Nat) (vs : outParam (List Value)) : Prop where
  h : (L.drop o).take j = vs ∧ vs.length = j
instance CutL.n {L : List Value} : CutL L 0 0 [] := ⟨by simp, rfl⟩
instance CutL.c {x : Value} {L : List Value} {j : Nat} {vs : List Value} [h : CutL L 0 j vs] : CutL (x :: L) 0 (j + 1) (x :: vs) := ⟨by have := h.h.1; simp only [List.drop_zero] at this; simp [this], by simp [h.h.2]⟩
instance CutL.s {x : Value} {L : List Value} {o j : Nat} {vs : List Value} [h : CutL L o j vs] : CutL (x :: L) (o + 1) j vs := ⟨by simpa using h.h.1, h.h.2⟩
instance CutL.z {L : List Value} {j : Nat} {vs : List Value} [h : CutL L 0 j vs] : CutL L (0 + 0) j vs := ⟨h.h⟩
theorem ZmC {i j : Nat} {L vs : List Value} {T : TypeId} [hT : TyK E.P t true j] (hx : ev f x = .pointer (some ⟨b, o, none⟩)) [hM : InM M b i L T] [hC : CutL L o j vs] : Ok E f G M ⟨some d, .load t x, ty, pos, aft, none⟩ (.agg vs.toArray) :=
  Zex (vs := vs) hT.h hx hM.h hC.h.1 hC.h.2 (fun h => by cases h)
theorem ZmD {u : Value} {kk i : Nat} {cs : List Value} [hT : TyK E.P t false 1] (hx : ev f x = .pointer (some (Xx u kk i o))) (he : ElemAt G u kk i cs) (hv : cs[o]? = some v) : Ok E f G M ⟨some d, .load t x, ty, pos, aft, none⟩ v :=
  Zcg (vs := [v]) hT.h he hx (by
    have hl := (List.getElem?_eq_some_iff.1 hv)
    obtain ⟨h1, h2⟩ := hl
    rw [List.drop_eq_getElem_cons h1, h2]; simp) rfl (fun _ => rfl)
theorem ZmE {u : Value} {kk i j : Nat} {cs : List Value} [hT : TyK E.P t true j] (hx : ev f x = .pointer (some (Xx u kk i o))) (ho : o = 0) (he : ElemAt G u kk i cs) (hj : cs.length = j) : Ok E f G M ⟨some d, .load t x, ty, pos, aft, none⟩ (.agg cs.toArray) :=
  Zcg (vs := cs) hT.h he hx (by subst ho hj; simp) hj (fun h => by cases h)
theorem ZmF {u : Value} {kk i j : Nat} {cs vs : List Value} (hT : TyK E.P t true j) (hx : ev f x = .pointer (some (Xx u kk i o))) (he : ElemAt G u kk i cs) (hC : CutL cs o j vs) : Ok E f G M ⟨some d, .load t x, ty, pos, aft, none⟩ (.agg vs.toArray) :=
  Zcg (vs := vs) hT.h he hx hC.h.1 hC.h.2 (fun h => by cases h)
theorem ZmG {off : Nat} {j : Nat} [hF : FdK E.P t j off] (hx : ev f x = .pointer (some ⟨b, o, none⟩)) : Ok E f G M ⟨some d, .fieldAddr t x j, ty, pos, aft, none⟩ (.pointer (some ⟨b, o + off, none⟩)) := Zl0 hF.h hx
theorem ZmH {u : Value} {kk i off : Nat} {j : Nat} [hF : FdK E.P t j off] (hx : ev f x = .pointer (some (Xx u kk i o))) (hv : ∃ a n c, u = .slice (some a) n c) : Ok E f G M ⟨some d, .fieldAddr t x j, ty, pos, aft, none⟩ (.pointer (some (Xx u kk i (o + off)))) := ZuX hF.h hx hv
theorem W.s1 {T : TypeId} {M' : MH} [hT : TyK E.P t false 1] (hx : ev f x = .pointer (some ⟨b, o, none⟩)) (hy : ev f y = v) (hc : v.cells.toList = [v]) (h1 : Value.oneCell' v = true) [hM : StM M b o v T M']
    (k : W E ops.toArray false rest f G M' K) : W E ops.toArray false (⟨none, .store t x y, ty, pos, aft, none⟩ :: rest) f G M K := by
  obtain ⟨i, L, L', a1, a2, a3, a4⟩ := hM.h
  exact W.store hT.h hx a1 hy hc rfl (by simp [h1]) (Nat.ble_eq ▸ a3) a2 (a4 ▸ k)
theorem W.sA {T : TypeId} {L L' : List Value} {M' : MH} {j : Nat} [hT : TyK E.P t true j] (hx : ev f x = .pointer (some ⟨b, o, none⟩)) (ho : o = 0) (hy : ev f y = .agg L'.toArray) (h1 : L'.all Value.oneCell' = true) [hM : PtM M b L' L T M'] (hl : L.length = j) (hl' : L'.length = j)
    (k : W E ops.toArray false rest f G M' K) : W E ops.toArray false (⟨none, .store t x y, ty, pos, aft, none⟩ :: rest) f G M K := by
  obtain ⟨i, a1, a2⟩ := hM.h
  subst ho
  exact W.store (vs := L') hT.h hx a1 hy (by simp [Value.cells]) hl' h1 (Nat.ble_eq ▸ (by omega : 0 + j ≤ L.length)) (by rw [Zab _ _ _ (by omega)]; simp [hl, hl']) (a2 ▸ k)
variable {α : Type} {e : Enc α} {l : List α} {m : Int} {k : IntKind}
theorem ZmI [hT : SlK E.P t t'] (hx : ev f x = v) (hs : SlR e G v l) :
    Ok E f G M ⟨some d, .call { callee := .builtin .len, args := #[x], argTypes := #[t] }, ty, pos, aft, none⟩ (.int .i64 l.length) := Zc7 hT.h hs hx
theorem ZmJ [hT : SlK E.P t t'] {T : TypeId} {Ms : MH} (hx : ev f x = v) (ho : OwnR e T G v l Ms) :
    Ok E f G M ⟨some d, .call { callee := .builtin .len, args := #[x], argTypes := #[t] }, ty, pos, aft, none⟩ (.int .i64 l.length) := Zu2 hT.h ho hx
theorem ZmK [hT : StK E.P t] {a : ByteArray} (hx : ev f x = .string a) :
    Ok E f G M ⟨some d, .call { callee := .builtin .len, args := #[x], argTypes := #[t] }, ty, pos, aft, none⟩ (.int .i64 a.size) := ZuW hT.h hx
theorem ZmL {bb : Bool} {j i n c : Nat} {a : Option Addr} [hT : SlK E.P t t'] [hK : TyK E.P t' bb j] (hx : ev f x = .slice a n c) (hs : SlR e G (.slice a n c) l) (hj : j = e.k) (hy : ev f y = .int k m) (hi : m = ((i : Nat) : Int)) (hl : i < l.length) :
    Ok E f G M ⟨some d, .indexAddr t x y, ty, pos, aft, none⟩ (.pointer (some (Xx (.slice a n c) e.k i 0))) := Yu hT.h (hj ▸ hK.h) hs hx hy ⟨hi, hl⟩
end
theorem ZmM {α : Type} {x : α} : (some x).isSome = true := rfl
theorem ZmN {α : Type} {x : α} : (some x).isNone = false := rfl
theorem ZmO {α : Type} : (none : Option α).isNone = true := rfl
theorem ZmP {α : Type} : (none : Option α).isSome = false := rfl
theorem nb9 {a : Bool} (h : a = true) : (!a) = false := by rw [h]; rfl
theorem nc9 {a : Bool} (h : a = false) : (!a) = true := by rw [h]; rfl
theorem nF9 : (!false) = true := rfl
theorem nT9 : (!true) = false := rfl
theorem pk9 {a b : Bool} (h : a = b := by first | with_reducible assumption | with_reducible rfl | with_reducible exact ZmM | with_reducible exact ZmN | with_reducible exact nF9 | with_reducible exact nT9 | with_reducible exact ZmO | with_reducible exact ZmP | exact nb9 (by with_reducible assumption) | exact nc9 (by with_reducible assumption) | decide) : a = b := h
theorem ZmQ {P : Program} {f : Fr} {M : MH} : ResL P f M [] [] := trivial
theorem ZmR {P : Program} {f : Fr} {M : MH} {rs : List ResultVar} {vs : List Value} {v : Value} {t : Nat} (hx : f t = v) (k : ResL P f M rs vs) : ResL P f M (.tmp t :: rs) (v :: vs) := ⟨hx, k⟩
theorem ZmS {P : Program} {f : Fr} {M : MH} {rs : List ResultVar} {vs L : List Value} {a b i k : Nat} {t T : TypeId} {bb : Bool} (hx : f a = .pointer (some ⟨b, 0, none⟩)) (hM : InM M b i L T) (hT : TyK P t bb k) (h1 : bb = false → k = 1) (hl : L.length = k) (h : ResL P f M rs vs) : ResL P f M (.cell a t :: rs) (mkV bb L :: vs) :=
  ⟨⟨_, _, _, _, _, hx, YI hM.h, hT.h, h1, hl, rfl⟩, h⟩
theorem rsl {P : Program} {f : Fr} {M : MH} {rs : List ResultVar} {vs : List Value} (h : ResL P f M rs vs := by
  repeat (first
    | exact ZmQ
    | ((with_reducible apply ZmR); exact rfl)
    | ((with_reducible apply ZmS); exact rfl; infer_instance; infer_instance; simp; exact rfl))) : ResL P f M rs vs := h
theorem hs9 {f : Fr} {l : List (Nat × Value)} (h : Has f l := by
  repeat (first
    | exact trivial
    | refine ⟨by first | rfl | exact iv (by dsimp only; omega) | exact iv (by omega), ?_⟩)) : Has f l := h
theorem lec {A B : GH} (h : Le A B := by repeat (first | exact Le.rfl | assumption | refine Le.trans ?_ (by assumption))) : Le A B := h
theorem SlR.mo {α : Type} {e : Enc α} {G G' : GH} {v : Value} {l : List α} (h : SlR e G v l) (hl : Le G G') : SlR e G' v l := h.mono hl
theorem OwnR.mo {α : Type} {e : Enc α} {T : TypeId} {G G' : GH} {v : Value} {l : List α} {Ms : MH} (h : OwnR e T G v l Ms) (hl : Le G G') : OwnR e T G' v l Ms := h.mono hl
theorem ElemAt.mo {G G' : GH} {v : Value} {k n : Nat} {cs : List Value} (h : ElemAt G v k n cs) (hl : Le G G') : ElemAt G' v k n cs := h.mono hl
theorem SlR.go {α : Type} {e : Enc α} {G : GH} {v : Value} {l : List α} (h : SlR e G v l := by first | assumption | exact SlR.mo (by assumption) lec) : SlR e G v l := h
theorem Cn.isW {E : Env} {f : Fr} {G : GH} {M : MH} {ops : Array Oper} {q : Bool} {l : List Oper} {K : Kt} {n : Nat} (h : Cn n (W E ops q l f G M K)) : Cn n (W E ops q l f G M K) := h
section
variable {E : Env} {f : Fr} {G : GH} {M : MH} {ops rest : List Oper} {q : Bool} {K : Kt} {d n : Nat} {op : Op} {ty : TypeId} {pos : String} {aft : Array Edge} {v : Value} {x y z : Operand} {t t' : TypeId} {Q : Exit → Kt} {c c' : Code} {b : Bool} {j dj : Nat}
theorem ZmT {j : Nat} (h : Ok E f G M ⟨some d, .fieldAddr t x j, ty, pos, aft, none⟩ v) : Ok E f G M ⟨some d, .fieldAddr t x j, ty, pos, aft, none⟩ v := h
theorem ZmU (h : Ok E f G M ⟨some d, .load t x, ty, pos, aft, none⟩ v) : Ok E f G M ⟨some d, .load t x, ty, pos, aft, none⟩ v := h
theorem ZmV (h : Ok E f G M ⟨some d, .pick x y z, ty, pos, aft, none⟩ v) : Ok E f G M ⟨some d, .pick x y z, ty, pos, aft, none⟩ v := h
theorem ZmW {o : BinOp} (h : Ok E f G M ⟨some d, .binOp o t x y t', ty, pos, aft, none⟩ v) : Ok E f G M ⟨some d, .binOp o t x y t', ty, pos, aft, none⟩ v := h
theorem ZmX {c : Call} (h : Ok E f G M ⟨some d, .call c, ty, pos, aft, none⟩ v) : Ok E f G M ⟨some d, .call c, ty, pos, aft, none⟩ v := h
theorem Cn.ok (h : Ok E f G M ⟨some d, op, ty, pos, aft, none⟩ v) (hd : Nat.blt d E.n = true) (k : Cn n (W E ops.toArray q rest (upd f d v) G M K)) : Cn (n + 1) (W E ops.toArray q (⟨some d, op, ty, pos, aft, none⟩ :: rest) f G M K) := ⟨W.ok h k.h hd⟩
theorem Cn.noF (hj : (ops.toArray[j]?).bind (·.dst) = some dj) (hb : f dj = .bool b) (hn : b = true) (hd : Nat.blt d E.n = true) (k : Cn n (W E ops.toArray q rest (upd f d undef) G M K)) : Cn (n + 1) (W E ops.toArray q (⟨some d, op, ty, pos, aft, some (j, false)⟩ :: rest) f G M K) := ⟨W.no hj hb (by rw [hn]; rfl) k.h hd⟩
theorem Cn.noT (hj : (ops.toArray[j]?).bind (·.dst) = some dj) (hb : f dj = .bool b) (hn : b = false) (hd : Nat.blt d E.n = true) (k : Cn n (W E ops.toArray q rest (upd f d undef) G M K)) : Cn (n + 1) (W E ops.toArray q (⟨some d, op, ty, pos, aft, some (j, true)⟩ :: rest) f G M K) := ⟨W.no hj hb (by rw [hn]; rfl) k.h hd⟩
theorem Cn.yes {o : Option Nat} {w : Bool} (hj : (ops.toArray[j]?).bind (·.dst) = some dj) (hb : f dj = .bool b) (hn : b = w) (hd : Nat.blt dj E.n = true) (k : Cn n (W E ops.toArray q (⟨o, op, ty, pos, aft, none⟩ :: rest) f G M K)) : Cn (n + 1) (W E ops.toArray q (⟨o, op, ty, pos, aft, some (j, w)⟩ :: rest) f G M K) := ⟨W.yes hj hb hn k.h hd⟩
theorem Cn.nou {w : Bool} (hj : (ops.toArray[j]?).bind (·.dst) = some dj) (hb : f dj = undef) (hd : Nat.blt d E.n = true) (k : Cn n (W E ops.toArray q rest (upd f d undef) G M K)) : Cn (n + 1) (W E ops.toArray q (⟨some d, op, ty, pos, aft, some (j, w)⟩ :: rest) f G M K) := ⟨W.nou hj hb k.h hd⟩
theorem Cn.nil (k : Cn n (K f G M)) : Cn (n + 1) (W E ops.toArray q [] f G M K) := ⟨W.nil k.h⟩
theorem Cn.rg {id : Nat} {l : List Oper} (k : Cn n (W E l.toArray false l f G M (Q .normal))) : Cn (n + 1) (WC E (.region id l.toArray false) Q f G M) := ⟨WC.region k.h⟩
theorem Cn.sq (k : Cn n (WC E c (thn (WC E c' Q) Q) f G M)) : Cn (n + 1) (WC E (.seq c c') Q f G M) := ⟨WC.seq k.h⟩
theorem Cn.bk {id : Nat} (k : Cn n (WC E c (blk id Q) f G M)) : Cn (n + 1) (WC E (.block id c) Q f G M) := ⟨WC.block k.h⟩
theorem Cn.sk (k : Cn n (Q .normal f G M)) : Cn (n + 1) (WC E .skip Q f G M) := ⟨WC.skip k.h⟩
theorem Cn.rt (k : Cn n (Q .ret f G M)) : Cn (n + 1) (WC E .ret Q f G M) := ⟨WC.ret k.h⟩
theorem Cn.xt {id : Nat} (k : Cn n (Q (.exit id) f G M)) : Cn (n + 1) (WC E (.exit id) Q f G M) := ⟨WC.exit k.h⟩
theorem Cn.cT (hc : ev f x = .bool b) (hb : b = true) (k : Cn n (WC E c Q f G M)) : Cn (n + 1) (WC E (.cond x c c') Q f G M) := ⟨WC.cond_t hc hb k.h⟩
theorem Cn.cF (hc : ev f x = .bool b) (hb : b = false) (k : Cn n (WC E c' Q f G M)) : Cn (n + 1) (WC E (.cond x c c') Q f G M) := ⟨WC.cond_f hc hb k.h⟩
theorem Cn.tn (k : Cn n (K f G M)) : Cn (n + 1) (thn K Q .normal f G M) := ⟨Xg k.h⟩
theorem Cn.tx {id : Nat} (k : Cn n (Q (.exit id) f G M)) : Cn (n + 1) (thn K Q (.exit id) f G M) := ⟨ZgQ k.h⟩
theorem Cn.tr (k : Cn n (Q .ret f G M)) : Cn (n + 1) (thn K Q .ret f G M) := ⟨ZlS k.h⟩
theorem Cn.bn {id : Nat} (k : Cn n (Q .normal f G M)) : Cn (n + 1) (blk id Q .normal f G M) := ⟨JV k.h⟩
theorem Cn.br {id : Nat} (k : Cn n (Q .ret f G M)) : Cn (n + 1) (blk id Q .ret f G M) := ⟨ZuL k.h⟩
theorem Cn.bh {id : Nat} (k : Cn n (Q .normal f G M)) : Cn (n + 1) (blk id Q (.exit id) f G M) := ⟨ZlT k.h⟩
theorem Cn.rr {P : Program} {rs : List ResultVar} {vs : List Value} {R : List Value → MH → Prop} (hr : ResL P f M rs vs) (k : Cn n (R vs [])) : Cn (n + 1) ((Exit.ret = .normal ∨ Exit.ret = .ret) ∧ ∃ vs, ResL P f M rs vs ∧ ∃ M', M'.Sublist M ∧ R vs M') := ⟨.inr rfl, vs, hr, [], List.nil_sublist _, k.h⟩
theorem Cn.bm {id id' : Nat} (hn : Nat.beq id' id = false) (k : Cn n (Q (.exit id') f G M)) : Cn (n + 1) (blk id Q (.exit id') f G M) := ⟨ZuM k.h hn⟩
end
theorem ok9 {E : Env} {f : Fr} {G : GH} {M : MH} {o : Oper} {v : Value} (h : Ok E f G M o v := by
  first
  | (with_reducible apply ZmT
     first
     | exact ZmG rfl
     | exact ZmH rfl (by first | exact ElemAt.form (by assumption) | exact OwnAt.form (by assumption)))
  | (with_reducible apply ZmU
     first
     | exact ZmA rfl rfl
     | exact ZmB rfl rfl rfl
     | exact ZmC rfl
     | exact ZmD rfl (by first | assumption | exact ElemAt.mo (by assumption) lec) (by rfl)
     | exact ZmE rfl rfl (by first | assumption | exact ElemAt.mo (by assumption) lec) (by rfl)
     | ((with_reducible apply ZmF); infer_instance; exact rfl; (first | assumption | exact ElemAt.mo (by assumption) lec); infer_instance))
  | (with_reducible apply ZmV
     first
     | exact Zc4 rfl pk9
     | exact Zc5 rfl pk9)
  | (with_reducible apply ZmW
     first
     | ((with_reducible apply Zet); exact rfl; exact rfl)
     | ((with_reducible apply YY); exact rfl; exact rfl; first | omega | (dsimp only; omega))
     | ((with_reducible apply ZlW); exact rfl; exact rfl)
     | ((with_reducible apply Zeu); exact rfl; exact rfl)
     | ((with_reducible apply ZuO); exact rfl; exact rfl)
     | ((with_reducible apply ZuQ); exact rfl; exact rfl)
     | ((with_reducible apply ZuP); exact rfl; exact rfl)
     | ((with_reducible apply Zar); exact rfl; exact rfl; first | omega | (dsimp only; omega))
     | ((with_reducible apply ZuU); exact rfl; exact rfl)
     | ((with_reducible apply ZuV); exact rfl; exact rfl)
     | ((with_reducible apply ZuT); exact rfl; exact rfl))
  | (with_reducible apply ZmX
     first
     | exact ZmK rfl
     | exact ZmI rfl SlR.go
     | exact ZmJ rfl (by first | assumption | exact OwnR.mo (by assumption) lec))
  | with_reducible apply ZlU
  | with_reducible apply ZlV
  | ((with_reducible apply Zc8); exact rfl; exact rfl)
  | ((with_reducible apply ZuN); exact rfl)
  | ((with_reducible apply Zvx); exact rfl)
  | exact ZmL rfl SlR.go (by rfl) rfl rfl (by omega)) : Ok E f G M o v := h
structure Cd (l : List Nat) (B : Prop) : Prop where
  h : B
section
variable {E : Env} {f : Fr} {G : GH} {M Mk : MH} {ops : Array Oper} {K : Kt} {fuel F : Nat} {listed : Array Bool} {i d j dj : Nat} {l : List Nat} {op : Op} {ty t T : TypeId} {pos : String} {aft : Array Edge} {v : Value} {x y : Operand} {b o : Nat} {w u : Bool}
theorem Cd.tk (hr : (Region.ready .any ops listed).contains i = true) (hf : Region.free .any ops listed i = true) (hs : Region.noSelect ops = true) (hF : F = fuel + 1) (ho : ops[i]? = some ⟨some d, op, ty, pos, aft, none⟩) (hok : Ok E f G Mk ⟨some d, op, ty, pos, aft, none⟩ v) (hd : Nat.blt d E.n = true)
    (k : Cd l (WD E ops fuel (listed.setIfInBounds i true) (upd f d v) G M Mk K)) : Cd (i :: l) (WD E ops F listed f G M Mk K) := ⟨hF ▸ WD.take i ho rfl rfl hs hf hr hok k.h hd⟩
theorem Cd.tY (hr : (Region.ready .any ops listed).contains i = true) (hf : Region.free .any ops listed i = true) (hs : Region.noSelect ops = true) (hF : F = fuel + 1) (ho : ops[i]? = some ⟨some d, op, ty, pos, aft, some (j, w)⟩) (hj : (ops[j]?).bind (·.dst) = some dj) (hb : f dj = .bool u) (hw : u = w) (hok : Ok E f G Mk ⟨some d, op, ty, pos, aft, none⟩ v) (hd : Nat.blt d E.n = true) (hdj : Nat.blt dj E.n = true)
    (k : Cd l (WD E ops fuel (listed.setIfInBounds i true) (upd f d v) G M Mk K)) : Cd (i :: l) (WD E ops F listed f G M Mk K) := ⟨hF ▸ WD.takeY i dj ho rfl rfl hj hb hw hs hf hr hok k.h hd hdj⟩
theorem Cd.tF (hr : (Region.ready .any ops listed).contains i = true) (hf : Region.free .any ops listed i = true) (hs : Region.noSelect ops = true) (hF : F = fuel + 1) (ho : ops[i]? = some ⟨some d, op, ty, pos, aft, some (j, false)⟩) (hj : (ops[j]?).bind (·.dst) = some dj) (hb : f dj = .bool u) (hw : u = true) (hd : Nat.blt d E.n = true) (hdj : Nat.blt dj E.n = true)
    (k : Cd l (WD E ops fuel (listed.setIfInBounds i true) (upd f d undef) G M Mk K)) : Cd (i :: l) (WD E ops F listed f G M Mk K) := ⟨hF ▸ WD.takeN i dj ho rfl rfl hj hb (by rw [hw]; rfl) hs hf hr k.h hd hdj⟩
theorem Cd.tT (hr : (Region.ready .any ops listed).contains i = true) (hf : Region.free .any ops listed i = true) (hs : Region.noSelect ops = true) (hF : F = fuel + 1) (ho : ops[i]? = some ⟨some d, op, ty, pos, aft, some (j, true)⟩) (hj : (ops[j]?).bind (·.dst) = some dj) (hb : f dj = .bool u) (hw : u = false) (hd : Nat.blt d E.n = true) (hdj : Nat.blt dj E.n = true)
    (k : Cd l (WD E ops fuel (listed.setIfInBounds i true) (upd f d undef) G M Mk K)) : Cd (i :: l) (WD E ops F listed f G M Mk K) := ⟨hF ▸ WD.takeN i dj ho rfl rfl hj hb (by rw [hw]; rfl) hs hf hr k.h hd hdj⟩
theorem Cd.st {M' : MH} (hr : Region.ready .any ops listed = [i]) (hF : F = fuel + 1) (ho : ops[i]? = some ⟨none, op, ty, pos, aft, none⟩)
    (hw : ∀ K, W E [(⟨none, op, ty, pos, aft, none⟩ : Oper)].toArray false [] f G M' K → W E [(⟨none, op, ty, pos, aft, none⟩ : Oper)].toArray false [(⟨none, op, ty, pos, aft, none⟩ : Oper)] f G M K)
    (hs : Mk.Sublist M') (k : Cd l (WD E ops fuel (listed.setIfInBounds i true) f G M' Mk K)) : Cd (i :: l) (WD E ops F listed f G M Mk K) := ⟨hF ▸ WD.a1 i ho (hw _ (W.nil (WD.n9 Le.rfl hs k.h))) hr⟩
theorem ZmY {A B : MH} (h : A.Sublist B) : A.Sublist ([] ++ B) := h
theorem ZmZ {A B C : MH} {p : Nat × Obj} (h : A.Sublist (p :: (B ++ C))) : A.Sublist ((p :: B) ++ C) := h
theorem Zm0 {A B : MH} (h : A.Sublist B) : ([] ++ A).Sublist B := h
theorem Zm1 {A B C : MH} {p : Nat × Obj} (h : (p :: (A ++ C)).Sublist B) : ((p :: A) ++ C).Sublist B := h
theorem sb9 {A B : MH} (h : A.Sublist B := by
  repeat (first
    | with_reducible exact List.nil_sublist _
    | with_reducible exact List.Sublist.refl _
    | with_reducible apply List.Sublist.cons_cons
    | with_reducible apply ZmY
    | with_reducible apply ZmZ
    | with_reducible apply Zm0
    | with_reducible apply Zm1
    | apply List.Sublist.cons)) : A.Sublist B := h
theorem W.nn {G' : GH} {M' : MH} {ops' : List Oper} {q : Bool} (h : WD E ops fuel listed f G' M' Mk K) (hl : Le G G' := by exact lec) (hs : Mk.Sublist M' := by exact sb9) :
    W E ops'.toArray q [] f G' M' (fun f' G' M' => Le G G' ∧ Mk.Sublist M' ∧ ∃ Mk', Mk'.Sublist M' ∧ Mk.Sublist Mk' ∧ WD E ops fuel listed f' G' M' Mk' K) := W.nil (WD.n9 hl hs h)
class MixK (P : Program) : Prop where
  h : P.follows .mixedOrders = true
theorem WC.dw {Q : Exit → Kt} {id : Nat} {l : List Oper} (hsub : Mk.Sublist M) [hm : MixK E.P] (h : WD E l.toArray l.toArray.size (Array.replicate l.toArray.size false) f G M Mk (Q .normal)) (hq : ∀ c f G M, ¬ Q (.panic c) f G M := by rintro _ _ _ _ ⟨h | h, _⟩ <;> cases h) :
    WC E (.region id l.toArray true) Q f G M := WC.drawW Mk hsub hm.h hq h
theorem Cn.dn {n : Nat} (hr : Region.ready .any ops listed = []) (k : Cn n (K f G M)) : Cn (n + 1) (WD E ops fuel listed f G M Mk K) := ⟨WD.done hr k.h⟩
theorem Cn.dq {n id : Nat} {l : List Oper} {Q : Exit → Kt} [hm : MixK E.P] (hB : Region.lexB .any l.toArray = true) (k : Cn n (W E l.toArray true l f G M (Q .normal))) : Cn (n + 1) (WC E (.region id l.toArray true) Q f G M) := ⟨WC.draw hm.h hB k.h⟩
end
theorem d9 (l : List Nat) {A B : Prop} (h : A) (k : Hd9 A → Cd l B := by
  intro h9
  repeat (first
    | (with_reducible apply Cd.tk
       kernel_rfl
       kernel_rfl
       kernel_rfl
       exact rfl
       exact rfl
       exact ok9
       exact rfl)
    | (with_reducible apply Cd.st
       kernel_rfl
       exact rfl
       exact rfl
       first
       | exact fun K h => W.s1 rfl (v := .int _ _) rfl rfl rfl h
       | exact fun K h => W.s1 rfl (v := .slice _ _ _) rfl rfl rfl h
       | exact fun K h => W.s1 rfl (v := .string _) rfl rfl rfl h
       | exact fun K h => W.s1 rfl (v := .bool _) rfl rfl rfl h
       | exact fun K h => W.s1 rfl (v := .pointer _) rfl rfl rfl h
       | exact fun K h => W.sA rfl rfl rfl rfl (by rfl) (by rfl) h
       exact sb9)
    | (with_reducible apply Cd.tY
       kernel_rfl
       kernel_rfl
       kernel_rfl
       exact rfl
       exact rfl
       exact rfl
       exact rfl
       exact pk9
       exact ok9
       exact rfl
       exact rfl)
    | (with_reducible apply Cd.tF
       kernel_rfl
       kernel_rfl
       kernel_rfl
       exact rfl
       exact rfl
       exact rfl
       exact rfl
       exact pk9
       exact rfl
       exact rfl)
    | (with_reducible apply Cd.tT
       kernel_rfl
       kernel_rfl
       kernel_rfl
       exact rfl
       exact rfl
       exact rfl
       exact rfl
       exact pk9
       exact rfl
       exact rfl))
  exact (⟨h9.h⟩ : Cd [] _)) : B := (k ⟨h⟩).h
theorem g9 (n : Nat) {A B : Prop} (h : A) (k : Hd9 A → Cn n B := by
  intro h9
  repeat (first
    | ((with_reducible apply Cn.ok); exact ok9; exact rfl)
    | (with_reducible apply Cn.noF
       exact rfl
       exact rfl
       exact pk9
       exact rfl)
    | (with_reducible apply Cn.yes
       exact rfl
       exact rfl
       exact pk9
       exact rfl)
    | (with_reducible apply Cn.noT
       exact rfl
       exact rfl
       exact pk9
       exact rfl)
    | with_reducible apply Cn.nil
    | with_reducible apply Cn.rg
    | with_reducible apply Cn.sq
    | with_reducible apply Cn.tn
    | (with_reducible apply Cn.isW
       first
       | refine Cn.st (fun h => W.s1 rfl (v := .int _ _) rfl rfl rfl h) ?_
       | refine Cn.st (fun h => W.s1 rfl (v := .slice _ _ _) rfl rfl rfl h) ?_
       | refine Cn.st (fun h => W.s1 rfl (v := .string _) rfl rfl rfl h) ?_
       | refine Cn.st (fun h => W.s1 rfl (v := .bool _) rfl rfl rfl h) ?_
       | refine Cn.st (fun h => W.s1 rfl (v := .pointer _) rfl rfl rfl h) ?_
       | refine Cn.st (fun h => W.sA rfl rfl rfl rfl (by rfl) (by rfl) h) ?_
       | (with_reducible apply Cn.nou
          exact rfl
          exact rfl
          exact rfl))
    | ((with_reducible apply Cn.dn); kernel_rfl)
    | ((with_reducible apply Cn.dq); kernel_rfl)
    | with_reducible apply Cn.bk
    | with_reducible apply Cn.sk
    | with_reducible apply Cn.rt
    | with_reducible apply Cn.xt
    | with_reducible apply Cn.bn
    | with_reducible apply Cn.tx
    | with_reducible apply Cn.bh
    | with_reducible apply Cn.tr
    | with_reducible apply Cn.br
    | ((with_reducible apply Cn.cT); exact rfl; exact pk9)
    | ((with_reducible apply Cn.cF); exact rfl; exact pk9)
    | ((with_reducible apply Cn.bm); exact rfl)
    | (with_reducible apply Cn.rr
       exact rsl))
  exact (⟨h9.h⟩ : Cn 0 _)) : B := (k ⟨h⟩).h
end Go.Fw

namespace Go.Fw
open Go
def ZeJ {α : Type} (w : α → Int) : List α → Int → Int → Int
 | [], n, _ => n
 | s :: l, n, most => if n ≤ most then ZeJ w l (n + w s) most else n
def Pair.w (p : Pair) : Int := 1 + p.key.b.size + p.val.b.size
def Msg.w (m : Msg) : Int := 1 + m.key.b.size + m.hi.b.size + m.val.b.size
theorem Pair.eq_of {a b : Pair} (h : (!Xh [.string a.key.b, .string a.val.b] [.string b.key.b, .string b.val.b]) = false) : a = b := by
 cases a; cases b
 simpa [Xh, Str.b_inj] using h
theorem Pair.ne_of {a b : Pair} (h : (!Xh [.string a.key.b, .string a.val.b] [.string b.key.b, .string b.val.b]) = true) : a ≠ b := by
 intro e; subst e; simp [Xh] at h
def PairsR (l : List Pair) : Prop := ∀ i (h : i < l.length), (l[i].key.b.size ≤ 16 ∧ l[i].val.b.size ≤ 16) ∧ (0 < i → (l[i - 1]'om9).key.lt l[i].key = true)
instance (l : List Pair) : Decidable (PairsR l) := by unfold PairsR; infer_instance
def Str.next (a : Str) : Str := if h : (a.b ++ ⟨#[0]⟩).size ≤ 140737488355328 then ⟨a.b ++ ⟨#[0]⟩, h⟩ else a
theorem Str.next_b {a : Str} (h : a.b.size < 140737488355328) : a.next.b = a.b ++ ⟨#[0]⟩ := by
 have h1 : (a.b ++ ⟨#[0]⟩).size ≤ 140737488355328 := by rw [ByteArray.size_append]; show _ + 1 ≤ _; omega
 rw [Str.next, dif_pos h1]
def Msg.span (m : Msg) : Span := if m.kind = 4 then ⟨m.key, m.hi, m.opn⟩ else ⟨m.key, m.key.next, false⟩
def Span.meet (a b : Span) : Span := Span.norm ⟨if a.lo.lt b.lo = true then b.lo else a.lo, if b.opn = false ∧ (a.opn = true ∨ b.hi.lt a.hi = true) then b.hi else a.hi, a.opn && b.opn⟩
def Msg.clip (m : Msg) (s : Span) : Msg × Bool :=
 if (m.span.meet s).empty = true then (⟨0, 0, Str.nil, Str.nil, false, Str.nil⟩, false)
 else if m.kind = 4 then ({ m with key := (m.span.meet s).lo, hi := (m.span.meet s).hi, opn := (m.span.meet s).opn }, true) else (m, true)
def Msg.size (m : Msg) : Int := if m.kind = 4 then 36 else 4 + m.key.b.size + m.val.b.size
theorem Str.min_eq (a b : Str) : a.min b = if b.lt a = true then b else a := by
 unfold Str.min
 cases h : b.lt a
 ·cases h2 : a.lt b
  ·obtain rfl := Str.lt_total h h2; simp
  ·simp
 ·have h3 := Str.lt_asymm h
  rw [h3]
  have h4 : a ≠ b := by rintro rfl; rw [Str.lt_irrefl] at h; cases h
  simp [h4]
theorem ZeK (a b : Span) : Span.norm ⟨a.lo.max b.lo, if a.opn = true then b.hi else if b.opn = true then a.hi else a.hi.min b.hi, a.opn && b.opn⟩ = Span.meet a b := by
 unfold Span.meet
 rw [Str.min_eq]
 cases h1 : a.opn <;> cases h2 : b.opn <;> simp [Str.max]
 simp [Span.norm, Span.empty]
theorem Zae {m : Msg} {s : Span} (h : (m.span.meet s).empty = true) : m.clip s = (⟨0, 0, Str.nil, Str.nil, false, Str.nil⟩, false) := if_pos h
theorem Zaf {m : Msg} {s : Span} (h : (m.span.meet s).empty = false) (k : m.kind = 4) : m.clip s = ({ m with key := (m.span.meet s).lo, hi := (m.span.meet s).hi, opn := (m.span.meet s).opn }, true) := by
 rw [Msg.clip, if_neg (by simp [h]), if_pos k]
theorem Zdd {m : Msg} {s : Span} (h : (m.span.meet s).empty = false) (k : ¬ m.kind = 4) : m.clip s = (m, true) := by
 rw [Msg.clip, if_neg (by simp [h]), if_neg k]
def Zc (s : Span) (l : List Msg) : List Msg := l.filterMap fun m => if (m.clip s).2 = true then some (m.clip s).1 else none
theorem Zm2 {s : Span} {l : List Msg} {i : Nat} (h : i < l.length) (hc : (l[i].clip s).2 = true) : Zc s (l.take (i + 1)) = Zc s (l.take i) ++ [(l[i].clip s).1] := by
 rw [Zc, List.take_succ_eq_append_getElem h, List.filterMap_append]; simp [Zc, hc]
theorem Zm3 {s : Span} {l : List Msg} {i : Nat} (h : i < l.length) (hc : (l[i].clip s).2 = false) : Zc s (l.take (i + 1)) = Zc s (l.take i) := by
 rw [Zc, List.take_succ_eq_append_getElem h, List.filterMap_append]; simp [Zc, hc]
theorem Za7 {s : Span} {l : List Msg} : (Zc s l).length ≤ l.length := List.length_filterMap_le _ _
theorem ZeL {m : Msg} {s : Span} (h : m.Ok) : (m.clip s).1.Ok := by
 unfold Msg.clip
 split
 ·exact ⟨⟨by decide, by decide⟩, ⟨by decide, by decide⟩⟩
 ·split
  ·exact h
  ·exact h
def X2 (a b : ByteArray) : Nat → Nat → Nat
 | 0, k => k
 | n + 1, k => if k < a.size ∧ k < b.size ∧ a[k]? = b[k]? then X2 a b n (k + 1) else k
def Z6 (a b : Str) : Nat := X2 a.b b.b a.b.size 0
theorem Zde {a b : ByteArray} : ∀ {n k j : Nat}, j ≤ k + n → k ≤ j → j ≤ a.size → j ≤ b.size → (∀ i, i < j → a[i]? = b[i]?) → X2 a b n k = X2 a b (n + k - j) j
 | 0, k, j, h1, h2, _, _, _ => by
  obtain rfl : j = k := om9
  simp
 | n + 1, k, j, h1, h2, h3, h4, h5 => by
  by_cases e : k = j
  ·subst e; simp
  ·rw [X2, if_pos ⟨om9, om9, h5 k om9⟩, Zde (n := n) (k := k + 1) (j := j) om9 om9 h3 h4 h5]
   congr 1; omega
theorem Zm4 {a b : Str} {k : Nat} (h : ∀ i, i < k → a.b[i]? = b.b[i]?) (h1 : k < a.b.size) (h2 : k < b.b.size) (hn : a.b[k]? ≠ b.b[k]?) : Z6 a b = k := by
 rw [Z6, Zde (j := k) om9 om9 om9 om9 h]
 obtain ⟨m, hm⟩ : ∃ m, a.b.size + 0 - k = m + 1 := ⟨a.b.size - k - 1, om9⟩
 rw [hm, X2, if_neg (by simp [hn])]
theorem Zm5 {a b : Str} {k : Nat} (h1 : k ≤ a.b.size) (h2 : k ≤ b.b.size) (h : ∀ i, i < k → a.b[i]? = b.b[i]?) (he : k = a.b.size ∨ k = b.b.size) : Z6 a b = k := by
 rw [Z6, Zde (j := k) om9 om9 h1 h2 h]
 cases hm : a.b.size + 0 - k with
 | zero => rfl
 | succ m => rw [X2, if_neg om9]
theorem Zhf (a b : ByteArray) : ∀ n k, k ≤ a.size → k ≤ b.size → X2 a b n k ≤ a.size ∧ X2 a b n k ≤ b.size
 | 0, k, h1, h2 => ⟨h1, h2⟩
 | n + 1, k, h1, h2 => by
  rw [X2]
  split
  ·rename_i h; exact Zhf a b n (k + 1) om9 om9
  ·exact ⟨h1, h2⟩
theorem ZeM (a b : Str) : Z6 a b ≤ a.b.size ∧ Z6 a b ≤ b.b.size := Zhf _ _ _ _ om9 om9
theorem Zhg {a b : ByteArray} : ∀ {n k : Nat}, (∀ i, i < k → a[i]? = b[i]?) → ∀ i, i < X2 a b n k → a[i]? = b[i]?
 | 0, k, h => h
 | n + 1, k, h => by
  rw [X2]
  split
  ·rename_i hc
   exact Zhg fun i hi => by
    by_cases e : i = k
    ·subst e; exact hc.2.2
    ·exact h i om9
  ·exact h
theorem ZbA (a b : Str) : ∀ i, i < Z6 a b → a.b[i]? = b.b[i]? := Zhg fun i hi => by omega
theorem Zm6 {a b : Str} {k : Nat} (h : ∀ i, i < k → a.b[i]? = b.b[i]?) (h1 : k < a.b.size) (h2 : k < b.b.size) (hn : ¬ ((a.b[k]'h1).toNat : Int) = (b.b[k]'h2).toNat) : Z6 a b = k :=
 Zm4 h h1 h2 fun e => hn (by
  rw [getElem?_pos a.b k h1, getElem?_pos b.b k h2] at e
  simp only [Option.some.injEq] at e
  rw [e])
theorem Zhh {a b : Str} (h : a.lt b = true) : Z6 a b < b.b.size := by
 obtain ⟨h1, h2⟩ := ZeM a b
 by_cases e : Z6 a b = b.b.size
 ·have := ZeC (ZbA a b) (.inr e) h1 h2
  rw [show blt a.b b.b = true from h] at this
  simp at this
  omega
 ·omega
def Jr (a b : Str) : Str × Bool := if a.lt b = true then (b.cut 0 (Z6 a b + 1), true) else (Str.nil, false)
theorem Zhi {a b : Str} (h : a.lt b = true) : Jr a b = (b.cut 0 (Z6 a b + 1), true) := if_pos h
theorem Zm7 {a b : Str} (h : a.lt b = false) : Jr a b = (Str.nil, false) := if_neg (by simp [h])
theorem ZeN {b : Str} {n : Nat} (h : n ≤ b.b.size) : (b.cut 0 n).b.size = n := by
 show (b.b.extract 0 n).size = n
 rw [ByteArray.size_extract]; omega
theorem ZeO {b : Str} {n i : Nat} (h : n ≤ b.b.size) (hi : i < n) : (b.cut 0 n).b[i]? = b.b[i]? := by
 have h1 : i < (b.cut 0 n).b.size := by rw [ZeN h]; exact hi
 rw [getElem?_pos _ i h1, getElem?_pos _ i om9]
 have h2 : ∀ hh, (b.b.extract 0 n)[i]'hh = b.b[i]'om9 := fun hh => by rw [ByteArray.getElem_extract]; simp
 exact congrArg some (h2 h1)
theorem Zhj {a b : Str} {n : Nat} (hn : n ≤ b.b.size) : a.lt (b.cut 0 n) = (a.lt b && decide (Z6 a b < n)) := by
 obtain ⟨h1, h2⟩ := ZeM a b
 have hs := ZeN hn
 by_cases hk : Z6 a b < n
 ·have hp : ∀ i, i < Z6 a b → a.b[i]? = (b.cut 0 n).b[i]? := fun i hi => by rw [ZeO hn om9]; exact ZbA a b i hi
  rw [decide_eq_true hk, Bool.and_true]
  show blt a.b (b.cut 0 n).b = blt a.b b.b
  by_cases ha : Z6 a b = a.b.size
  ·rw [← ZeC hp (.inl ha) om9 om9, ← ZeC (ZbA a b) (.inl ha) om9 om9, hs]
   rw [decide_eq_true om9, decide_eq_true om9]
  ·have hlt : Z6 a b < a.b.size := om9
   have hlb : Z6 a b < b.b.size := om9
   have hlc : Z6 a b < (b.cut 0 n).b.size := om9
   have hg := ZeO hn hk
   rw [getElem?_pos (b.cut 0 n).b (Z6 a b) hlc, getElem?_pos b.b (Z6 a b) hlb] at hg
   simp only [Option.some.injEq] at hg
   have hne : (a.b[Z6 a b]'hlt).toNat ≠ (b.b[Z6 a b]'hlb).toNat := fun e => by
    have h5 : Z6 a b + 1 ≤ Z6 a b := by
     have h6 : ∀ i, i < Z6 a b + 1 → a.b[i]? = b.b[i]? := fun i hi => by
      by_cases e2 : i = Z6 a b
      ·rw [e2, getElem?_pos a.b _ hlt, getElem?_pos b.b _ hlb, UInt8.toNat.inj e]
      ·exact ZbA a b i om9
     have h7 : Z6 a b = X2 a.b b.b (a.b.size + 0 - (Z6 a b + 1)) (Z6 a b + 1) := by
      conv => lhs; unfold Z6
      exact Zde om9 om9 om9 om9 h6
     have h8 : ∀ n k, k ≤ X2 a.b b.b n k := by
      intro n
      induction n with
      | zero => intro k; exact Nat.le_refl _
      | succ n ih =>
       intro k
       rw [X2]
       split
       ·exact Nat.le_trans (Nat.le_succ k) (ih (k + 1))
       ·exact Nat.le_refl _
     have := h8 (a.b.size + 0 - (Z6 a b + 1)) (Z6 a b + 1)
     omega
    omega
   rw [← Zmg hp hlt hlc (by rw [hg]; exact hne), ← Zmg (ZbA a b) hlt hlb hne, hg]
 ·have hp : ∀ i, i < n → a.b[i]? = (b.cut 0 n).b[i]? := fun i hi => by rw [ZeO hn hi]; exact ZbA a b i om9
  rw [decide_eq_false hk, Bool.and_false]
  show blt a.b (b.cut 0 n).b = false
  rw [← ZeC hp (.inr hs.symm) om9 om9, hs]
  exact decide_eq_false om9
def XG (l : List Pair) : List Pair × List Pair × Str × Bool :=
 if l.length < 2 then ([], [], Str.nil, false)
 else (l.take ((l.length + 1) / 2), l.drop ((l.length + 1) / 2), (Jr (l.getD ((l.length + 1) / 2 - 1) default).key (l.getD ((l.length + 1) / 2) default).key).1, true)
theorem Zhk {l : List Pair} (h : l.length < 2) : XG l = ([], [], Str.nil, false) := if_pos h
theorem Zcm {l : List Pair} (h : ¬ l.length < 2) : XG l = (l.take ((l.length + 1) / 2), l.drop ((l.length + 1) / 2), (Jr (l[(l.length + 1) / 2 - 1]'om9).key (l[(l.length + 1) / 2]'om9).key).1, true) := by
 rw [XG, if_neg h, Zg4 om9, Zg4 om9]
def Nd.light (m : Int) (n : Nd) : Prop := ZeJ Pair.w n.rows 0 m ≤ m ∧ Zmh n.pivots 0 m ≤ m ∧ (n.kids.length : Int) ≤ m ∧ ZeJ Msg.w n.msgs 0 m ≤ m ∧ (n.high.b.size : Int) ≤ m
instance (m : Int) (n : Nd) : Decidable (n.light m) := by unfold Nd.light; infer_instance
def Light (l : List Nd) (n m : Int) : Prop := (l.length : Int) ≤ n ∧ ∀ i (h : i < l.length), l[i].light m
instance (l : List Nd) (n m : Int) : Decidable (Light l n m) := by unfold Light; infer_instance
def Msg.R (m : Msg) : Prop := (1 ≤ m.stamp ∧ m.key.b.size ≤ 16 ∧ m.val.b.size ≤ 16 ∧ m.hi.b.size ≤ 16) ∧
 if m.kind = 4 then m.val = Str.nil ∧ (m.opn = false ∨ m.hi = Str.nil) ∧ m.span.empty = false
 else m.hi = Str.nil ∧ m.opn = false ∧ (m.kind = 1 ∨ m.kind = 2 ∨ (m.kind = 3 ∧ m.val = Str.nil))
instance (m : Msg) : Decidable m.R := by unfold Msg.R; infer_instance
def MsgsR (l : List Msg) : Prop := ∀ i (h : i < l.length), l[i].R ∧ (0 < i → (l[i - 1]'om9).stamp < l[i].stamp)
instance (l : List Msg) : Decidable (MsgsR l) := by unfold MsgsR; infer_instance
def ZN (n : Nd) : Nd × Nd × Str × Bool :=
 if n.level = 0 then ({ n with rows := (XG n.rows).1 }, { n with rows := (XG n.rows).2.1 }, (XG n.rows).2.2.1, (XG n.rows).2.2.2)
 else if YB n.pivots n.kids.length = false then (n, n, Str.nil, false)
 else ({ n with pivots := (Xe n.pivots n.kids).1, kids := (Xe n.pivots n.kids).2.1, msgs := Zc ⟨Str.nil, (Xe n.pivots n.kids).2.2.1, false⟩ n.msgs },
  { n with pivots := (Xe n.pivots n.kids).2.2.2.1, kids := (Xe n.pivots n.kids).2.2.2.2.1, msgs := Zc ⟨(Xe n.pivots n.kids).2.2.1, Str.nil, true⟩ n.msgs },
  (Xe n.pivots n.kids).2.2.1, (Xe n.pivots n.kids).2.2.2.2.2)
theorem Zav {n : Nd} (h : n.level = 0) : ZN n = ({ n with rows := (XG n.rows).1 }, { n with rows := (XG n.rows).2.1 }, (XG n.rows).2.2.1, (XG n.rows).2.2.2) := if_pos h
theorem Za8 {n : Nd} (h : ¬ n.level = 0) (h2 : YB n.pivots n.kids.length = false) : ZN n = (n, n, Str.nil, false) := by rw [ZN, if_neg h, if_pos h2]
theorem Zaw {n : Nd} (h : ¬ n.level = 0) (h2 : YB n.pivots n.kids.length = true) : ZN n = ({ n with pivots := (Xe n.pivots n.kids).1, kids := (Xe n.pivots n.kids).2.1, msgs := Zc ⟨Str.nil, (Xe n.pivots n.kids).2.2.1, false⟩ n.msgs },
  { n with pivots := (Xe n.pivots n.kids).2.2.2.1, kids := (Xe n.pivots n.kids).2.2.2.2.1, msgs := Zc ⟨(Xe n.pivots n.kids).2.2.1, Str.nil, true⟩ n.msgs },
  (Xe n.pivots n.kids).2.2.1, (Xe n.pivots n.kids).2.2.2.2.2) := by rw [ZN, if_neg h, if_neg (by simp [h2])]
def Nd.zero : Nd := ⟨0, 0, [], [], Str.nil, false, 0, 0, [], []⟩
theorem Nd.zero_ok : Nd.zero.Ok := ⟨⟨by decide, by decide⟩, ⟨by decide, by decide⟩, ⟨by decide, by decide⟩, ⟨by decide, by decide⟩⟩
def Zo (n : Nd) (i : Int) : Nd × Nd × Str × Bool :=
 if (ZN n).2.2.2 = true then ({ (ZN n).1 with high := (ZN n).2.2.1, top := false, right := i }, { (ZN n).2.1 with slot := i }, (ZN n).2.2.1, true)
 else (Nd.zero, Nd.zero, Str.nil, false)
theorem XQ {n : Nd} {i : Int} (h : (ZN n).2.2.2 = true) : Zo n i = ({ (ZN n).1 with high := (ZN n).2.2.1, top := false, right := i }, { (ZN n).2.1 with slot := i }, (ZN n).2.2.1, true) := if_pos h
theorem ZbB {n : Nd} {i : Int} (h : (ZN n).2.2.2 = false) : Zo n i = (Nd.zero, Nd.zero, Str.nil, false) := if_neg (by simp [h])
theorem ZbC {n : Nd} {i : Int} {s : Str} (h : n.Ok) (hi : i64 i) : Nd.Ok { n with high := s, top := false, right := i } := ⟨h.1, h.2.1, hi, h.2.2.2⟩
theorem ZbD {n : Nd} {i : Int} (h : n.Ok) (hi : i64 i) : Nd.Ok { n with slot := i } := ⟨hi, h.2.1, h.2.2.1, h.2.2.2⟩
def Zz (l : List Msg) : Int := (l.map Msg.size).sum
theorem Zm8 {l : List Msg} {k : Nat} (h : k < l.length) : Zz (l.take (k + 1)) = Zz (l.take k) + (l[k]).size := by
 rw [Zz, List.take_succ_eq_append_getElem h, List.map_append, List.sum_append]
 show _ + ((l[k]).size + 0) = _
 rw [Int.add_zero]; rfl
theorem Zdf {m : Msg} (h : m.key.b.size ≤ 16 ∧ m.val.b.size ≤ 16) : 4 ≤ m.size ∧ m.size ≤ 36 := by
 unfold Msg.size; split <;> omega
def Nd.has (n : Nd) (k : Str) : Bool := n.top || k.lt n.high
def Nd.leafR (leaf : Int) (n : Nd) : Prop := (n.pivots.length + n.kids.length + n.msgs.length = 0) ∧ (n.rows.length : Int) ≤ leaf ∧ PairsR n.rows ∧ ∀ i (h : i < n.rows.length), n.has n.rows[i].key = true
instance (m : Int) (n : Nd) : Decidable (n.leafR m) := by unfold Nd.leafR; infer_instance
def Nd.fits (n : Nd) (m : Msg) : Prop := m.stamp ≤ n.seen ∧ (n.top = true ∨ (m.span.opn = false ∧ n.high.lt m.span.hi = false))
instance (n : Nd) (m : Msg) : Decidable (n.fits m) := by unfold Nd.fits; infer_instance
def Nd.parts (n : Nd) (k : Str) : Prop := k ≠ Str.nil ∧ k.b.size ≤ 16 ∧ n.has k = true
instance (n : Nd) (k : Str) : Decidable (n.parts k) := by unfold Nd.parts; infer_instance
def Nd.innerR (fan bud : Int) (n : Nd) : Prop := (n.rows.length = 0 ∧ 2 ≤ n.kids.length ∧ (n.kids.length : Int) ≤ fan) ∧ YB n.pivots n.kids.length = true ∧ MsgsR n.msgs ∧ Zz n.msgs ≤ bud ∧
 (∀ i (h : i < n.kids.length), 0 ≤ n.kids[i]) ∧ (∀ i (h : i < n.pivots.length), n.parts n.pivots[i]) ∧ ∀ i (h : i < n.msgs.length), n.fits n.msgs[i]
instance (f b : Int) (n : Nd) : Decidable (n.innerR f b) := by unfold Nd.innerR; infer_instance
def Nd.R (fan leaf bud : Int) (n : Nd) : Prop := (0 ≤ n.slot ∧ 0 ≤ n.level ∧ 0 ≤ n.seen) ∧ (n.top = true → n.high = Str.nil ∧ n.right = -1) ∧ (n.top = false → n.high ≠ Str.nil ∧ n.high.b.size ≤ 16 ∧ 0 ≤ n.right) ∧
 if n.level = 0 then n.leafR leaf else n.innerR fan bud
instance (f l b : Int) (n : Nd) : Decidable (n.R f l b) := by unfold Nd.R; infer_instance
def Nd.sound (n : Nd) : Prop := Light [n] 1 2000 ∧ if n.level = 0 then PairsR n.rows else MsgsR n.msgs
instance (n : Nd) : Decidable n.sound := by unfold Nd.sound; infer_instance
theorem Zhl {n : Nd} {i : Int} (h0 : n.level = 0) (h : n.rows.length < 2) : Zo n i = (Nd.zero, Nd.zero, Str.nil, false) :=
 ZbB (by rw [Zav h0]; show (XG n.rows).2.2.2 = false; rw [Zhk h])
theorem Zhm {n : Nd} {i : Int} (h0 : n.level = 0) (h : ¬ n.rows.length < 2) : Zo n i =
    ({ n with rows := n.rows.take ((n.rows.length + 1) / 2), high := (Jr (n.rows[(n.rows.length + 1) / 2 - 1]'om9).key (n.rows[(n.rows.length + 1) / 2]'om9).key).1, top := false, right := i },
     { n with rows := n.rows.drop ((n.rows.length + 1) / 2), slot := i }, (Jr (n.rows[(n.rows.length + 1) / 2 - 1]'om9).key (n.rows[(n.rows.length + 1) / 2]'om9).key).1, true) := by
  have hh := Zav h0
  rw [Zcm h] at hh
  rw [XQ (by rw [hh]), hh]
theorem Zhn {n : Nd} {i : Int} (h0 : ¬ n.level = 0) (h : n.kids.length < 4 ∨ YB n.pivots n.kids.length = false) : Zo n i = (Nd.zero, Nd.zero, Str.nil, false) := by
 refine ZbB ?_
 cases hr : YB n.pivots n.kids.length
 ·rw [Za8 h0 hr]
 ·rw [Zaw h0 hr]
  show (Xe n.pivots n.kids).2.2.2.2.2 = false
  rw [Zg5 (by rcases h with h | h; exact .inl h; rw [h] at hr; cases hr)]
theorem Zho {n : Nd} {i : Int} (h0 : ¬ n.level = 0) (h : ¬ n.kids.length < 4) (hr : YB n.pivots n.kids.length = true) (hl : n.kids.length = n.pivots.length + 1) : Zo n i =
    ({ n with pivots := n.pivots.take ((n.kids.length + 1) / 2 - 1), kids := n.kids.take ((n.kids.length + 1) / 2), msgs := Zc ⟨Str.nil, n.pivots[(n.kids.length + 1) / 2 - 1]'om9, false⟩ n.msgs, high := n.pivots[(n.kids.length + 1) / 2 - 1]'om9, top := false, right := i },
     { n with pivots := n.pivots.drop ((n.kids.length + 1) / 2), kids := n.kids.drop ((n.kids.length + 1) / 2), msgs := Zc ⟨n.pivots[(n.kids.length + 1) / 2 - 1]'om9, Str.nil, true⟩ n.msgs, slot := i }, n.pivots[(n.kids.length + 1) / 2 - 1]'om9, true) := by
  have hh := Zaw h0 hr
  rw [Zg6 om9] at hh
  rw [XQ (by rw [hh]), hh]
theorem PairsR.lt {l : List Pair} (hr : PairsR l) : ∀ (j i : Nat) (hij : i < j) (hj : j < l.length), l[i].key.lt l[j].key = true
 | 0, i, h, _ => by omega
 | j + 1, i, h, hj => by
  have h1 : l[j].key.lt l[j + 1].key = true := (hr (j + 1) hj).2 om9
  by_cases e : i = j
  ·subst e; exact h1
  ·exact Str.lt_trans (PairsR.lt hr j i om9 om9) h1
theorem PairsR.take {l : List Pair} (h : PairsR l) (n : Nat) : PairsR (l.take n) := fun i hi => by
 simp at hi
 have := h i om9
 refine ⟨by simpa using this.1, fun h0 => by simpa using this.2 h0⟩
theorem PairsR.drop {l : List Pair} (h : PairsR l) (n : Nat) : PairsR (l.drop n) := fun i hi => by
 simp at hi
 have := h (n + i) om9
 refine ⟨by simpa using this.1, fun h0 => ?_⟩
 have h2 := this.2 om9
 simp only [List.getElem_drop]
 have e : n + (i - 1) = n + i - 1 := om9
 simp only [e]; exact h2
theorem Zhp : ∀ {a k : List UInt8}, Op.bytesLess a k = true → Op.bytesLess k (a ++ [0]) = false
 | _, [], h => by cases ‹List UInt8› <;> simp [Op.bytesLess] at h
 | [], y :: k, h => by
  simp only [List.nil_append, Op.bytesLess, Bool.or_eq_false_iff, Bool.and_eq_false_iff, decide_eq_false_iff_not]
  refine ⟨fun h => ?_, .inr (by cases k <;> trivial)⟩
  exact absurd (UInt8.lt_iff_toNat_lt.1 h) (by simp)
 | x :: a, y :: k, h => by
  simp only [Op.bytesLess, Bool.or_eq_true, Bool.and_eq_true, decide_eq_true_eq, beq_iff_eq] at h
  simp only [List.cons_append, Op.bytesLess, Bool.or_eq_false_iff, Bool.and_eq_false_iff, decide_eq_false_iff_not, beq_eq_false_iff_ne]
  rcases h with h | ⟨rfl, h⟩
  ·exact ⟨fun h2 => UInt8.lt_asymm h h2, .inl fun e => by subst e; exact UInt8.lt_irrefl _ h⟩
  ·exact ⟨UInt8.lt_irrefl _, .inr (Zhp h)⟩
theorem Str.next_le {a k : Str} (ha : a.b.size < 140737488355328) (h : a.lt k = true) : k.lt a.next = false := by
 show Op.bytesLess k.b.toList a.next.b.toList = false
 have e : a.next.b.toList = a.b.toList ++ [0] := by
  rw [Str.next_b ha, ByteArray.toList_eq, ByteArray.toList_eq]; simp
 rw [e]; exact Zhp h
theorem MsgsR.iff {l : List Msg} : MsgsR l ↔ (∀ m ∈ l, m.R) ∧ l.Pairwise fun a b => a.stamp < b.stamp := by
 constructor
 ·intro h
  refine ⟨fun m hm => ?_, List.pairwise_iff_getElem.2 fun i j hi hj hij => ?_⟩
  ·obtain ⟨i, hi, rfl⟩ := List.getElem_of_mem hm; exact (h i hi).1
  ·induction j with
   | zero => omega
   | succ j ih =>
    have h1 : l[j].stamp < l[j + 1].stamp := (h (j + 1) hj).2 om9
    by_cases e : i = j
    ·subst e; exact h1
    ·have := ih om9 om9; omega
 ·rintro ⟨h1, h2⟩ i hi
  exact ⟨h1 _ (List.getElem_mem hi), fun h0 => List.pairwise_iff_getElem.1 h2 (i - 1) i om9 hi om9⟩
theorem Zax {s : Span} {l : List Msg} {m : Msg} (h : m ∈ Zc s l) : ∃ a ∈ l, (a.clip s).2 = true ∧ (a.clip s).1 = m := by
 obtain ⟨a, ha, h⟩ := List.mem_filterMap.1 h
 split at h
 ·rename_i hc; exact ⟨a, ha, hc, by simpa using h⟩
 ·cases h
theorem Xo {m : Msg} {s : Span} (h : (m.clip s).2 = true) : (m.span.meet s).empty = false ∧ (m.clip s).1 = if m.kind = 4 then { m with key := (m.span.meet s).lo, hi := (m.span.meet s).hi, opn := (m.span.meet s).opn } else m := by
 cases he : (m.span.meet s).empty
 ·refine ⟨rfl, ?_⟩
  by_cases k : m.kind = 4
  ·rw [Zaf he k, if_pos k]
  ·rw [Zdd he k, if_neg k]
 ·rw [Zae he] at h; cases h
theorem Jh {m : Msg} {s : Span} (h : (m.clip s).2 = true) : (m.clip s).1.stamp = m.stamp := by
 rw [(Xo h).2]; split <;> rfl
theorem Zhq {m : Msg} {s : Span} (h : (m.clip s).2 = true) : (m.clip s).1.size = m.size := by
 rw [(Xo h).2]
 unfold Msg.size
 split
 ·rfl
 ·rfl
theorem Zhr (s : Span) : s.norm.empty = s.empty := by
 unfold Span.norm
 by_cases h : s.empty = true
 ·rw [if_pos h, h]; simp [Span.empty, Span.zero, Str.lt_irrefl]
 ·rw [if_neg h]; split
  ·rename_i ho; simp [Span.empty, ho]
  ·rfl
theorem Zdg {s : Span} {n : Nat} (h1 : s.lo.b.size ≤ n) (h2 : s.hi.b.size ≤ n) : s.norm.lo.b.size ≤ n ∧ s.norm.hi.b.size ≤ n := by
 have h0 : Str.nil.b.size = 0 := rfl
 unfold Span.norm
 split
 ·exact ⟨by show Str.nil.b.size ≤ n; omega, by show Str.nil.b.size ≤ n; omega⟩
 ·split
  ·exact ⟨h1, by show Str.nil.b.size ≤ n; omega⟩
  ·exact ⟨h1, h2⟩
theorem Zm9 {s : Span} : s.norm.opn = false ∨ s.norm.hi = Str.nil := by
 unfold Span.norm
 split
 ·exact .inl rfl
 ·split
  ·exact .inr rfl
  ·rename_i h; exact .inl (by simpa using h)
theorem Za9 {m : Msg} {s : Span} (hm : m.R) (h1 : s.lo.b.size ≤ 16) (h2 : s.hi.b.size ≤ 16) (h : (m.clip s).2 = true) : (m.clip s).1.R := by
 obtain ⟨he, e⟩ := Xo h
 rw [e]
 by_cases k : m.kind = 4
 ·rw [if_pos k]
  obtain ⟨⟨q1, q2, q3, q4⟩, q5⟩ := hm
  rw [if_pos k] at q5
  have hs : m.span = ⟨m.key, m.hi, m.opn⟩ := if_pos k
  have hz : (m.span.meet s).lo.b.size ≤ 16 ∧ (m.span.meet s).hi.b.size ≤ 16 := by
   rw [hs]
   exact Zdg (by show (if _ then _ else _ : Str).b.size ≤ 16; split; exact h1; exact q2) (by show (if _ then _ else _ : Str).b.size ≤ 16; split; exact h2; exact q4)
  refine ⟨⟨q1, hz.1, q3, hz.2⟩, ?_⟩
  show if m.kind = 4 then _ else _
  rw [if_pos k]
  refine ⟨q5.1, Zm9, ?_⟩
  show Span.empty (if m.kind = 4 then _ else _) = false
  rw [if_pos k]; exact he
 ·rw [if_neg k]; exact hm
theorem Zhs {s : Span} {l : List Msg} (hl : MsgsR l) (h1 : s.lo.b.size ≤ 16) (h2 : s.hi.b.size ≤ 16) : MsgsR (Zc s l) := by
 rw [MsgsR.iff] at hl ⊢
 refine ⟨fun m hm => ?_, ?_⟩
 ·obtain ⟨a, ha, hc, rfl⟩ := Zax hm
  exact Za9 (hl.1 a ha) h1 h2 hc
 ·refine List.Pairwise.filterMap _ (fun a b hab c hc d hd => ?_) hl.2
  split at hc
  ·split at hd
   ·rename_i k1 k2
    cases hc; cases hd
    rw [Jh k1, Jh k2]; exact hab
   ·cases hd
  ·cases hc
theorem Zdh {m : Msg} {l : List Msg} : Zz (m :: l) = m.size + Zz l := by simp [Zz]
theorem ZeP {s : Span} : ∀ {l : List Msg}, Zz (Zc s l) ≤ Zz l ∧ 0 ≤ Zz (Zc s l)
 | [] => ⟨Int.le_refl _, Int.le_refl _⟩
 | m :: l => by
  have ih := ZeP (s := s) (l := l)
  have h0 : 0 ≤ m.size := by unfold Msg.size; split <;> omega
  cases hc : (m.clip s).2
  ·have e : Zc s (m :: l) = Zc s l := by simp [Zc, hc]
   rw [e, Zdh]; omega
  ·have e : Zc s (m :: l) = (m.clip s).1 :: Zc s l := by simp [Zc, hc]
   rw [e, Zdh, Zdh, Zhq hc]; omega
theorem ZeQ {s : Span} (h : s.empty = false) (ho : s.opn = false) : s.norm = s := by
 unfold Span.norm
 rw [if_neg (by simp [h]), if_neg (by simp [ho])]
theorem Zna {n : Nd} {m : Msg} {k : Str} {i : Int} (hm : m.R) (hf : m.stamp ≤ n.seen) (h : (m.clip ⟨Str.nil, k, false⟩).2 = true) :
  (m.clip ⟨Str.nil, k, false⟩).1.stamp ≤ n.seen ∧ ((m.clip ⟨Str.nil, k, false⟩).1.span.opn = false ∧ k.lt (m.clip ⟨Str.nil, k, false⟩).1.span.hi = false) := by
 refine ⟨by rw [Jh h]; exact hf, ?_⟩
 obtain ⟨he, e⟩ := Xo h
 have hb : (m.span.meet ⟨Str.nil, k, false⟩) = ⟨if m.span.lo.lt Str.nil = true then Str.nil else m.span.lo, if m.span.opn = true ∨ k.lt m.span.hi = true then k else m.span.hi, false⟩ := by
  unfold Span.meet
  rw [ZeQ]
  ·simp
  ·rw [← Zhr]; exact he
  ·simp
 rw [e]
 by_cases k4 : m.kind = 4
 ·rw [if_pos k4]
  show (if m.kind = 4 then _ else _ : Span).opn = false ∧ k.lt (if m.kind = 4 then _ else _ : Span).hi = false
  rw [if_pos k4]
  rw [hb]
  refine ⟨rfl, ?_⟩
  show k.lt (if _ then k else m.span.hi) = false
  split
  ·exact Str.lt_irrefl _
  ·rename_i hn; cases hk : k.lt m.span.hi
   ·rfl
   ·exact absurd (.inr hk) hn
 ·rw [if_neg k4]
  have hsp : m.span = ⟨m.key, m.key.next, false⟩ := if_neg k4
  rw [hb, hsp] at he
  rw [hsp]
  refine ⟨rfl, ?_⟩
  show k.lt m.key.next = false
  cases hk : k.lt m.key.next
  ·rfl
  ·simp [Span.empty, hk, Str.nil_le] at he
   have := Str.next_le (by have := hm.1.2.1; omega) he
   rw [this] at hk; cases hk
theorem Znb {n : Nd} {m : Msg} {k : Str} (hf : n.fits m) (h : (m.clip ⟨k, Str.nil, true⟩).2 = true) : n.fits (m.clip ⟨k, Str.nil, true⟩).1 := by
 refine ⟨by rw [Jh h]; exact hf.1, ?_⟩
 rcases hf.2 with ht | ⟨ho, hh⟩
 ·exact .inl ht
 ·refine .inr ?_
  obtain ⟨he, e⟩ := Xo h
  rw [e]
  by_cases k4 : m.kind = 4
  ·rw [if_pos k4]
   show (if m.kind = 4 then _ else _ : Span).opn = false ∧ n.high.lt (if m.kind = 4 then _ else _ : Span).hi = false
   rw [if_pos k4]
   have hb : (m.span.meet ⟨k, Str.nil, true⟩) = ⟨if m.span.lo.lt k = true then k else m.span.lo, m.span.hi, false⟩ := by
    unfold Span.meet
    rw [ZeQ]
    ·simp [ho]
    ·rw [← Zhr]; exact he
    ·simp [ho]
   rw [hb]
   exact ⟨rfl, hh⟩
  ·rw [if_neg k4]; exact ⟨ho, hh⟩
theorem Zht {a b : Str} (h : a.lt b = true) (hb : b.b.size ≤ 16) : (Jr a b).1 ≠ Str.nil ∧ (Jr a b).1.b.size ≤ 16 ∧ a.lt (Jr a b).1 = true ∧ b.lt (Jr a b).1 = false := by
 have h1 := Zhh h
 rw [Zhi h]
 have hs : (b.cut 0 (Z6 a b + 1)).b.size = Z6 a b + 1 := ZeN om9
 refine ⟨fun e => ?_, by show (b.cut 0 (Z6 a b + 1)).b.size ≤ 16; omega, ?_, ?_⟩
 ·have e : b.cut 0 (Z6 a b + 1) = Str.nil := e
  rw [e] at hs; have : Str.nil.b.size = 0 := rfl; omega
 ·show a.lt (b.cut 0 (Z6 a b + 1)) = true
  rw [Zhj om9, h]; simp
 ·show b.lt (b.cut 0 (Z6 a b + 1)) = false
  rw [Zhj om9, Str.lt_irrefl]; rfl
theorem Zhu {n : Nd} {fan leaf bud slot : Int} (hR : n.R fan leaf bud) (hs : 0 ≤ slot) (hok : (Zo n slot).2.2.2 = true) :
  (Zo n slot).1.R fan leaf bud ∧ (Zo n slot).2.1.R fan leaf bud ∧ (Zo n slot).1.kids.length + (Zo n slot).2.1.kids.length = n.kids.length ∧ (Zo n slot).1.rows.length + (Zo n slot).2.1.rows.length = n.rows.length := by
 obtain ⟨⟨q1, q2, q3⟩, q4, q5, q6⟩ := hR
 by_cases h0 : n.level = 0
 ·rw [if_pos h0] at q6
  obtain ⟨r1, r2, r3, r4⟩ := q6
  by_cases hl : n.rows.length < 2
  ·rw [Zhl h0 hl] at hok; cases hok
  ·have hlt := PairsR.lt r3 ((n.rows.length + 1) / 2) ((n.rows.length + 1) / 2 - 1) om9 om9
   obtain ⟨b1, b2, b3, b4⟩ := Zht hlt (r3 ((n.rows.length + 1) / 2) om9).1.1
   rw [Zhm h0 hl]
   refine ⟨⟨⟨q1, q2, q3⟩, (fun h => by cases h), fun _ => ⟨b1, b2, hs⟩, ?_⟩, ⟨⟨hs, q2, q3⟩, q4, q5, ?_⟩, by show n.kids.length + n.kids.length = n.kids.length; omega, by show (n.rows.take _).length + (n.rows.drop _).length = _; simp; omega⟩
   ·rw [if_pos (show _ = (0 : Int) from h0)]
    refine ⟨r1, ?_, r3.take _, fun i hi => ?_⟩
    ·show ((n.rows.take _).length : Int) ≤ leaf
     simp only [List.length_take]; omega
    ·have hi' : i < (n.rows.take ((n.rows.length + 1) / 2)).length := hi
     simp only [List.length_take] at hi'
     show (false || Str.lt (n.rows.take _)[i].key _) = true
     rw [Bool.false_or, List.getElem_take]
     by_cases e : i = (n.rows.length + 1) / 2 - 1
     ·subst e; exact b3
     ·exact Str.lt_trans (PairsR.lt r3 ((n.rows.length + 1) / 2 - 1) i om9 om9) b3
   ·rw [if_pos (show _ = (0 : Int) from h0)]
    refine ⟨r1, ?_, r3.drop _, fun i hi => ?_⟩
    ·show ((n.rows.drop _).length : Int) ≤ leaf
     simp only [List.length_drop]; omega
    ·have hi' : i < (n.rows.drop ((n.rows.length + 1) / 2)).length := hi
     simp only [List.length_drop] at hi'
     show n.has (n.rows.drop _)[i].key = true
     rw [List.getElem_drop]
     exact r4 _ om9
 ·rw [if_neg h0] at q6
  obtain ⟨⟨r1, r2, r3⟩, r4, r5, r6, r7, r8, r9⟩ := q6
  by_cases hl : n.kids.length < 4
  ·rw [Zhn h0 (.inl hl)] at hok; cases hok
  ·obtain ⟨hr, hc⟩ := YM r4
   have hk := r8 ((n.kids.length + 1) / 2 - 1) om9
   have hks := hk.2.1
   have hn0 : Str.nil.b.size ≤ 16 := by decide
   rw [Zho h0 hl r4 hc]
   refine ⟨⟨⟨q1, q2, q3⟩, (fun h => by cases h), fun _ => ⟨hk.1, hks, hs⟩, ?_⟩, ⟨⟨hs, q2, q3⟩, q4, q5, ?_⟩, by show (n.kids.take _).length + (n.kids.drop _).length = _; simp; omega, by show n.rows.length + n.rows.length = n.rows.length; omega⟩
   ·rw [if_neg (show ¬ _ = (0 : Int) from h0)]
    refine ⟨⟨r1, ?_, ?_⟩, ?_, ?_, ?_, ?_, ?_, ?_⟩
    ·show 2 ≤ (n.kids.take _).length
     simp only [List.length_take]; omega
    ·show ((n.kids.take _).length : Int) ≤ fan
     simp only [List.length_take]; omega
    ·exact Zdc (Zmp hr _) (by show (n.kids.take _).length = (n.pivots.take _).length + 1; simp only [List.length_take]; omega)
    ·exact Zhs r5 hn0 hks
    ·exact Int.le_trans ZeP.1 r6
    ·intro i hi
     have hi' : i < (n.kids.take ((n.kids.length + 1) / 2)).length := hi
     simp only [List.length_take] at hi'
     show 0 ≤ (n.kids.take _)[i]
     rw [List.getElem_take]; exact r7 i om9
    ·intro i hi
     have hi' : i < (n.pivots.take ((n.kids.length + 1) / 2 - 1)).length := hi
     simp only [List.length_take] at hi'
     have hp := r8 i om9
     show Nd.parts _ ((n.pivots.take _)[i])
     rw [List.getElem_take]
     exact ⟨hp.1, hp.2.1, by show (false || _) = true; rw [Bool.false_or]; exact Zad hr _ i om9 om9⟩
    ·intro i hi
     obtain ⟨a, ha, hc2, e⟩ := Zax (List.getElem_mem (l := Zc ⟨Str.nil, n.pivots[(n.kids.length + 1) / 2 - 1]'om9, false⟩ n.msgs) hi)
     obtain ⟨j, hj, rfl⟩ := List.getElem_of_mem ha
     have hf := Zna (n := n) (i := 0) (r5 j hj).1 (r9 j hj).1 hc2
     rw [e] at hf
     exact ⟨hf.1, .inr hf.2⟩
   ·rw [if_neg (show ¬ _ = (0 : Int) from h0)]
    refine ⟨⟨r1, ?_, ?_⟩, ?_, ?_, ?_, ?_, ?_, ?_⟩
    ·show 2 ≤ (n.kids.drop _).length
     simp only [List.length_drop]; omega
    ·show ((n.kids.drop _).length : Int) ≤ fan
     simp only [List.length_drop]; omega
    ·exact Zdc (Zmq hr _) (by show (n.kids.drop _).length = (n.pivots.drop _).length + 1; simp only [List.length_drop]; omega)
    ·exact Zhs r5 hks hn0
    ·exact Int.le_trans ZeP.1 r6
    ·intro i hi
     have hi' : i < (n.kids.drop ((n.kids.length + 1) / 2)).length := hi
     simp only [List.length_drop] at hi'
     show 0 ≤ (n.kids.drop _)[i]
     rw [List.getElem_drop]; exact r7 _ om9
    ·intro i hi
     have hi' : i < (n.pivots.drop ((n.kids.length + 1) / 2)).length := hi
     simp only [List.length_drop] at hi'
     show Nd.parts _ ((n.pivots.drop _)[i])
     rw [List.getElem_drop]
     exact r8 _ om9
    ·intro i hi
     obtain ⟨a, ha, hc2, e⟩ := Zax (List.getElem_mem (l := Zc ⟨n.pivots[(n.kids.length + 1) / 2 - 1]'om9, Str.nil, true⟩ n.msgs) hi)
     obtain ⟨j, hj, rfl⟩ := List.getElem_of_mem ha
     have hf := Znb (r9 j hj) hc2
     rw [e] at hf
     exact hf
def JF {α : Type} (l : List α) : List α := l.drop (l.length - 16)
theorem Znc {α : Type} (l : List α) : (JF l).length = min l.length 16 := by simp [JF]; omega
theorem Znd {α : Type} (x b : List α) : JF (JF x ++ b) = JF (x ++ b) := by
 simp only [JF, List.length_append, List.length_drop]
 by_cases h : x.length ≤ 16
 ·rw [show x.length - 16 = 0 from by omega]; simp
 ·rw [show x.length - (x.length - 16) + b.length - 16 = b.length from by omega, show x.length + b.length - 16 = (x.length - 16) + b.length from by omega, ← List.drop_drop,
   List.drop_append_of_le_length (by omega : x.length - 16 ≤ x.length)]
theorem Zne {α : Type} (x y : List α) : JF (x ++ JF y) = JF (x ++ y) := by
 simp only [JF, List.length_append, List.length_drop]
 by_cases h : y.length ≤ 16
 ·rw [show y.length - 16 = 0 from by omega]; simp
 ·rw [show x.length + (y.length - (y.length - 16)) - 16 = x.length from by omega, show x.length + y.length - 16 = x.length + (y.length - 16) from by omega]
  rw [List.drop_append_of_le_length (Nat.le_refl _), ← List.drop_drop, List.drop_append_of_le_length (Nat.le_refl _)]
  simp
def JG (b : ByteArray) : ByteArray := b.extract (b.size - 16) b.size
theorem Zba (b : ByteArray) : (JG b).data.toList = JF b.data.toList := by
 simp only [JG, JF, ByteArray.data_extract, Array.toList_extract, List.extract_eq_take_drop, Array.length_toList]
 show List.take (b.data.size - (b.data.size - 16)) (List.drop (b.data.size - 16) b.data.toList) = _
 rw [List.take_of_length_le (by simp)]
theorem ZeR {a b : ByteArray} (h : a.data.toList = b.data.toList) : a = b := by
 cases a; cases b
 simp only [ByteArray.mk.injEq]
 exact Array.toList_inj.1 h
theorem ZeS (b : ByteArray) : (JG b).size = min b.size 16 := by
 have h := congrArg List.length (Zba b)
 rw [Znc] at h
 simpa using h
theorem ZbE (a b : ByteArray) : (a ++ b).data.toList = a.data.toList ++ b.data.toList := by simp [ByteArray.data_append]
theorem Znf (x b : ByteArray) : JG (JG x ++ b) = JG (x ++ b) := by
 apply ZeR; rw [Zba, Zba, ZbE, ZbE, Zba, Znd]
theorem Zng (x y : ByteArray) : JG (x ++ JG y) = JG (x ++ y) := by
 apply ZeR; rw [Zba, Zba, ZbE, ZbE, Zba, Zne]
theorem Znh (a b c : ByteArray) : a ++ b ++ c = a ++ (b ++ c) := by
 apply ZeR; simp only [ZbE, List.append_assoc]
def Str.tail (s : Str) : Str := ⟨JG s.b, by rw [ZeS]; omega⟩
def Str.cat (a b : Str) : Str := if h : (a.b ++ b.b).size ≤ 140737488355328 then ⟨a.b ++ b.b, h⟩ else a
theorem Str.cat_b {a b : Str} (h : a.b.size + b.b.size ≤ 140737488355328) : (a.cat b).b = a.b ++ b.b := by
 have h1 : (a.b ++ b.b).size ≤ 140737488355328 := by rw [ByteArray.size_append]; exact h
 rw [Str.cat, dif_pos h1]
def Str.add (a b : Str) : Str := ⟨JG (a.b ++ b.b), by rw [ZeS]; omega⟩
theorem Str.cat_tail {a b : Str} (h : a.b.size + b.b.size ≤ 140737488355328) : (a.cat b).tail = a.add b := by
 apply Str.ext'; simp only [Str.tail, Str.add]; rw [Str.cat_b h]
theorem Str.add_assoc (x a b : Str) : (x.add a).add b = x.add (a.add b) := by
 apply Str.ext'; simp only [Str.add]; rw [Znf, Zng, Znh]
theorem Str.add_size (a b : Str) : (a.add b).b.size ≤ 16 := by show (JG _).size ≤ 16; rw [ZeS]; omega
structure Eff where
 kind : Int
 val : Str
 deriving DecidableEq
def Eff.cells (e : Eff) : List Value := [.int .i64 e.kind, .string e.val.b]
def Eff.zero : Eff := ⟨0, Str.nil⟩
def Yz (has : Bool) (v : Str) : Option Str := if has = true then some v else none
def Eff.apply (e : Eff) (o : Option Str) : Option Str :=
 if e.kind = 1 then some e.val else if e.kind = 3 then none else if e.kind = 2 then some ((o.getD Str.nil).add e.val) else o
def Eff.then (a b : Eff) : Eff :=
 if b.kind = 0 then a else if b.kind ≠ 2 ∨ a.kind = 0 then b else ⟨if a.kind = 2 then 2 else 1, (if a.kind = 3 then Str.nil else a.val).add b.val⟩
def Eff.K (e : Eff) : Prop := 0 ≤ e.kind ∧ e.kind ≤ 3
theorem Eff.zero_apply (o : Option Str) : Eff.zero.apply o = o := rfl
theorem Eff.then_apply {a b : Eff} (ha : a.K) (hb : b.K) (o : Option Str) : (a.then b).apply o = b.apply (a.apply o) := by
 obtain ⟨a1, a2⟩ := ha
 obtain ⟨b1, b2⟩ := hb
 obtain ⟨k, v⟩ := a
 obtain ⟨j, u⟩ := b
 simp only at a1 a2 b1 b2
 have hk : k = 0 ∨ k = 1 ∨ k = 2 ∨ k = 3 := om9
 have hj : j = 0 ∨ j = 1 ∨ j = 2 ∨ j = 3 := om9
 rcases hj with rfl | rfl | rfl | rfl <;> rcases hk with rfl | rfl | rfl | rfl <;> simp [Eff.then, Eff.apply, Str.add_assoc]
theorem Eff.then_K {a b : Eff} (ha : a.K) (hb : b.K) : (a.then b).K := by
 unfold Eff.then
 split
 ·exact ha
 ·split
  ·exact hb
  ·unfold Eff.K; dsimp only; split <;> omega
def Msg.on (m : Msg) (k : Str) : Eff :=
 if m.span.has k = false ∨ m.kind < 1 ∨ 4 < m.kind then Eff.zero else if 3 ≤ m.kind then ⟨3, Str.nil⟩ else ⟨m.kind, m.val⟩
theorem Msg.on_K (m : Msg) (k : Str) : (m.on k).K := by
 unfold Msg.on
 split
 ·exact ⟨by decide, by decide⟩
 ·split
  ·exact ⟨by decide, by decide⟩
  ·constructor <;> dsimp only <;> omega
def YF (l : List Msg) (k : Str) : Eff := l.foldl (fun e m => e.then (m.on k)) Eff.zero
theorem Zhv (k : Str) : ∀ (l : List Msg) (e : Eff) (o : Option Str), e.K → (l.foldl (fun e m => e.then (m.on k)) e).apply o = l.foldl (fun o m => (m.on k).apply o) (e.apply o)
 | [], e, o, h => rfl
 | m :: l, e, o, h => by
  rw [List.foldl_cons, List.foldl_cons, Zhv k l _ o (Eff.then_K h (m.on_K k)), Eff.then_apply h (m.on_K k)]
theorem ZeT (l : List Msg) (k : Str) (o : Option Str) : (YF l k).apply o = l.foldl (fun o m => (m.on k).apply o) o := Zhv k l _ o ⟨by decide, by decide⟩
theorem Zhw {l : List Msg} {i : Nat} (k : Str) (h : i < l.length) : YF (l.take (i + 1)) k = (YF (l.take i) k).then (l[i].on k) := by
 rw [List.take_succ_eq_append_getElem h, YF, List.foldl_append]; rfl
def Zi (l : List Pair) (k : Str) : Option Str := (l.find? fun p => decide (p.key = k)).map Pair.val
theorem XA (p : Pair) (l : List Pair) (k : Str) : Zi (p :: l) k = if p.key = k then some p.val else Zi l k := by
 unfold Zi; rw [List.find?_cons]; by_cases h : p.key = k <;> simp [h]
theorem Zcn : ∀ (l m : List Pair) (k : Str), Zi (l ++ m) k = (Zi l k).or (Zi m k)
 | [], m, k => by simp [Zi]
 | p :: l, m, k => by
  rw [List.cons_append, XA, XA, Zcn l m k]
  split <;> simp
theorem ZbF (q : Str → Bool) (k : Str) : ∀ (l : List Pair), Zi (l.filter fun p => q p.key) k = if q k = true then Zi l k else none
 | [] => by simp [Zi]
 | p :: l => by
  have ih := ZbF q k l
  by_cases h : q p.key = true
  ·rw [List.filter_cons_of_pos (p := fun p : Pair => q p.key) h, XA, XA, ih]
   by_cases e : p.key = k
   ·subst e; simp [h]
   ·simp [e]
  ·rw [List.filter_cons_of_neg (p := fun p : Pair => q p.key) h, ih, XA]
   by_cases e : p.key = k
   ·subst e; simp [h]
   ·simp [e]
theorem Zni {l : List Pair} {i : Nat} (hi : i < l.length) (h : ∀ j (hj : j < l.length), j < i → l[j].key ≠ l[i].key) : Zi l l[i].key = some l[i].val := by
 induction l generalizing i with
 | nil => simp at hi
 | cons p l ih =>
  rw [XA]
  cases i with
  | zero => simp
  | succ i =>
   have h0 := h 0 (by simp) om9
   simp only [List.getElem_cons_zero, List.getElem_cons_succ] at h0
   simp only [List.getElem_cons_succ]
   rw [if_neg h0]
   exact ih (by simpa using hi) (fun j hj hji => by have := h (j + 1) (by simpa using hj) om9; simpa using this)
theorem Znj {l : List Pair} {k : Str} (h : ∀ j (hj : j < l.length), l[j].key ≠ k) : Zi l k = none := by
 unfold Zi
 rw [Option.map_eq_none_iff, List.find?_eq_none]
 intro p hp
 obtain ⟨j, hj, rfl⟩ := List.getElem_of_mem hp
 simpa using h j hj
def Y5 (l : List Pair) (k : Str) (e : Eff) : List Pair :=
 (l.filter fun p => p.key.lt k) ++ (match e.apply (Zi l k) with | some v => [⟨k, v⟩] | none => []) ++ (l.filter fun p => k.lt p.key)
def takeN (l : List Pair) (m : Msg) : List Pair := if m.kind = 4 then l.filter fun p => !m.span.has p.key else Y5 l m.key (m.on m.key)
def Zt (l : List Pair) (ms : List Msg) : List Pair := ms.foldl takeN l
def Ji (l : List Pair) (s : Span) (limit : Int) : List Pair := (l.filter fun p => s.has p.key).take limit.toNat
theorem Znk (l : List Pair) (k : Str) (e : Eff) (k' : Str) : Zi (Y5 l k e) k' = if k' = k then e.apply (Zi l k) else Zi l k' := by
 unfold Y5
 rw [Zcn, Zcn, ZbF (fun x => x.lt k), ZbF (fun x => k.lt x)]
 by_cases h : k' = k
 ·subst h
  simp only [Str.lt_irrefl, if_true]
  cases e.apply (Zi l k') with
  | none => simp [Zi]
  | some v => simp [XA]
 ·rw [if_neg h]
  have hm : Zi (match e.apply (Zi l k) with | some v => [⟨k, v⟩] | none => []) k' = none := by
   cases e.apply (Zi l k) with
   | none => rfl
   | some v => simp only [XA]; rw [if_neg (fun x => h x.symm)]; rfl
  rw [hm]
  cases h1 : k'.lt k
  ·cases h2 : k.lt k'
   ·exact absurd (Str.lt_total h1 h2) h
   ·simp
  ·rw [Str.lt_asymm h1]; simp
theorem Znl {k x : Str} (hk : k.b.size < 140737488355328) : x.lt k.next = true ↔ k.lt x = false := by
 have e : k.next.b.toList = k.b.toList ++ [0] := by
  rw [Str.next_b hk, ByteArray.toList_eq, ByteArray.toList_eq, ZbE]
 show Op.bytesLess x.b.toList k.next.b.toList = true ↔ Op.bytesLess k.b.toList x.b.toList = false
 rw [e]
 generalize k.b.toList = a
 generalize x.b.toList = b
 clear e hk
 induction a generalizing b with
 | nil =>
  cases b with
  | nil => simp [Op.bytesLess]
  | cons y b =>
   simp only [List.nil_append, Op.bytesLess, Bool.or_eq_true, Bool.and_eq_true, decide_eq_true_eq, beq_iff_eq, Bool.true_eq_false, iff_false]
   rintro (h | ⟨_, h⟩)
   ·exact absurd h (by simp)
   ·cases b <;> simp [Op.bytesLess] at h
 | cons z a ih =>
  cases b with
  | nil => simp [Op.bytesLess]
  | cons y b =>
   simp only [List.cons_append, Op.bytesLess, Bool.or_eq_true, Bool.and_eq_true, decide_eq_true_eq, beq_iff_eq, Bool.or_eq_false_iff, Bool.and_eq_false_iff, decide_eq_false_iff_not, beq_eq_false_iff_ne, ih]
   constructor
   ·rintro (h | ⟨rfl, h⟩)
    ·exact ⟨UInt8.not_lt.2 (UInt8.le_of_lt h), .inl (fun e => by subst e; exact absurd h (UInt8.lt_irrefl _))⟩
    ·exact ⟨UInt8.lt_irrefl _, .inr h⟩
   ·rintro ⟨h1, h2⟩
    rcases h2 with h2 | h2
    ·exact .inl (UInt8.lt_of_le_of_ne (UInt8.not_lt.1 h1) (fun e => h2 e.symm))
    ·by_cases e : y = z
     ·exact .inr ⟨e, h2⟩
     ·exact .inl (UInt8.lt_of_le_of_ne (UInt8.not_lt.1 h1) e)
theorem Zag {k x : Str} (hk : k.b.size < 140737488355328) : (Span.has ⟨k, k.next, false⟩ x) = decide (x = k) := by
 rw [Bool.eq_iff_iff]
 simp only [Span.has, Bool.false_or, Bool.and_eq_true, Bool.not_eq_true', decide_eq_true_eq]
 rw [Znl hk]
 constructor
 ·rintro ⟨h1, h2⟩; exact Str.lt_total h1 h2
 ·rintro rfl; exact ⟨Str.lt_irrefl _, Str.lt_irrefl _⟩
theorem Zhx {l : List Pair} {m : Msg} (hk : m.key.b.size < 140737488355328) (h1 : 1 ≤ m.kind) (h4 : m.kind ≤ 4) (k : Str) : Zi (takeN l m) k = (m.on k).apply (Zi l k) := by
 unfold takeN
 by_cases h : m.kind = 4
 ·rw [if_pos h, ZbF (fun x => !m.span.has x)]
  unfold Msg.on
  cases hs : m.span.has k
  ·simp [Eff.zero_apply]
  ·simp [h, Eff.apply]
 ·rw [if_neg h, Znk]
  have hsp : ∀ x, m.span.has x = decide (x = m.key) := fun x => by rw [Msg.span, if_neg h]; exact Zag hk
  by_cases e : k = m.key
  ·subst e; simp
  ·rw [if_neg e, Msg.on, hsp k]
   simp [e, Eff.zero_apply]
theorem Znm {k : Str} : ∀ {ms : List Msg} {l : List Pair}, (∀ m ∈ ms, m.key.b.size < 140737488355328 ∧ 1 ≤ m.kind ∧ m.kind ≤ 4) → Zi (Zt l ms) k = (YF ms k).apply (Zi l k) := by
 intro ms
 suffices ∀ l : List Pair, (∀ m ∈ ms, m.key.b.size < 140737488355328 ∧ 1 ≤ m.kind ∧ m.kind ≤ 4) → Zi (Zt l ms) k = ms.foldl (fun o m => (m.on k).apply o) (Zi l k) from
  fun {l} h => by rw [ZeT]; exact this l h
 induction ms with
 | nil => intro l _; rfl
 | cons m ms ih =>
  intro l h
  obtain ⟨h1, h2, h3⟩ := h m (by simp)
  rw [Zt, List.foldl_cons, List.foldl_cons, ← Zhx h1 h2 h3]
  exact ih _ (fun m hm => h m (by simp [hm]))
def Srt (l : List Pair) : Prop := l.Pairwise fun a b => a.key.lt b.key = true
theorem Srt.lt {l : List Pair} (h : Srt l) {i j : Nat} (hij : i < j) (hj : j < l.length) : (l[i]'om9).key.lt l[j].key = true :=
 List.pairwise_iff_getElem.1 h i j om9 hj hij
theorem Srt.of_step {l : List Pair} (h : ∀ i (h : i < l.length), 0 < i → (l[i - 1]'om9).key.lt l[i].key = true) : Srt l := by
 refine List.pairwise_iff_getElem.2 fun i j hi hj hij => ?_
 induction j with
 | zero => omega
 | succ j ih =>
  have h1 := h (j + 1) hj om9
  simp only [Nat.add_sub_cancel] at h1
  by_cases e : i = j
  ·subst e; exact h1
  ·exact Str.lt_trans (ih om9 om9) h1
def Fits (p : Pair) : Prop := p.key.b.size ≤ 16 ∧ p.val.b.size ≤ 16
theorem Zah {l : List Pair} : PairsR l ↔ (∀ p ∈ l, Fits p) ∧ Srt l := by
 constructor
 ·intro h
  refine ⟨fun p hp => ?_, Srt.of_step fun i hi h0 => (h i hi).2 h0⟩
  obtain ⟨i, hi, rfl⟩ := List.getElem_of_mem hp
  exact (h i hi).1
 ·rintro ⟨h1, h2⟩ i hi
  exact ⟨h1 _ (List.getElem_mem hi), fun h0 => h2.lt om9 hi⟩
def ZG (l : List Pair) (k : Str) : Nat := (l.filter fun p => p.key.lt k).length
theorem Zdi (l : List Pair) (k : Str) : ZG l k ≤ l.length := List.length_filter_le _ _
theorem Zhy {l : List Pair} {k : Str} {i : Nat} (hi : i ≤ l.length) (h1 : ∀ j (h : j < l.length), j < i → l[j].key.lt k = true) (h2 : ∀ j (h : j < l.length), i ≤ j → l[j].key.lt k = false) :
  (l.filter fun p => p.key.lt k) = l.take i := by
 have e : l = l.take i ++ l.drop i := (List.take_append_drop i l).symm
 rw [show (l.filter fun p => p.key.lt k) = (l.take i ++ l.drop i).filter (fun p => p.key.lt k) from by rw [← e], List.filter_append]
 have f1 : (l.take i).filter (fun p => p.key.lt k) = l.take i := by
  rw [List.filter_eq_self]
  intro a ha
  obtain ⟨j, hj, rfl⟩ := List.getElem_of_mem ha
  simp only [List.length_take] at hj
  rw [List.getElem_take, h1 j om9 om9]
 have f2 : (l.drop i).filter (fun p => p.key.lt k) = [] := by
  rw [List.filter_eq_nil_iff]
  intro a ha
  obtain ⟨j, hj, rfl⟩ := List.getElem_of_mem ha
  simp only [List.length_drop] at hj
  rw [List.getElem_drop, h2 (i + j) om9 om9]; simp
 rw [f1, f2, List.append_nil]
theorem Zco {l : List Pair} {k : Str} {i : Nat} (hi : i ≤ l.length) (h1 : ∀ j (h : j < l.length), j < i → l[j].key.lt k = true) (h2 : ∀ j (h : j < l.length), i ≤ j → l[j].key.lt k = false) : ZG l k = i := by
 unfold ZG; rw [Zhy hi h1 h2]; simp [hi]
theorem Srt.below {l : List Pair} (hr : Srt l) {m : Nat} (hm : m < l.length) {k : Str} (h : l[m].key.lt k = true) (q : Nat) (hq : q < l.length) (hqm : q < m + 1) : l[q].key.lt k = true := by
 by_cases e : q = m
 ·subst e; exact h
 ·exact Str.lt_trans (hr.lt om9 hm) h
theorem Srt.above {l : List Pair} (hr : Srt l) {m : Nat} (hm : m < l.length) {k : Str} (h : l[m].key.lt k = false) (q : Nat) (hq : q < l.length) (hqm : m ≤ q) : l[q].key.lt k = false := by
 by_cases e : q = m
 ·subst e; exact h
 ·cases h1 : l[q].key.lt k
  ·rfl
  ·rw [Str.lt_trans (hr.lt om9 hq) h1] at h; cases h
theorem Srt.fnd {l : List Pair} (hr : Srt l) (k : Str) : (∀ j (h : j < l.length), j < ZG l k → l[j].key.lt k = true) ∧ (∀ j (h : j < l.length), ZG l k ≤ j → l[j].key.lt k = false) := by
 suffices ∃ i, i ≤ l.length ∧ (∀ j (h : j < l.length), j < i → l[j].key.lt k = true) ∧ (∀ j (h : j < l.length), i ≤ j → l[j].key.lt k = false) by
  obtain ⟨i, h0, h1, h2⟩ := this
  rw [Zco h0 h1 h2]; exact ⟨h1, h2⟩
 induction l with
 | nil => exact ⟨0, by simp, fun j h => by simp at h, fun j h => by simp at h⟩
 | cons p l ih =>
  have hr' : Srt l := (List.pairwise_cons.1 hr).2
  cases hp : p.key.lt k
  ·exact ⟨0, by simp, fun j _ h => by omega, fun j h _ => hr.above (m := 0) (by simp) (by simpa using hp) j h om9⟩
  ·obtain ⟨i, h0, h1, h2⟩ := ih hr'
   refine ⟨i + 1, by simp; omega, fun j h hj => ?_, fun j h hj => ?_⟩
   ·cases j with
    | zero => simpa using hp
    | succ j => simpa using h1 j (by simpa using h) om9
   ·cases j with
    | zero => omega
    | succ j => simpa using h2 j (by simpa using h) om9
theorem Srt.get {l : List Pair} (hr : Srt l) {i : Nat} (hi : i < l.length) : Zi l l[i].key = some l[i].val :=
 Zni hi fun j hj hji e => by have := hr.lt hji hi; rw [e, Str.lt_irrefl] at this; cases this
theorem Srt.has {l : List Pair} (hr : Srt l) (k : Str) : (Zi l k).isSome = decide (∃ h : ZG l k < l.length, l[ZG l k].key = k) := by
 rw [Bool.eq_iff_iff, decide_eq_true_iff]
 constructor
 ·intro h
  have hf := hr.fnd k
  have hex : ∃ j, ∃ hj : j < l.length, l[j].key = k := by
   refine Decidable.byContradiction fun hc => ?_
   rw [Znj (fun j hj e => hc ⟨j, hj, e⟩)] at h
   cases h
  obtain ⟨j, hj, e⟩ := hex
  have h1 : ZG l k ≤ j := by
   rcases Nat.lt_or_ge j (ZG l k) with h2 | h2
   ·have := hf.1 j hj h2; rw [e, Str.lt_irrefl] at this; cases this
   ·exact h2
  by_cases h3 : ZG l k = j
  ·exact ⟨om9, by simp only [h3]; exact e⟩
  ·have h4 := hr.lt (i := ZG l k) (j := j) om9 hj
   rw [e, hf.2 _ om9 (Nat.le_refl _)] at h4; cases h4
 ·rintro ⟨h, e⟩
  have := hr.get h
  rw [e] at this
  rw [this]; rfl
theorem Srt.val {l : List Pair} (hr : Srt l) {k : Str} (h : ZG l k < l.length) (e : l[ZG l k].key = k) : Zi l k = some l[ZG l k].val := by
 have := hr.get h; rwa [e] at this
theorem Srt.front {l : List Pair} (hr : Srt l) (k : Str) : (l.filter fun p => p.key.lt k) = l.take (ZG l k) := Zhy (Zdi l k) (hr.fnd k).1 (hr.fnd k).2
theorem Srt.back {l : List Pair} (hr : Srt l) {k : Str} {i : Nat} (hi : i ≤ l.length) (h1 : ∀ j (h : j < l.length), j < i → k.lt l[j].key = false) (h2 : ∀ j (h : j < l.length), i ≤ j → k.lt l[j].key = true) : (l.filter fun p => k.lt p.key) = l.drop i := by
 have e : l = l.take i ++ l.drop i := (List.take_append_drop i l).symm
 rw [show (l.filter fun p => k.lt p.key) = (l.take i ++ l.drop i).filter (fun p => k.lt p.key) from by rw [← e], List.filter_append]
 have f1 : (l.take i).filter (fun p => k.lt p.key) = [] := by
  rw [List.filter_eq_nil_iff]
  intro a ha
  obtain ⟨j, hj, rfl⟩ := List.getElem_of_mem ha
  simp only [List.length_take] at hj
  rw [List.getElem_take, h1 j om9 om9]; simp
 have f2 : (l.drop i).filter (fun p => k.lt p.key) = l.drop i := by
  rw [List.filter_eq_self]
  intro a ha
  obtain ⟨j, hj, rfl⟩ := List.getElem_of_mem ha
  simp only [List.length_drop] at hj
  rw [List.getElem_drop, h2 (i + j) om9 om9]
 rw [f1, f2, List.nil_append]
theorem Srt.back_no {l : List Pair} (hr : Srt l) {k : Str} (h : (Zi l k).isSome = false) : (l.filter fun p => k.lt p.key) = l.drop (ZG l k) := by
 rw [hr.has k] at h
 have h := of_decide_eq_false h
 have hf := hr.fnd k
 refine hr.back (Zdi l k) (fun j hj hji => Str.lt_asymm (hf.1 j hj hji)) (fun j hj hij => ?_)
 cases h1 : k.lt l[j].key
 ·have h2 : l[j].key = k := Str.lt_total (hf.2 j hj hij) h1
  by_cases e : j = ZG l k
  ·subst e; exact absurd ⟨hj, h2⟩ h
  ·have h3 := hr.lt (i := ZG l k) (j := j) om9 hj
   rw [h2, hf.2 _ om9 (Nat.le_refl _)] at h3; cases h3
 ·rfl
theorem Srt.back_yes {l : List Pair} (hr : Srt l) {k : Str} (hi : ZG l k < l.length) (e : l[ZG l k].key = k) : (l.filter fun p => k.lt p.key) = l.drop (ZG l k + 1) := by
 have hf := hr.fnd k
 refine hr.back om9 (fun j hj hji => ?_) (fun j hj hij => ?_)
 ·by_cases e2 : j = ZG l k
  ·subst e2; rw [e]; exact Str.lt_irrefl _
  ·exact Str.lt_asymm (hf.1 j hj om9)
 ·have h3 := hr.lt (i := ZG l k) (j := j) om9 hj
  rwa [e] at h3
theorem Znn {l : List Pair} (hr : Srt l) {k : Str} {e : Eff} {v : Str} (hi : ZG l k < l.length) (hk : l[ZG l k].key = k) (hv : e.apply (Zi l k) = some v) : l.set (ZG l k) ⟨l[ZG l k].key, v⟩ = Y5 l k e := by
 unfold Y5
 rw [hv, hr.front, hr.back_yes hi hk, List.set_eq_take_append_cons_drop, if_pos hi, hk]
 simp
theorem Zno {l : List Pair} (hr : Srt l) {k : Str} {e : Eff} {v : Str} (hn : (Zi l k).isSome = false) (hv : e.apply (Zi l k) = some v) : l.take (ZG l k) ++ [⟨k, v⟩] ++ l.drop (ZG l k) = Y5 l k e := by
 unfold Y5
 rw [hv, hr.front, hr.back_no hn]
theorem Znp {l : List Pair} (hr : Srt l) {k : Str} {e : Eff} (hi : ZG l k < l.length) (hk : l[ZG l k].key = k) (hv : e.apply (Zi l k) = none) : l.take (ZG l k) ++ l.drop (ZG l k + 1) = Y5 l k e := by
 unfold Y5
 rw [hv, hr.front, hr.back_yes hi hk]; simp
theorem Znq {l : List Pair} (hr : Srt l) {k : Str} {e : Eff} (hn : (Zi l k).isSome = false) (hv : e.apply (Zi l k) = none) : l = Y5 l k e := by
 unfold Y5
 rw [hv, hr.front, hr.back_no hn]; simp
theorem Srt.filter {l : List Pair} (h : Srt l) (p : Pair → Bool) : Srt (l.filter p) := List.Pairwise.filter p h
theorem Srt.with {l : List Pair} (h : Srt l) (k : Str) (e : Eff) : Srt (Y5 l k e) := by
 unfold Y5 Srt
 have ha : ∀ a ∈ l.filter (fun p => p.key.lt k), a.key.lt k = true := fun a ha => (List.mem_filter.1 ha).2
 have hb : ∀ b ∈ l.filter (fun p => k.lt p.key), k.lt b.key = true := fun b hb => (List.mem_filter.1 hb).2
 have hm : ∀ m ∈ (match e.apply (Zi l k) with | some v => [(⟨k, v⟩ : Pair)] | none => []), m.key = k := fun m hm => by
  cases h1 : e.apply (Zi l k) with
  | none => rw [h1] at hm; cases hm
  | some v => rw [h1] at hm; simp only [List.mem_singleton] at hm; rw [hm]
 refine List.pairwise_append.2 ⟨List.pairwise_append.2 ⟨h.filter _, ?_, fun a h1 m h2 => by rw [hm m h2]; exact ha a h1⟩, h.filter _, fun a h1 b h2 => ?_⟩
 ·cases e.apply (Zi l k) <;> simp
 ·rcases List.mem_append.1 h1 with h1 | h1
  ·exact Str.lt_trans (ha a h1) (hb b h2)
  ·rw [hm a h1]; exact hb b h2
theorem Zhz {l : List Pair} {k v : Str} (h : Zi l k = some v) : ⟨k, v⟩ ∈ l := by
 unfold Zi at h
 obtain ⟨p, hp, e⟩ := Option.map_eq_some_iff.1 h
 have h1 := List.mem_of_find?_eq_some hp
 have h2 := List.find?_some hp
 have h3 : p.key = k := of_decide_eq_true h2
 subst h3; subst e; exact h1
theorem Znr {l : List Pair} {k : Str} {e : Eff} (h : ∀ p ∈ l, Fits p) (hk : k.b.size ≤ 16) (he : e.val.b.size ≤ 16) : ∀ p ∈ Y5 l k e, Fits p := by
 intro p hp
 unfold Y5 at hp
 rcases List.mem_append.1 hp with hp | hp
 ·rcases List.mem_append.1 hp with hp | hp
  ·exact h p (List.mem_filter.1 hp).1
  ·cases hv : e.apply (Zi l k) with
   | none => rw [hv] at hp; cases hp
   | some v =>
    rw [hv] at hp
    simp only [List.mem_singleton] at hp
    subst hp
    refine ⟨hk, ?_⟩
    show v.b.size ≤ 16
    unfold Eff.apply at hv
    split at hv
    ·cases hv; exact he
    ·split at hv
     ·cases hv
     ·split at hv
      ·cases hv; exact Str.add_size _ _
      ·exact (h _ (Zhz hv)).2
 ·exact h p (List.mem_filter.1 hp).1
theorem ZbG {m : Msg} (k : Str) (h : m.val.b.size ≤ 16) : (m.on k).val.b.size ≤ 16 := by
 unfold Msg.on
 split
 ·show (ByteArray.mk #[]).size ≤ 16; decide
 ·split
  ·show (ByteArray.mk #[]).size ≤ 16; decide
  ·exact h
theorem PairsR.with {l : List Pair} {k : Str} {e : Eff} (h : PairsR l) (hk : k.b.size ≤ 16) (he : e.val.b.size ≤ 16) : PairsR (Y5 l k e) := by
 obtain ⟨h1, h2⟩ := Zah.1 h
 exact Zah.2 ⟨Znr h1 hk he, h2.with k e⟩
theorem PairsR.filter {l : List Pair} (h : PairsR l) (p : Pair → Bool) : PairsR (l.filter p) := by
 obtain ⟨h1, h2⟩ := Zah.1 h
 exact Zah.2 ⟨fun a ha => h1 a (List.mem_filter.1 ha).1, h2.filter p⟩
theorem PairsR.takeM {l : List Pair} {m : Msg} (h : PairsR l) (hk : m.key.b.size ≤ 16) (he : m.val.b.size ≤ 16) : PairsR (takeN l m) := by
 unfold takeN
 split
 ·exact h.filter _
 ·exact h.with hk (ZbG _ he)
theorem PairsR.fold {ms : List Msg} : ∀ {l : List Pair}, PairsR l → (∀ m ∈ ms, m.key.b.size ≤ 16 ∧ m.val.b.size ≤ 16) → PairsR (Zt l ms) := by
 induction ms with
 | nil => exact fun h _ => h
 | cons m ms ih => exact fun h hm => ih (h.takeM (hm m (by simp)).1 (hm m (by simp)).2) (fun m h => hm m (by simp [h]))
theorem PairsR.srt {l : List Pair} (h : PairsR l) : Srt l := (Zah.1 h).2
theorem Srt.with_len {l : List Pair} (hr : Srt l) (k : Str) (e : Eff) : (Y5 l k e).length ≤ l.length + 1 := by
 unfold Y5
 rw [hr.front]
 cases h : (Zi l k).isSome
 ·rw [hr.back_no h]
  cases e.apply (Zi l k) <;> simp <;> omega
 ·rw [hr.has k] at h
  obtain ⟨h1, h2⟩ := of_decide_eq_true h
  rw [hr.back_yes h1 h2]
  cases e.apply (Zi l k) <;> simp <;> omega
theorem PairsR.take_len {l : List Pair} (h : PairsR l) (m : Msg) : (takeN l m).length ≤ l.length + 1 := by
 unfold takeN
 split
 ·have := List.length_filter_le (fun p : Pair => !m.span.has p.key) l; omega
 ·exact h.srt.with_len _ _
theorem Zdj {α : Type} {p : α → Bool} {l : List α} {i : Nat} (hi : i < l.length) (h : p l[i] = true) : (l.take (i + 1)).filter p = (l.take i).filter p ++ [l[i]] := by
 rw [List.take_succ_eq_append_getElem hi, List.filter_append]; simp [h]
theorem Zcp {α : Type} {p : α → Bool} {l : List α} {i : Nat} (hi : i < l.length) (h : p l[i] = false) : (l.take (i + 1)).filter p = (l.take i).filter p := by
 rw [List.take_succ_eq_append_getElem hi, List.filter_append]; simp [h]
theorem Zns {α : Type} (p : α → Bool) (l : List α) (i : Nat) : ((l.take i).filter p).length ≤ l.length := by
 have := List.length_filter_le p (l.take i); rw [List.length_take] at this; omega
def Zay (o : Option Str) (k : Str) : List Pair := match o with | some v => [⟨k, v⟩] | none => []
theorem Znt (o : Option Str) (k : Str) : (Zay o k).length ≤ 1 := by cases o <;> simp [Zay]
theorem Zcq (l : List Pair) (k : Str) (e : Eff) : Y5 l k e = (l.filter fun p => p.key.lt k) ++ Zay (e.apply (Zi l k)) k ++ (l.filter fun p => k.lt p.key) := by
 unfold Y5 Zay; cases e.apply (Zi l k) <;> rfl
theorem ZhA (o : Option Str) : Yz o.isSome (o.getD Str.nil) = o := by cases o <;> rfl
theorem ZeU {l : List Pair} {ms : List Msg} {k : Nat} (h : k < ms.length) : Zt l (ms.take (k + 1)) = takeN (Zt l (ms.take k)) ms[k] := by
 rw [List.take_succ_eq_append_getElem h, Zt, List.foldl_append]; rfl
theorem PairsR.val {l : List Pair} (h : PairsR l) (k : Str) : ((Zi l k).getD Str.nil).b.size ≤ 16 := by
 cases hg : Zi l k with
 | none => show (ByteArray.mk #[]).size ≤ _; decide
 | some v => exact ((Zah.1 h).1 _ (Zhz hg)).2
theorem MsgsR.kinds {l : List Msg} (h : MsgsR l) : ∀ m ∈ l, 1 ≤ m.kind ∧ m.kind ≤ 4 := fun m hm => by
 obtain ⟨i, hi, rfl⟩ := List.getElem_of_mem hm
 have h1 := (h i hi).1
 unfold Msg.R at h1
 grind
def Js (a b : Str) : Int := if a.lt b = true then -1 else if b.lt a = true then 1 else 0
theorem ZeV {a b : Str} : Js a b < 0 ↔ a.lt b = true := by
 unfold Js; split
 ·simp_all
 ·split <;> simp_all
theorem Znu {a b : Str} : Js a b = 0 ↔ a = b := by
 unfold Js; split
 ·rename_i h; simp only [Int.reduceNeg, Int.reduceEq, false_iff]; rintro rfl; rw [Str.lt_irrefl] at h; cases h
 ·rename_i h; split
  ·rename_i h2; simp only [Int.reduceEq, false_iff]; rintro rfl; rw [Str.lt_irrefl] at h2; cases h2
  ·rename_i h2; simp only [true_iff]; exact Str.lt_total (by simpa using h) (by simpa using h2)
theorem ZhB {a b : Str} : decide (Js a b = 0) = decide (a = b) := decide_eq_decide.2 Znu
theorem Znv {a b : Eff} (ha : a.val.b.size ≤ 16) (hb : b.val.b.size ≤ 16) : (a.then b).val.b.size ≤ 16 := by
 unfold Eff.then
 split
 ·exact ha
 ·split
  ·exact hb
  ·exact Str.add_size _ _
theorem ZeW (l : List Msg) (k : Str) (h : ∀ m ∈ l, m.val.b.size ≤ 16) : (YF l k).val.b.size ≤ 16 := by
 suffices ∀ (l : List Msg) (e : Eff), e.val.b.size ≤ 16 → (∀ m ∈ l, m.val.b.size ≤ 16) → (l.foldl (fun e m => e.then (m.on k)) e).val.b.size ≤ 16 from
  this l _ (by show (ByteArray.mk #[]).size ≤ 16; decide) h
 intro l
 induction l with
 | nil => exact fun e he _ => he
 | cons m l ih => exact fun e he h => ih _ (Znv he (ZbG k (h m (by simp)))) (fun m h2 => h m (by simp [h2]))
theorem ZhC {a b : Str} (h : ¬ Js a b < 0) : a.lt b = false := by
 cases h1 : a.lt b
 ·rfl
 ·exact absurd (ZeV.2 h1) h
end Go.Fw
namespace Go.Fw
section
variable {α : Type} [Inhabited α]
def nth (l : List α) (k : Nat) : α := l.getD k default
theorem Yp {l : List α} {k : Nat} (h : k < l.length) : nth l k = l[k] := by simp [nth, List.getD, List.getElem?_eq_getElem h]
def YJ (l : List α) (i j : Nat) : List α := (l.set i (nth l j)).set j (nth l i)
theorem XH (l : List α) (i j : Nat) : (YJ l i j).length = l.length := by simp [YJ]
theorem ZhD {l : List α} {i k : Nat} {a : α} (h : i < l.length) : nth (l.set i a) k = if k = i then a else nth l k := by
 simp only [nth, List.getD, List.getElem?_set]
 by_cases e : i = k
 ·subst e; simp [h]
 ·rw [if_neg e, if_neg (fun x => e x.symm)]
theorem Jt {l : List α} {i j : Nat} (hi : i < l.length) (hj : j < l.length) (k : Nat) : nth (YJ l i j) k = if k = j then nth l i else if k = i then nth l j else nth l k := by
 rw [YJ, ZhD (by simpa using hj), ZhD hi]
theorem Zdk {l : List α} {i j : Nat} (hi : i < l.length) (hj : j < l.length) : (YJ l i j).Perm l := by
 have h := Array.swap_perm (xs := l.toArray) (i := i) (j := j) (by simpa using hi) (by simpa using hj)
 rw [Array.perm_iff_toList_perm] at h
 simpa [YJ, Yp hi, Yp hj, Array.swap_def] using h
structure LO (lt : α → α → Bool) : Prop where
 asymm : ∀ {a b}, lt a b = true → lt b a = false
 trans : ∀ {a b c}, lt b a = false → lt c b = false → lt c a = false
variable {lt : α → α → Bool}
theorem LO.irrefl (h : LO lt) (a : α) : lt a a = false := by
 cases e : lt a a
 ·rfl
 ·exact e.symm.trans (h.asymm e)
def HeapF (lt : α → α → Bool) (l : List α) (n s : Nat) : Prop := ∀ c, 0 < c → c < n → s ≤ (c - 1) / 2 → lt (nth l c) (nth l ((c - 1) / 2)) = false
abbrev Heap (lt : α → α → Bool) (l : List α) : Prop := HeapF lt l l.length 0
def upL (lt : α → α → Bool) : Nat → List α → Nat → List α
 | 0, l, _ => l
 | f + 1, l, j => if (j - 1) / 2 = j ∨ lt (nth l j) (nth l ((j - 1) / 2)) = false then l else upL lt f (YJ l ((j - 1) / 2) j) ((j - 1) / 2)
theorem ZhE : ∀ (f : Nat) (l : List α) (j : Nat), j < l.length → (upL lt f l j).Perm l
 | 0, _, _, _ => List.Perm.refl _
 | f + 1, l, j, h => by
  unfold upL; split
  ·exact List.Perm.refl _
  ·exact (ZhE f _ _ (by rw [XH]; omega)).trans (Zdk om9 h)
def UpI (lt : α → α → Bool) (l : List α) (n j : Nat) : Prop :=
 (∀ c, 0 < c → c < n → c ≠ j → lt (nth l c) (nth l ((c - 1) / 2)) = false) ∧ (∀ c, 0 < c → c < n → (c - 1) / 2 = j → 0 < j → lt (nth l c) (nth l ((j - 1) / 2)) = false)
theorem ZhF (ho : LO lt) : ∀ (f : Nat) (l : List α) (j n : Nat), UpI lt l n j → j < n → n ≤ l.length → j ≤ f → HeapF lt (upL lt f l j) n 0
 | 0, l, j, n, h, hj, hn, hf => fun c h0 hc _ => h.1 c h0 hc om9
 | f + 1, l, j, n, h, hj, hn, hf => by
  unfold upL
  split
  ·rename_i hs
   intro c h0 hc _
   by_cases e : c = j
   ·subst e
    rcases hs with hs | hs
    ·omega
    ·exact hs
   ·exact h.1 c h0 hc e
  ·rename_i hs
   have hs1 : ¬ (j - 1) / 2 = j := fun x => hs (.inl x)
   have hs2 : lt (nth l j) (nth l ((j - 1) / 2)) = true := by cases e : lt (nth l j) (nth l ((j - 1) / 2)) with | false => exact absurd (.inr e) hs | true => rfl
   have hj0 : 0 < j := om9
   have hp : (j - 1) / 2 < j := om9
   refine ZhF ho f _ _ n ⟨fun c h0 hc hne => ?_, fun c h0 hc hpc hp0 => ?_⟩ om9 (by rw [XH]; exact hn) om9
   ·rw [Jt om9 om9, Jt om9 om9]
    by_cases e : c = j
    ·subst e
     rw [if_pos rfl, if_neg om9, if_pos rfl]
     exact ho.asymm hs2
    ·rw [if_neg e, if_neg hne]
     by_cases e1 : (c - 1) / 2 = j
     ·rw [if_pos e1]; exact h.2 c h0 hc e1 hj0
     ·rw [if_neg e1]
      by_cases e2 : (c - 1) / 2 = (j - 1) / 2
      ·rw [if_pos e2]
       have := h.1 c h0 hc e
       rw [e2] at this
       exact ho.trans (ho.asymm hs2) this
      ·rw [if_neg e2]; exact h.1 c h0 hc e
   ·have hg := h.1 ((j - 1) / 2) hp0 om9 om9
    rw [Jt om9 om9, Jt om9 om9]
    rw [if_neg (by omega : ¬ ((j - 1) / 2 - 1) / 2 = j), if_neg (by omega : ¬ ((j - 1) / 2 - 1) / 2 = (j - 1) / 2)]
    by_cases e : c = j
    ·rw [if_pos e]; exact hg
    ·rw [if_neg e, if_neg om9]
     have := h.1 c h0 hc e
     rw [hpc] at this
     exact ho.trans hg this
def YR (lt : α → α → Bool) (l : List α) (i n : Nat) : Nat := if 2 * i + 2 < n ∧ lt (nth l (2 * i + 2)) (nth l (2 * i + 1)) = true then 2 * i + 2 else 2 * i + 1
def YG (lt : α → α → Bool) : Nat → List α → Nat → Nat → List α
 | 0, l, _, _ => l
 | f + 1, l, i, n => if n ≤ 2 * i + 1 then l else if lt (nth l (YR lt l i n)) (nth l i) = false then l else YG lt f (YJ l i (YR lt l i n)) (YR lt l i n) n
theorem Zcr {l : List α} {i n : Nat} (h : ¬ n ≤ 2 * i + 1) : YR lt l i n < n ∧ i < YR lt l i n ∧ (YR lt l i n - 1) / 2 = i ∧ YR lt l i n ≤ 2 * i + 2 ∧ 2 * i + 1 ≤ YR lt l i n := by
 unfold YR; split <;> omega
theorem Zdl : ∀ (f : Nat) (l : List α) (i n : Nat), (YG lt f l i n).length = l.length
 | 0, _, _, _ => rfl
 | f + 1, l, i, n => by
  unfold YG; split
  ·rfl
  ·split
   ·rfl
   ·rw [Zdl f, XH]
theorem ZhG : ∀ (f : Nat) (l : List α) (i n : Nat), n ≤ l.length → (YG lt f l i n).Perm l
 | 0, _, _, _, _ => List.Perm.refl _
 | f + 1, l, i, n, h => by
  unfold YG; split
  ·exact List.Perm.refl _
  ·rename_i h1
   split
   ·exact List.Perm.refl _
   ·have := Zcr (lt := lt) (l := l) h1
    exact (ZhG f _ _ n (by rw [XH]; exact h)).trans (Zdk om9 om9)
theorem ZeX : ∀ (f : Nat) (l : List α) (i n k : Nat), n ≤ l.length → n ≤ k → nth (YG lt f l i n) k = nth l k
 | 0, _, _, _, _, _, _ => rfl
 | f + 1, l, i, n, k, h, hk => by
  unfold YG; split
  ·rfl
  ·rename_i h1
   split
   ·rfl
   ·have := Zcr (lt := lt) (l := l) h1
    rw [ZeX f _ _ n k (by rw [XH]; exact h) hk, Jt om9 om9, if_neg om9, if_neg om9]
def DownI (lt : α → α → Bool) (l : List α) (n s i : Nat) : Prop :=
 (∀ c, 0 < c → c < n → s ≤ (c - 1) / 2 → (c - 1) / 2 ≠ i → lt (nth l c) (nth l ((c - 1) / 2)) = false) ∧ (∀ c, 0 < c → c < n → (c - 1) / 2 = i → 0 < i → s ≤ (i - 1) / 2 → lt (nth l c) (nth l ((i - 1) / 2)) = false)
theorem ZhH (ho : LO lt) : ∀ (f : Nat) (l : List α) (i n s : Nat), DownI lt l n s i → s ≤ i → n ≤ l.length → n ≤ i + f → HeapF lt (YG lt f l i n) n s
 | 0, l, i, n, s, h, hs, hn, hf => fun c h0 hc h1 => h.1 c h0 hc h1 om9
 | f + 1, l, i, n, s, h, hs, hn, hf => by
  unfold YG
  split
  ·exact fun c h0 hc h1 => h.1 c h0 hc h1 om9
  ·rename_i h1
   obtain ⟨k1, k2, k3, k4, k5⟩ := Zcr (lt := lt) (l := l) h1
   have hk : ∀ c, 0 < c → c < n → (c - 1) / 2 = i → lt (nth l c) (nth l (YR lt l i n)) = false := fun c h0 hc hp => by
    have hc2 : c = 2 * i + 1 ∨ c = 2 * i + 2 := om9
    unfold YR
    by_cases hb : 2 * i + 2 < n ∧ lt (nth l (2 * i + 2)) (nth l (2 * i + 1)) = true
    ·rw [if_pos hb]
     rcases hc2 with rfl | rfl
     ·exact ho.asymm hb.2
     ·exact ho.irrefl _
    ·rw [if_neg hb]
     rcases hc2 with rfl | rfl
     ·exact ho.irrefl _
     ·cases e : lt (nth l (2 * i + 2)) (nth l (2 * i + 1)) with
      | false => rfl
      | true => exact absurd ⟨hc, e⟩ hb
   split
   ·rename_i h2
    intro c h0 hc h3
    by_cases e : (c - 1) / 2 = i
    ·rw [e]; exact ho.trans h2 (hk c h0 hc e)
    ·exact h.1 c h0 hc h3 e
   ·rename_i h2
    have h2 : lt (nth l (YR lt l i n)) (nth l i) = true := by cases e : lt (nth l (YR lt l i n)) (nth l i) with | false => exact absurd e h2 | true => rfl
    generalize hj : YR lt l i n = j at *
    refine ZhH ho f _ j n s ⟨fun c h0 hc h3 h4 => ?_, fun c h0 hc hp hj0 h3 => ?_⟩ om9 (by rw [XH]; exact hn) om9
    ·rw [Jt om9 om9, Jt om9 om9, if_neg h4]
     by_cases e : (c - 1) / 2 = i
     ·rw [if_pos e]
      by_cases e2 : c = j
      ·rw [if_pos e2]; exact ho.asymm h2
      ·rw [if_neg e2, if_neg om9]; exact hk c h0 hc e
     ·rw [if_neg e]
      have hcj : c ≠ j := fun x => e (by rw [x]; exact k3)
      rw [if_neg hcj]
      by_cases e3 : c = i
      ·rw [if_pos e3]
       subst e3
       exact h.2 j om9 k1 k3 h0 h3
      ·rw [if_neg e3]; exact h.1 c h0 hc h3 e
    ·rw [Jt om9 om9, Jt om9 om9, if_neg om9, if_neg om9, k3, if_neg om9, if_pos rfl]
     have := h.1 c h0 hc om9 om9
     rwa [hp] at this
theorem ZeY (ho : LO lt) {l : List α} {n : Nat} (h : HeapF lt l n 0) : ∀ (c : Nat), c < n → lt (nth l c) (nth l 0) = false
 | 0, _ => ho.irrefl _
 | c + 1, hc => by
  have h1 := h (c + 1) om9 hc om9
  have h2 := ZeY ho h ((c + 1 - 1) / 2) om9
  exact ho.trans h2 h1
termination_by c => c
def Zaz (lt : α → α → Bool) (l : List α) (x : α) : List α := upL lt l.length (l ++ [x]) l.length
def Y6 (lt : α → α → Bool) (l : List α) : List α := (YG lt l.length (YJ l 0 (l.length - 1)) 0 (l.length - 1)).take (l.length - 1)
theorem ZhI {l m : List α} {k : Nat} (h : k < l.length) : nth (l ++ m) k = nth l k := by simp [nth, List.getD, List.getElem?_append_left h]
theorem ZhJ {l : List α} {n k : Nat} (h : k < n) : nth (l.take n) k = nth l k := by simp [nth, List.getD, List.getElem?_take, h]
theorem ZeZ (ho : LO lt) {l : List α} (h : Heap lt l) (x : α) : Heap lt (Zaz lt l x) ∧ (Zaz lt l x).Perm (x :: l) := by
 have hp : (Zaz lt l x).Perm (l ++ [x]) := ZhE _ _ _ (by simp)
 refine ⟨?_, hp.trans (List.perm_append_singleton _ _)⟩
 have hl : (Zaz lt l x).length = l.length + 1 := by rw [hp.length_eq]; simp
 unfold Heap
 rw [hl]
 refine ZhF ho _ _ _ _ ⟨fun c h0 hc hne => ?_, fun c h0 hc hp hj => by omega⟩ om9 (by simp) (Nat.le_refl _)
 rw [ZhI om9, ZhI om9]
 exact h c h0 om9 om9
theorem Zdm (ho : LO lt) {l : List α} (h : Heap lt l) (hl : 0 < l.length) : Heap lt (Y6 lt l) ∧ (nth l 0 :: Y6 lt l).Perm l ∧ (Y6 lt l).length = l.length - 1 := by
 have hd : (YG lt l.length (YJ l 0 (l.length - 1)) 0 (l.length - 1)).length = l.length := by rw [Zdl, XH]
 have hlen : (Y6 lt l).length = l.length - 1 := by unfold Y6; rw [List.length_take, hd]; omega
 refine ⟨?_, ?_, hlen⟩
 ·unfold Heap
  rw [hlen]
  intro c h0 hc h1
  unfold Y6
  rw [ZhJ hc, ZhJ om9]
  refine ZhH ho l.length _ 0 (l.length - 1) 0 ⟨fun c h0 hc _ hne => ?_, fun c _ _ _ h0 => by omega⟩ (Nat.le_refl _) (by rw [XH]; omega) om9 c h0 hc h1
  rw [Jt om9 om9, Jt om9 om9, if_neg om9, if_neg om9, if_neg om9, if_neg hne]
  exact h c h0 om9 om9
 ·have hp : (YG lt l.length (YJ l 0 (l.length - 1)) 0 (l.length - 1)).Perm l :=
   (ZhG _ _ _ _ (by rw [XH]; omega)).trans (Zdk om9 om9)
  have hlast : nth (YG lt l.length (YJ l 0 (l.length - 1)) 0 (l.length - 1)) (l.length - 1) = nth l 0 := by
   rw [ZeX _ _ _ _ _ (by rw [XH]; omega) (Nat.le_refl _), Jt om9 om9, if_pos rfl]
  refine List.Perm.trans ?_ hp
  generalize hm : YG lt l.length (YJ l 0 (l.length - 1)) 0 (l.length - 1) = m at *
  have e : m = m.take (l.length - 1) ++ [nth l 0] := by
   conv => lhs; rw [← List.take_append_drop (l.length - 1) m]
   congr 1
   rw [List.drop_eq_getElem_cons om9, List.drop_eq_nil_of_le om9, ← hlast, Yp om9]
  unfold Y6
  rw [hm]
  conv => rhs; rw [e]
  exact (List.perm_append_singleton _ _).symm
end
end Go.Fw
namespace Go.Fw
open Go Go.RowKit
def XI : Enc Span where
 k := 3
 w := 40
 R := fun _ cs s => cs = [.string s.lo.b, .string s.hi.b, .bool s.opn]
 mono := fun _ h => h
 len := fun h => by rw [h]; rfl
 one := fun h u hu => by rw [h] at hu; simp at hu; rcases hu with rfl | rfl | rfl <;> rfl
def Znw : Enc Eff where
 k := 2
 w := 24
 R := fun _ cs e => cs = [.int .i64 e.kind, .string e.val.b] ∧ i64 e.kind
 mono := fun _ h => h
 len := fun h => by rw [h.1]; rfl
 one := fun h u hu => by rw [h.1] at hu; simp at hu; rcases hu with rfl | rfl <;> rfl
end Go.Fw
