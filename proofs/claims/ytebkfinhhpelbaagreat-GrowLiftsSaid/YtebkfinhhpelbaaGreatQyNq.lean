/- Maps whose keys are numbers, in the calculus of walks. Nothing of the program is named here. No condition. -/
import Derived.MapKept
import Derived.Test.YtebkfinhhpelbaaGreatQyNh
import Derived.Test.YtebkfinhhpelbaaGreatQyNm
import Derived.Test.YtebkfinhhpelbaaGreatQyMi
set_option linter.unusedVariables false
set_option linter.unusedSimpArgs false
set_option linter.unnecessarySimpa false
namespace Go.Fw
open Go Go.RowKit
structure VEnc (α : Type) where
  R : GH → Value → α → Prop
  mono : ∀ {G G' : GH} {v a}, Le G G' → R G v a → R G' v a
def vNode : VEnc Nd := ⟨fun G v n => ∃ cs, v = .agg (List.toArray cs) ∧ NodeC G cs n, fun hl ⟨cs, h1, h2⟩ => ⟨cs, h1, h2.mono hl⟩⟩
def vBool : VEnc Bool := ⟨fun _ v b => v = .bool b, fun _ h => h⟩
section
variable {α : Type}
def MpE (V : VEnc α) (G : GH) : List MapEntry → List (Int × α) → Prop
  | [], [] => True
  | e :: es, p :: m => e.key = .int .i64 p.1 ∧ V.R G e.val p.2 ∧ MpE V G es m
  | _, _ => False
theorem MpE.mono {V : VEnc α} {G G' : GH} (hl : Le G G') : ∀ {es : List MapEntry} {m : List (Int × α)}, MpE V G es m → MpE V G' es m
  | [], [], _ => trivial
  | e :: es, p :: m, h => ⟨h.1, V.mono hl h.2.1, h.2.2.mono hl⟩
  | [], _ :: _, h => h.elim
  | _ :: _, [], h => h.elim
theorem MpE.len {V : VEnc α} {G : GH} : ∀ {es : List MapEntry} {m : List (Int × α)}, MpE V G es m → es.length = m.length
  | [], [], _ => rfl
  | e :: es, p :: m, h => by simp [h.2.2.len]
  | [], _ :: _, h => h.elim
  | _ :: _, [], h => h.elim
def getM (m : List (Int × α)) (k : Int) : Option α := (m.find? fun p => decide (p.1 = k)).map (·.2)
def putM : List (Int × α) → Int → α → List (Int × α)
  | [], k, a => [(k, a)]
  | p :: m, k, a => if p.1 = k then (k, a) :: m else p :: putM m k a
def delM : List (Int × α) → Int → List (Int × α)
  | [], _ => []
  | p :: m, k => if p.1 = k then m else p :: delM m k
theorem getM_cons (p : Int × α) (m : List (Int × α)) (k : Int) : getM (p :: m) k = if p.1 = k then some p.2 else getM m k := by
  unfold getM
  by_cases h : p.1 = k
  · rw [List.find?_cons_of_pos (by simpa using h), if_pos h]; rfl
  · rw [List.find?_cons_of_neg (by simpa using h), if_neg h]
theorem getM_put : ∀ (m : List (Int × α)) (k : Int) (a : α) (j : Int), getM (putM m k a) j = if j = k then some a else getM m j
  | [], k, a, j => by
    rw [putM, getM_cons]
    by_cases h : k = j
    · rw [if_pos h, if_pos h.symm]
    · rw [if_neg h, if_neg (fun e => h e.symm)]
  | p :: m, k, a, j => by
    rw [putM]
    by_cases hp : p.1 = k
    · rw [if_pos hp, getM_cons, getM_cons]
      by_cases h : k = j
      · rw [if_pos h, if_pos h.symm]
      · rw [if_neg h, if_neg (fun e => h e.symm), if_neg (by rw [hp]; exact h)]
    · rw [if_neg hp, getM_cons, getM_cons, getM_put m k a j]
      by_cases h : p.1 = j
      · rw [if_pos h, if_pos h, if_neg (fun e => hp (h.trans e))]
      · rw [if_neg h, if_neg h]
def mapIK (P : Program) (t : TypeId) : Option TypeId :=
  match P.underlying t with
  | some (.map kt e) => match P.underlying kt with
    | some (.int .i64) => some e
    | _ => none
  | _ => none
def MpR (V : VEnc α) (b : Nat) (G : GH) (m : List (Int × α)) (M : MH) : Prop := ∃ (es : List MapEntry) (clock : Nat), M = [(b, .map es.toArray clock)] ∧ MpE V G es m
theorem MpR.mono {V : VEnc α} {b : Nat} {G G' : GH} {m : List (Int × α)} {M : MH} (hl : Le G G') (h : MpR V b G m M) : MpR V b G' m M := by
  obtain ⟨es, c, h1, h2⟩ := h; exact ⟨es, c, h1, h2.mono hl⟩
def MpG (V : VEnc α) (G : GH) (v : Value) (m : List (Int × α)) : Prop := ∃ (b : Nat) (es : List MapEntry) (clock : Nat), v = .map (some b) ∧ G b = some (.map es.toArray clock) ∧ MpE V G es m
theorem MpG.mono {V : VEnc α} {G G' : GH} {v : Value} {m : List (Int × α)} (hl : Le G G') (h : MpG V G v m) : MpG V G' v m := by
  obtain ⟨b, es, c, h1, h2, h3⟩ := h; exact ⟨b, es, c, h1, hl _ _ h2, h3.mono hl⟩
theorem MpG.form {V : VEnc α} {G : GH} {v : Value} {m : List (Int × α)} (h : MpG V G v m) : ∃ b, v = .map (some b) := by
  obtain ⟨b, _, _, h1, _⟩ := h; exact ⟨b, h1⟩
end
section
variable {α : Type} {E : Env} {f : Fr} {G : GH} {M Mk Ms Mr : MH} {ops rest : List Oper} {q : Bool} {K : Kt} {d : Nat} {ty : TypeId} {pos : String} {aft : Array Edge} {t et : TypeId} {x y kk : Operand} {b : Nat} {k : Int} {m : List (Int × α)} {V : VEnc α}
def zvK (P : Program) (t : TypeId) : Option Value := (P.info? t).bind (·.zero)
end
end Go.Fw
/- The way of a text in a sound tree, step by step. Plain Lean; nothing of the program is named here. No condition. -/
set_option linter.unusedVariables false
set_option linter.unusedSimpArgs false
set_option linter.unnecessarySimpa false
namespace Go.Fw
open Go Go.RowKit
variable {c : Cfg} {l : List Nd} {ss : List Seat}
structure At (l : List Nd) (ss : List Seat) (k : Str) (x : Seat) (P : List Seat) (lv : Int) : Prop where
  mem : x ∈ ss
  way : wayN l k = P ++ wayF l k x.n.level.toNat x
  lv : lv < 0 ∨ lv = x.n.level + 1
theorem At.init (t : Tree c l ss) (k : Str) : At l ss k (rootS l 0) [] (-1) := ⟨t.root, rfl, .inl (by omega)⟩
theorem At.last {k : Str} {x : Seat} {P : List Seat} {lv : Int} (h : At l ss k x P lv) (h0 : x.n.level ≤ 0) : wayN l k = P ++ [x] := by
  rw [h.way, show x.n.level.toNat = 0 by omega]; rfl
theorem Tree.right (t : Tree c l ss) {x : Seat} (hx : x ∈ ss) (h0 : ¬ x.n.level ≤ 0) : rightN x.n.pivots x.n.kids.length = true := (kids_all (t.kids hx) (by omega)).2.2.1
theorem Tree.route (t : Tree c l ss) {x : Seat} (hx : x ∈ ss) (h0 : ¬ x.n.level ≤ 0) (k : Str) : routeN x.n.pivots k < x.n.kids.length := route_lt (t.right hx h0) k
theorem At.next (t : Tree c l ss) {k : Str} {x : Seat} {P : List Seat} {lv : Int} (h : At l ss k x P lv) (h0 : ¬ x.n.level ≤ 0) : At l ss k (kidSt l x (routeN x.n.pivots k)) (P ++ [x]) x.n.level := by
  have ha := t.at h.mem (by omega) (t.route h.mem h0 k)
  refine ⟨ha.1, ?_, .inr (by omega)⟩
  rw [h.way, show x.n.level.toNat = (kidSt l x (routeN x.n.pivots k)).n.level.toNat + 1 by omega, way_cons (stepW_1 (by omega))]
  simp
theorem At.slot (t : Tree c l ss) {x : Seat} (hx : x ∈ ss) (h0 : ¬ x.n.level ≤ 0) (k : Str) : (kidSt l x (routeN x.n.pivots k)).n.slot = x.n.kids[routeN x.n.pivots k]'(t.route hx h0 k) := by
  have ha := t.at hx (by omega) (t.route hx h0 k)
  rw [ha.2.2.1]
  exact (getL_slot t.slot ha.2.1).1
theorem Tree.root0 (t : Tree c l ss) : (rootS l 0).n.slot = 0 := by
  rw [t.rootn]
  exact (getL_slot t.slot ⟨Int.le_refl 0, by have := t.pos; omega⟩).1
/-! ## The leaves' rows -/
theorem leaves_t {i : Nat} (h : i < ss.length) (h0 : (ss[i]).n.level = 0) : leavesS (ss.take (i + 1)) = leavesS (ss.take i) ++ [ss[i]] := filt_t (p := fun y : Seat => decide (y.n.level = 0)) h (decide_eq_true h0)
theorem leaves_f {i : Nat} (h : i < ss.length) (h0 : ¬ (ss[i]).n.level = 0) : leavesS (ss.take (i + 1)) = leavesS (ss.take i) := filt_f (p := fun y : Seat => decide (y.n.level = 0)) h (decide_eq_false h0)
theorem sizes_len : ∀ {ms : List Msg}, (∀ m ∈ ms, m.R) → 4 * (ms.length : Int) ≤ sizesN ms
  | [], _ => by simp [sizesN]
  | m :: ms, h => by
    have h1 := sizes_len (ms := ms) (fun a ha => h a (List.mem_cons_of_mem _ ha))
    have h2 := size_36 (msgR_key (h m (by simp)))
    rw [sizes_cons, List.length_cons]; omega
theorem Tree.msgs_len (t : Tree c l ss) {x : Seat} (hx : x ∈ ss) : x.n.msgs.length ≤ 1024 := by
  by_cases h0 : x.n.level = 0
  · rw [t.nomsgs hx h0]; exact Nat.zero_le _
  · have h1 := (t.inner hx h0).2.2.2.1
    have h2 := sizes_len (t.msgs hx).2.1
    have h3 := t.cfg.2.2.1.2
    omega
theorem Tree.rows_len (t : Tree c l ss) {x : Seat} (hx : x ∈ ss) : x.n.rows.length ≤ 64 := by
  by_cases h0 : x.n.level = 0
  · have h1 := (t.leaf hx h0).2.1
    have h3 := t.cfg.2.1.2
    omega
  · have := (t.inner hx h0).1.1
    omega
theorem Tree.ms_len (t : Tree c l ss) : ∀ x ∈ ss, x.ms.length ≤ 1024 * (100 - x.n.level.toNat) ∧ x.n.level ≤ 99 := by
  have hr : (rootS l 0).n.level.toNat ≤ 99 := by
    obtain ⟨z, h1, h2⟩ := way_leaves (k := Str.nil) t _ (rootS l 0) t.root rfl
    have h3 := t.way_len Str.nil
    have len : ∀ n x, x ∈ ss → x.n.level.toNat = n → (wayF l Str.nil n x).length = n + 1 := by
      intro n
      induction n with
      | zero => intro x _ _; rfl
      | succ n ih =>
        intro x hx hn
        have h0 : ¬ x.n.level = 0 := by omega
        have ha := t.step (k := Str.nil) hx (stepW_1 h0)
        rw [way_cons (stepW_1 h0), List.length_cons, ih _ ha.1 (by omega)]
    have h4 := len _ (rootS l 0) t.root rfl
    have h5 : (wayN l Str.nil).length = (rootS l 0).n.level.toNat + 1 := h4
    omega
  refine t.ind ⟨Nat.zero_le _, by omega⟩ fun x hx h0 ih j hj => ?_
  have ha := t.at hx h0 hj
  have hlx := t.lvl hx
  have hly := t.lvl ha.1
  have hms := congrArg List.length (t.kid_ms hx (t.rst x hx) j).1
  rw [List.length_append] at hms
  have c1 : (clips (kidSt l x j).s x.n.msgs).length ≤ x.n.msgs.length := clips_le
  have c2 : (clips (kidSt l x j).s x.ms).length ≤ x.ms.length := clips_le
  have c3 := t.msgs_len hx
  refine ⟨?_, by omega⟩
  have : 100 - (kidSt l x j).n.level.toNat = 100 - x.n.level.toNat + 1 := by omega
  rw [this]
  omega
theorem Tree.view_len (t : Tree c l ss) {x : Seat} (hx : x ∈ ss) : (viewS x).length ≤ 102464 := by
  have h1 := t.rows hx
  have h2 : (x.n.rows.filter fun p => x.s.has p.key).length ≤ x.n.rows.length := List.length_filter_le _ _
  have h3 := t.rows_len hx
  have h4 := (t.ms_len x hx).1
  have h5 : (clips x.s x.ms).length ≤ x.ms.length := clips_le
  have h6 := fold_lenF (l := x.n.rows.filter fun p => x.s.has p.key) (ms := clips x.s x.ms) (h1.filter _) (clips_fit (by have := (t.fits x hx).1.1; omega) fun m hm => msgR_key ((t.fits x hx).2 m hm))
  unfold viewS
  omega
theorem flatv_len {b : Nat} {f : Seat → List Pair} : ∀ {T : List Seat}, (∀ x ∈ T, (f x).length ≤ b) → (T.flatMap f).length ≤ T.length * b
  | [], _ => Nat.zero_le _
  | x :: T, h => by
    have h1 := h x (by simp)
    have h2 := flatv_len (b := b) (f := f) (T := T) (fun y hy => h y (List.mem_cons_of_mem _ hy))
    rw [List.flatMap_cons, List.length_append, List.length_cons, Nat.succ_mul]; omega
theorem Tree.views_len (t : Tree c l ss) (i : Nat) : ((leavesS (ss.take i)).flatMap viewS).length ≤ 100 * 102464 := by
  have h1 := flatv_len (b := 102464) (f := viewS) (T := leavesS (ss.take i)) fun x hx => t.view_len (List.mem_of_mem_take (List.mem_filter.1 hx).1)
  have h2 : (leavesS (ss.take i)).length ≤ (ss.take i).length := List.length_filter_le _ _
  have h3 : (ss.take i).length ≤ ss.length := by rw [List.length_take]; omega
  have h4 := t.len
  have h5 := t.sml.1
  exact Nat.le_trans h1 (Nat.mul_le_mul_right 102464 (by omega))
theorem Tree.lookup (t : Tree c l ss) (k : Str) : Eff.apply (onsN (leafS l k).ms k) (getN (leafS l k).n.rows k) = getN (mapN l) k := by
  rw [t.get k, getN_fold]
  intro m hm
  have := (t.fits _ (t.leafOk k).mem).2 m hm
  have h4 := MsgsR.kinds (l := [m]) (MsgsR.iff.2 ⟨by intro a ha; simp at ha; subst ha; exact this, List.pairwise_singleton _ _⟩) m (by simp)
  exact ⟨by have := (msgR_key this).1; omega, h4.1, h4.2⟩
end Go.Fw
/- What a sweep gets of a leaf. Plain Lean; nothing of the program is named here. No condition. -/
set_option linter.unusedVariables false
set_option linter.unusedSimpArgs false
set_option linter.unnecessarySimpa false
namespace Go.Fw
def cutN (l : List Pair) (n : Int) : Nat := (max 0 (min (l.length : Int) n)).toNat
def partN (l : List Pair) (s : Span) (ms : List Msg) (c : Str) (n : Int) : List Pair × Str × Bool :=
  if s.empty = true then ([], c, true) else ((foldN (l.filter fun p => Span.has s p.key) (clips s ms)).take (cutN (foldN (l.filter fun p => Span.has s p.key) (clips s ms)) n), (if s.opn = true then Str.nil else s.hi), s.opn || decide (n ≤ ((foldN (l.filter fun p => Span.has s p.key) (clips s ms)).length : Int)))
theorem partN_n {l : List Pair} {s : Span} {ms : List Msg} {c : Str} {n : Int} (h : s.empty = false) {x : Str} {b : Bool} (hx : x = if s.opn = true then Str.nil else s.hi) (hb : b = (s.opn || decide (n ≤ ((foldN (l.filter fun p => Span.has s p.key) (clips s ms)).length : Int)))) :
    partN l s ms c n = ((foldN (l.filter fun p => Span.has s p.key) (clips s ms)).take (cutN (foldN (l.filter fun p => Span.has s p.key) (clips s ms)) n), x, b) := by rw [partN, if_neg (by simp [h]), hx, hb]
end Go.Fw
