/- Maps whose keys are numbers, in the calculus of walks. Nothing of the program is named here. No condition. -/
import Derived.MapKept
import Derived.Test.YtemoalimclnfkaaGreatQjNc
set_option linter.unusedVariables false
set_option linter.unusedSimpArgs false
set_option linter.unnecessarySimpa false

namespace Go.Fw
open Go Go.RowKit
structure VEnc (α : Type) where
 R : GH → Value → α → Prop
 mono : ∀ {G G' : GH} {v a}, Le G G' → R G v a → R G' v a
def vNode : VEnc Nd := ⟨fun G v n => ∃ cs, v = .agg (List.toArray cs) ∧ NodeC G cs n, fun hl ⟨cs, h1, h2⟩ => ⟨cs, h1, h2.mono hl⟩⟩
def vBool : VEnc Bool := ⟨fun _ v b => v = .bool b, fun _ h => h⟩
section
variable {α : Type}
def MpE (V : VEnc α) (G : GH) : List MapEntry → List (Int × α) → Prop
 | [], [] => True
 | e :: es, p :: m => e.key = .int .i64 p.1 ∧ V.R G e.val p.2 ∧ MpE V G es m
 | _, _ => False
theorem MpE.mono {V : VEnc α} {G G' : GH} (hl : Le G G') : ∀ {es : List MapEntry} {m : List (Int × α)}, MpE V G es m → MpE V G' es m
 | [], [], _ => trivial
 | e :: es, p :: m, h => ⟨h.1, V.mono hl h.2.1, h.2.2.mono hl⟩
 | [], _ :: _, h => h.elim
 | _ :: _, [], h => h.elim
theorem MpE.len {V : VEnc α} {G : GH} : ∀ {es : List MapEntry} {m : List (Int × α)}, MpE V G es m → es.length = m.length
 | [], [], _ => rfl
 | e :: es, p :: m, h => by simp [h.2.2.len]
 | [], _ :: _, h => h.elim
 | _ :: _, [], h => h.elim
def getM (m : List (Int × α)) (k : Int) : Option α := (m.find? fun p => decide (p.1 = k)).map (·.2)
def putM : List (Int × α) → Int → α → List (Int × α)
 | [], k, a => [(k, a)]
 | p :: m, k, a => if p.1 = k then (k, a) :: m else p :: putM m k a
def delM : List (Int × α) → Int → List (Int × α)
 | [], _ => []
 | p :: m, k => if p.1 = k then m else p :: delM m k
theorem getM_cons (p : Int × α) (m : List (Int × α)) (k : Int) : getM (p :: m) k = if p.1 = k then some p.2 else getM m k := by
 unfold getM
 by_cases h : p.1 = k
 ·rw [List.find?_cons_of_pos (by simpa using h), if_pos h]; rfl
 ·rw [List.find?_cons_of_neg (by simpa using h), if_neg h]
theorem getM_put : ∀ (m : List (Int × α)) (k : Int) (a : α) (j : Int), getM (putM m k a) j = if j = k then some a else getM m j
 | [], k, a, j => by
  rw [putM, getM_cons]
  by_cases h : k = j
  ·rw [if_pos h, if_pos h.symm]
  ·rw [if_neg h, if_neg (fun e => h e.symm)]
 | p :: m, k, a, j => by
  rw [putM]
  by_cases hp : p.1 = k
  ·rw [if_pos hp, getM_cons, getM_cons]
   by_cases h : k = j
   ·rw [if_pos h, if_pos h.symm]
   ·rw [if_neg h, if_neg (fun e => h e.symm), if_neg (by rw [hp]; exact h)]
  ·rw [if_neg hp, getM_cons, getM_cons, getM_put m k a j]
   by_cases h : p.1 = j
   ·rw [if_pos h, if_pos h, if_neg (fun e => hp (h.trans e))]
   ·rw [if_neg h, if_neg h]
theorem same_int (k j : Int) : Instr.sameNow (.int .i64) (.int .i64 k) (.int .i64 j) = some (k == j) := by simp [Instr.sameNow]
theorem find_mp {V : VEnc α} {G : GH} {k : Int} : ∀ {es : List MapEntry} {m : List (Int × α)} (i : Nat), MpE V G es m →
  (getM m k = none ∧ Instr.findNow (.int .i64) (.int .i64 k) es i = some none ∧ (∀ x a n, V.R G x a → MpE V G (es ++ [⟨.int .i64 k, x, n⟩]) (putM m k a)) ∧ delM m k = m) ∨
  ∃ j e a, getM m k = some a ∧ es[j]? = some e ∧ Instr.findNow (.int .i64) (.int .i64 k) es i = some (some (i + j, e.val)) ∧ e.key = .int .i64 k ∧ V.R G e.val a ∧
   (∀ x b, V.R G x b → MpE V G (es.modify j fun e => { e with key := .int .i64 k, val := x }) (putM m k b)) ∧ MpE V G (es.eraseIdx j) (delM m k)
 | [], [], i, _ => .inl ⟨rfl, rfl, fun x a n hx => ⟨rfl, hx, trivial⟩, rfl⟩
 | e :: es, p :: m, i, h => by
  by_cases hk : p.1 = k
  ·refine .inr ⟨0, e, p.2, by rw [getM_cons, if_pos hk], rfl, ?_, by rw [h.1, hk], h.2.1, fun x b hx => ?_, ?_⟩
   ·rw [Instr.findNow, h.1, same_int, hk]; simp
   ·rw [putM, if_pos hk]
    simp only [List.modify_zero_cons]
    exact ⟨rfl, hx, h.2.2⟩
   ·rw [delM, if_pos hk]; exact h.2.2
  ·have hf : ∀ i, Instr.findNow (.int .i64) (.int .i64 k) (e :: es) i = Instr.findNow (.int .i64) (.int .i64 k) es (i + 1) := fun i => by
    rw [Instr.findNow, h.1, same_int]
    have : (k == p.1) = false := by simpa using fun e => hk e.symm
    rw [this]
   rcases find_mp (V := V) (k := k) (i + 1) h.2.2 with ⟨h1, h2, h3, h4⟩ | ⟨j, e', a, h1, h2, h3, h4, h5, h6, h7⟩
   ·refine .inl ⟨by rw [getM_cons, if_neg hk]; exact h1, by rw [hf]; exact h2, fun x a n hx => ?_, by rw [delM, if_neg hk, h4]⟩
    rw [putM, if_neg hk]
    exact ⟨h.1, h.2.1, h3 x a n hx⟩
   ·refine .inr ⟨j + 1, e', a, by rw [getM_cons, if_neg hk]; exact h1, by simpa using h2, by rw [hf, h3]; congr 3; omega, h4, h5, fun x b hx => ?_, ?_⟩
    ·rw [putM, if_neg hk]
     simp only [List.modify_succ_cons]
     exact ⟨h.1, h.2.1, h6 x b hx⟩
    ·rw [delM, if_neg hk]
     exact ⟨h.1, h.2.1, h7⟩
 | [], _ :: _, _, h => h.elim
 | _ :: _, [], _, h => h.elim
def mapIK (P : Program) (t : TypeId) : Option TypeId :=
 match P.underlying t with
 | some (.map kt e) => match P.underlying kt with
  | some (.int .i64) => some e
  | _ => none
 | _ => none
theorem mapIK_ok {P : Program} {t e : TypeId} (h : mapIK P t = some e) : ∃ kt, P.underlying t = some (.map kt e) ∧ P.underlying kt = some (.int .i64) ∧ ∀ b n v (w : World), (Instr.checkKey b (n + 1) kt v).run P w = .ok () w := by
 unfold mapIK at h
 split at h
 ·rename_i kt e' h1
  split at h
  ·rename_i h2
   cases h
   refine ⟨kt, h1, h2, fun b n v w => ?_⟩
   simp only [Instr.checkKey, Sem.run_bind, run_underlying h2, Result.andThen_ok]
   rfl
  ·cases h
 ·cases h
def MpR (V : VEnc α) (b : Nat) (G : GH) (m : List (Int × α)) (M : MH) : Prop := ∃ (es : List MapEntry) (clock : Nat), M = [(b, .map es.toArray clock)] ∧ MpE V G es m
theorem MpR.mono {V : VEnc α} {b : Nat} {G G' : GH} {m : List (Int × α)} {M : MH} (hl : Le G G') (h : MpR V b G m M) : MpR V b G' m M := by
 obtain ⟨es, c, h1, h2⟩ := h; exact ⟨es, c, h1, h2.mono hl⟩
def MpG (V : VEnc α) (G : GH) (v : Value) (m : List (Int × α)) : Prop := ∃ (b : Nat) (es : List MapEntry) (clock : Nat), v = .map (some b) ∧ G b = some (.map es.toArray clock) ∧ MpE V G es m
theorem MpG.mono {V : VEnc α} {G G' : GH} {v : Value} {m : List (Int × α)} (hl : Le G G') (h : MpG V G v m) : MpG V G' v m := by
 obtain ⟨b, es, c, h1, h2, h3⟩ := h; exact ⟨b, es, c, h1, hl _ _ h2, h3.mono hl⟩
theorem MpG.form {V : VEnc α} {G : GH} {v : Value} {m : List (Int × α)} (h : MpG V G v m) : ∃ b, v = .map (some b) := by
 obtain ⟨b, _, _, h1, _⟩ := h; exact ⟨b, h1⟩
end
section
variable {α : Type} {E : Env} {f : Fr} {G : GH} {M Mk Ms Mr : MH} {ops rest : List Oper} {q : Bool} {K : Kt} {d : Nat} {ty : TypeId} {pos : String} {aft : Array Edge} {t et : TypeId} {x y kk : Operand} {b : Nat} {k : Int} {m : List (Int × α)} {V : VEnc α}
def zvK (P : Program) (t : TypeId) : Option Value := (P.info? t).bind (·.zero)
theorem look_run {P : Program} {es : List MapEntry} {clock : Nat} {z0 : Value} {z : α} (ht : mapIK P t = some et) (hz : zvK P et = some z0) (hzz : V.R G z0 z) (he : MpE V G es m) :
  ∃ v, V.R G v ((getM m k).getD z) ∧ ∀ (w : World) (ok : Bool), w.heap[b]? = some (.map es.toArray clock) → (Instr.lookup t (.map (some b)) (.int .i64 k) ok).run P w = .ok (if ok = true then .tuple #[v, .bool (getM m k).isSome] else v) w := by
 obtain ⟨kt, h1, h2, h3⟩ := mapIK_ok ht
 have hzv : ∀ w, (zeroValue et).run P w = .ok z0 w := fun w => by
  unfold zvK at hz
  cases hi : P.info? et with
  | none => rw [hi] at hz; cases hz
  | some info => rw [hi] at hz; simp at hz; simp [zeroValue, typeInfo, hi, hz]
 rcases find_mp (k := k) 0 he with ⟨g1, g2, _, _⟩ | ⟨j, e, a, g1, g2, g3, g4, g5, _, _⟩
 ·refine ⟨z0, by rw [g1]; exact hzz, fun w ok hb => ?_⟩
  have hgo := MapKept.run_getObj_map (P := P) hb
  have hfk := MapKept.run_findKey (P := P) (w := w) h2 g2
  simp only [Instr.lookup, Sem.run_bind, run_underlying h1, Result.andThen_ok, hgo, Sem.run_pure]
  rw [h3]
  simp only [Result.andThen_ok]
  rw [hfk, g1]
  simp [hzv]
 ·refine ⟨e.val, by rw [g1]; exact g5, fun w ok hb => ?_⟩
  have hgo := MapKept.run_getObj_map (P := P) hb
  have hfk := MapKept.run_findKey (P := P) (w := w) h2 g3
  simp only [Instr.lookup, Sem.run_bind, run_underlying h1, Result.andThen_ok, hgo, Sem.run_pure]
  rw [h3]
  simp only [Result.andThen_ok]
  rw [hfk, g1]
  simp
theorem mem_own {es : List MapEntry} {clock : Nat} (hp : ([(b, Obj.map es.toArray clock)] ++ Mr).Perm M) {w : World} (hr : E.real G M w) : w.heap[b]? = some (.map es.toArray clock) :=
 hr.r.mu (b, .map es.toArray clock) (hp.mem_iff.1 (by simp))
theorem look_own {z0 : Value} {z : α} {ok : Bool} (ht : mapIK E.P t = some et) (hz : zvK E.P et = some z0) (hzz : V.R G z0 z) (hx : ev f x = .map (some b)) (hk : ev f kk = .int .i64 k) (hm : MpR V b G m Ms) (hp : (Ms ++ Mr).Perm M) :
  ∃ v, V.R G v ((getM m k).getD z) ∧ Ok E f G M ⟨some d, .lookup t x kk ok, ty, pos, aft, none⟩ (if ok = true then .tuple #[v, .bool (getM m k).isSome] else v) := by
 obtain ⟨es, clock, rfl, he⟩ := hm
 obtain ⟨v, h1, h2⟩ := look_run (b := b) (clock := clock) (k := k) ht hz hzz he
 refine ⟨v, h1, fun w hr => ?_⟩
 have := h2 w ok (mem_own hp hr)
 simp [execOp, hx, hk, this]
theorem look_gh {z0 mv : Value} {z : α} {ok : Bool} (ht : mapIK E.P t = some et) (hz : zvK E.P et = some z0) (hzz : V.R G z0 z) (hm : MpG V G mv m) (hx : ev f x = mv) (hk : ev f kk = .int .i64 k) :
  ∃ v, V.R G v ((getM m k).getD z) ∧ Ok E f G M ⟨some d, .lookup t x kk ok, ty, pos, aft, none⟩ (if ok = true then .tuple #[v, .bool (getM m k).isSome] else v) := by
 obtain ⟨b, es, clock, rfl, hg, he⟩ := hm
 obtain ⟨v, h1, h2⟩ := look_run (b := b) (clock := clock) (k := k) ht hz hzz he
 refine ⟨v, h1, fun w hr => ?_⟩
 have := h2 w ok (hr.r.ro _ _ hg)
 simp [execOp, hx, hk, this]
theorem setMap_real {es : List MapEntry} {clock : Nat} {o : Obj} {w : World} (hr : E.real G ((b, Obj.map es.toArray clock) :: Mr) w) : E.real G ((b, o) :: Mr) { w with heap := w.heap.setIfInBounds b o } :=
 ⟨Real.set (M₁ := []) hr.r, hr.le, hr.nw⟩
theorem W.mapUp {v : Value} {a : α} (ht : mapIK E.P t = some et) (hx : ev f x = .map (some b)) (hk : ev f kk = .int .i64 k) (hy : ev f y = v) (hm : MpR V b G m Ms) (hp : (Ms ++ Mr).Perm M) (ha : V.R G v a)
  (h : ∀ Ms', MpR V b G (putM m k a) Ms' → W E ops.toArray false rest f G (Ms' ++ Mr) K) : W E ops.toArray false (⟨none, .mapUpdate t x kk y, ty, pos, aft, none⟩ :: rest) f G M K := by
 intro a' w Q hi hr0 hK
 obtain ⟨es, clock, rfl, he⟩ := hm
 have hr := hr0.perm hp
 obtain ⟨kt, h1, h2, h3⟩ := mapIK_ok ht
 have hb : w.heap[b]? = some (.map es.toArray clock) := hr.r.mu (b, .map es.toArray clock) (by simp)
 have hgo := MapKept.run_getObj_map (P := E.P) hb
 have key : ∃ es' clock', MpE V G es' (putM m k a) ∧ (Instr.mapUpdate t (.map (some b)) (.int .i64 k) v).run E.P w = .ok () { w with heap := w.heap.setIfInBounds b (.map es'.toArray clock') } := by
  rcases find_mp (k := k) 0 he with ⟨g1, g2, g3, _⟩ | ⟨j, e, a2, g1, g2, g3, g4, g5, g6, _⟩
  ·refine ⟨_, clock + 1, g3 v a clock ha, ?_⟩
   have hfk := MapKept.run_findKey (P := E.P) (w := w) h2 g2
   have hset := MapKept.run_setObj_map (P := E.P) (.map (es.toArray.push ⟨.int .i64 k, v, clock⟩) (clock + 1)) hb
   simp only [Instr.mapUpdate, Sem.run_bind, run_underlying h1, Result.andThen_ok, hgo]
   rw [h3]
   simp only [Result.andThen_ok]
   rw [hfk]
   simp only [Result.andThen_ok, hset]
   congr 4
   simp
  ·refine ⟨_, clock, g6 v a ha, ?_⟩
   rw [Nat.zero_add] at g3
   have hfk := MapKept.run_findKey (P := E.P) (w := w) h2 g3
   have hset := MapKept.run_setObj_map (P := E.P) (.map (es.toArray.modify j fun e => { e with key := .int .i64 k, val := v }) clock) hb
   simp only [Instr.mapUpdate, Sem.run_bind, run_underlying h1, Result.andThen_ok, hgo]
   rw [h3]
   simp only [Result.andThen_ok]
   rw [hfk]
   have hsb : Instr.sameBits 10000 (((es.toArray[j]?).map (·.key)).getD (.int .i64 k)) (.int .i64 k) = true := by
    simp [g2, g4, Instr.sameBits]
   simp only [Result.andThen_ok, Instr.keyThatStays, hsb, if_true, Sem.run_pure]
   simp only [Sem.run_bind, Sem.run_pure, Result.andThen_ok, hset]
   congr 4
   simp
 obtain ⟨es', clock', k1, k2⟩ := key
 have hrun : (execOp (ev f) ⟨none, .mapUpdate t x kk y, ty, pos, aft, none⟩).run E.P w = .ok .skip { w with heap := w.heap.setIfInBounds b (.map es'.toArray clock') } := by
  simp [execOp, hx, hk, hy, k2]
 refine wpList_plain rfl fun K' hK' => ?_
 unfold Oper.wp
 rw [hi.eval, hrun]
 exact hK' _ _ (h _ ⟨es', clock', rfl, k1⟩ _ _ Q (hi.put_none undef) (setMap_real hr) hK)
theorem W.makeMap (h : ∀ b, MpR V b G [] [(b, .map #[] 0)] → W E ops.toArray false rest (upd f d (.map (some b))) G ((b, .map #[] 0) :: M) K) (hd : Nat.blt d E.n = true := by rfl) :
  W E ops.toArray false (⟨some d, .makeMap t none, ty, pos, aft, none⟩ :: rest) f G M K := by
 intro a w Q hi hr hK
 have hrun : (execOp (ev f) ⟨some d, .makeMap t none, ty, pos, aft, none⟩).run E.P w = .ok (.value (.map (some w.heap.size))) (w.alloc (.map #[] 0)) := by
  have h0 : (Instr.makeMap t none).run E.P w = .ok (.map (some w.heap.size)) (w.alloc (.map #[] 0)) := by simp [Instr.makeMap, newObj, Sem.run, bind, Sem.bind, pure]
  simp [execOp, h0]
 refine wpList_plain rfl fun K' hK' => ?_
 unfold Oper.wp
 rw [hi.eval, hrun]
 exact hK' _ _ (h _ ⟨[], 0, rfl, trivial⟩ _ _ Q (hi.put hd _) (hr.alloc _) hK)
theorem W.giveMap {lo : List Oper} (hm : MpR V b G m Ms) (hp : (Ms ++ Mr).Perm M) (h : ∀ G', Le G G' → MpG V G' (.map (some b)) m → W E ops.toArray false lo f G' Mr K) : W E ops.toArray false lo f G M K := by
 obtain ⟨es, clock, rfl, he⟩ := hm
 refine W.perm hp (W.give fun hl => h _ hl ⟨b, es, clock, rfl, put_self _ _ _, he.mono hl⟩)
theorem WC.giveMap {c : Code} {Q : Exit → Kt} (hm : MpR V b G m Ms) (hp : (Ms ++ Mr).Perm M) (h : ∀ G', Le G G' → MpG V G' (.map (some b)) m → WC E c Q f G' Mr) : WC E c Q f G M := by
 obtain ⟨es, clock, rfl, he⟩ := hm
 refine WC.perm hp (WC.give fun hl => h _ hl ⟨b, es, clock, rfl, put_self _ _ _, he.mono hl⟩)
end
def placedF (i : Int) : List Nd → Bool
 | [] => true
 | n :: l => decide (n.slot = i) && placedF (i + 1) l
def ldN (l : List Nd) (k : Nat) : List Nd := if k = 0 then [leafN 0] else l.take k
end Go.Fw

namespace Go.Fw
abbrev Ls := List (List Msg)
def stN (l : List Msg) : Int := Hd.st (l, 0)
theorem stN_at {l : List Msg} (h : 0 < l.length) : stN l = l[0].stamp := Hd.st_at (a := (l, 0)) h
structure Best (cur : Ls) (b : Nat) : Prop where
 lt : b < cur.length
 ne : 0 < cur[b].length
 min : ∀ j (h : j < cur.length), 0 < cur[j].length → stN cur[b] ≤ stN cur[j] ∧ (j < b → stN cur[b] < stN cur[j])
theorem Best.uniq {cur : Ls} {b c : Nat} (hb : Best cur b) (hc : Best cur c) : b = c := by
 have h1 := hb.min c hc.lt hc.ne
 have h2 := hc.min b hb.lt hb.ne
 rcases Nat.lt_trichotomy b c with h | h | h
 ·have := h2.2 h; omega
 ·exact h
 ·have := h1.2 h; omega
def totN (cur : Ls) : Nat := (cur.map List.length).sum
theorem totN_app (a b : Ls) : totN (a ++ b) = totN a + totN b := by simp [totN]
theorem totN_cons (a : List Msg) (b : Ls) : totN (a :: b) = a.length + totN b := by simp [totN]
open Classical in
noncomputable def mergeF : Nat → Ls → List Msg
 | 0, _ => []
 | f + 1, cur => if h : ∃ b, Best cur b then (cur[h.choose]'(h.choose_spec.lt))[0]'(h.choose_spec.ne) :: mergeF f (cur.set h.choose ((cur[h.choose]'(h.choose_spec.lt)).drop 1)) else []
noncomputable def mergeN (cur : Ls) : List Msg := mergeF (totN cur) cur
theorem mergeF_best {f : Nat} {cur : Ls} {b : Nat} (hb : Best cur b) : mergeF (f + 1) cur = (cur[b]'hb.lt)[0]'hb.ne :: mergeF f (cur.set b ((cur[b]'hb.lt).drop 1)) := by
 have h : ∃ b, Best cur b := ⟨b, hb⟩
 have e : h.choose = b := h.choose_spec.uniq hb
 rw [mergeF, dif_pos h]
 simp only [e]
theorem set_split {cur : Ls} {b : Nat} (h : b < cur.length) (t : List Msg) : cur.set b t = cur.take b ++ t :: cur.drop (b + 1) := by
 rw [List.set_eq_take_append_cons_drop, if_pos h]
theorem at_split {cur : Ls} {b : Nat} (h : b < cur.length) : cur = cur.take b ++ cur[b] :: cur.drop (b + 1) := by
 rw [← List.drop_eq_getElem_cons h, List.take_append_drop]
theorem totN_set {cur : Ls} {b : Nat} (hb : Best cur b) : totN (cur.set b ((cur[b]'hb.lt).drop 1)) + 1 = totN cur := by
 have h := hb.ne
 rw [set_split hb.lt]
 conv => rhs; rw [at_split hb.lt]
 rw [totN_app, totN_app, totN_cons, totN_cons, List.length_drop]
 omega
theorem merge_step {cur : Ls} {b : Nat} (hb : Best cur b) : mergeN cur = (cur[b]'hb.lt)[0]'hb.ne :: mergeN (cur.set b ((cur[b]'hb.lt).drop 1)) := by
 unfold mergeN
 rw [← totN_set hb, mergeF_best hb]
theorem totN_zero {cur : Ls} (h : ∀ i (hi : i < cur.length), cur[i].length = 0) : totN cur = 0 := by
 unfold totN
 rw [List.sum_eq_zero_iff_forall_eq_nat]
 intro x hx
 obtain ⟨l, hl, rfl⟩ := List.mem_map.1 hx
 obtain ⟨i, hi, rfl⟩ := List.getElem_of_mem hl
 exact h i hi
theorem merge_nil {cur : Ls} (h : ∀ i (hi : i < cur.length), cur[i].length = 0) : mergeN cur = [] := by
 unfold mergeN
 rw [totN_zero h]; rfl
def hdsF (k : Int) : Ls → List Hd
 | [] => []
 | l :: ls => (if 0 < l.length then [(l, k)] else []) ++ hdsF (k + 1) ls
theorem merge_tot : ∀ (n : Nat) (cur : Ls), totN cur = n → (mergeN cur).length ≤ n
 | 0, cur, h => by unfold mergeN; rw [h]; exact Nat.le_refl _
 | n + 1, cur, h => by
  by_cases hb : ∃ b, Best cur b
  ·obtain ⟨b, hb⟩ := hb
   rw [merge_step hb, List.length_cons]
   have := merge_tot n (cur.set b ((cur[b]'hb.lt).drop 1)) (by have := totN_set hb; omega)
   omega
  ·unfold mergeN; rw [h, mergeF, dif_neg hb]; simp
theorem merge_len (cur : Ls) : (mergeN cur).length ≤ totN cur := merge_tot _ cur rfl
end Go.Fw

namespace Go.Fw
abbrev nats (ps : List Nat) : List Int := ps.map fun n : Nat => (n : Int)
def curN (ls : Ls) (ps : List Nat) : Ls := List.zipWith (fun l p => l.drop p) ls ps
def BI (C : Ls) (j : Nat) (c : Int) : Prop := (c = -1 ∧ ∀ q (h : q < C.length), q < j → C[q].length = 0) ∨
 ∃ b : Nat, ∃ h : b < C.length, c = b ∧ b < j ∧ 0 < C[b].length ∧ ∀ q (hq : q < C.length), q < j → 0 < C[q].length → stN C[b] ≤ stN C[q] ∧ (q < b → stN C[b] < stN C[q])
theorem BI_nil (C : Ls) : BI C 0 (-1) := .inl ⟨rfl, fun q _ h => by omega⟩
theorem BI_skip {C : Ls} {j : Nat} {c : Int} (h : BI C j c) (hj : j < C.length) (hz : C[j].length = 0) : BI C (j + 1) c := by
 rcases h with ⟨h1, h2⟩ | ⟨b, hb, h1, h2, h3, h4⟩
 ·exact .inl ⟨h1, fun q hq hqj => by
   by_cases e : q = j
   ·subst e; exact hz
   ·exact h2 q hq om9⟩
 ·exact .inr ⟨b, hb, h1, om9, h3, fun q hq hqj hn => by
   by_cases e : q = j
   ·subst e; omega
   ·exact h4 q hq om9 hn⟩
theorem BI_first {C : Ls} {j : Nat} {c : Int} (h : BI C j c) (hc : c < 0) (hj : j < C.length) (hn : 0 < C[j].length) : BI C (j + 1) j := by
 rcases h with ⟨h1, h2⟩ | ⟨b, hb, h1, h2, h3, h4⟩
 ·exact .inr ⟨j, hj, rfl, om9, hn, fun q hq hqj hqn => by
   by_cases e : q = j
   ·subst e; exact ⟨Int.le_refl _, fun h => by omega⟩
   ·have := h2 q hq om9; omega⟩
 ·omega
theorem BI_less {C : Ls} {j b : Nat} (h : BI C j b) (hb : b < C.length) (hj : j < C.length) (hn : 0 < C[j].length) (hl : stN C[j] < stN C[b]) : BI C (j + 1) j := by
 rcases h with ⟨h1, h2⟩ | ⟨b', hb', h1, h2, h3, h4⟩
 ·omega
 ·have e : b' = b := om9
  subst e
  exact .inr ⟨j, hj, rfl, om9, hn, fun q hq hqj hqn => by
   by_cases e : q = j
   ·subst e; exact ⟨Int.le_refl _, fun h => by omega⟩
   ·have := h4 q hq om9 hqn
    exact ⟨om9, fun _ => by omega⟩⟩
theorem BI_keep {C : Ls} {j b : Nat} (h : BI C j b) (hb : b < C.length) (hj : j < C.length) (hl : ¬ stN C[j] < stN C[b]) : BI C (j + 1) b := by
 rcases h with ⟨h1, h2⟩ | ⟨b', hb', h1, h2, h3, h4⟩
 ·omega
 ·have e : b' = b := om9
  subst e
  exact .inr ⟨b', hb', rfl, om9, h3, fun q hq hqj hqn => by
   by_cases e : q = j
   ·subst e; exact ⟨om9, fun h => by omega⟩
   ·exact h4 q hq om9 hqn⟩
theorem BI_best {C : Ls} {j : Nat} {c : Int} (h : BI C j c) (hc : ¬ c < 0) : ∃ b : Nat, ∃ hb : b < C.length, c = b ∧ b < j ∧ 0 < C[b].length := by
 rcases h with ⟨h1, h2⟩ | ⟨b, hb, h1, h2, h3, h4⟩
 ·omega
 ·exact ⟨b, hb, h1, h2, h3⟩
theorem BI_done {C : Ls} {j b : Nat} (h : BI C j b) (hj : C.length ≤ j) : Best C b := by
 rcases h with ⟨h1, h2⟩ | ⟨b', hb, h1, h2, h3, h4⟩
 ·omega
 ·have e : b' = b := om9
  subst e
  exact ⟨hb, h3, fun q hq hqn => h4 q hq om9 hqn⟩
end Go.Fw
