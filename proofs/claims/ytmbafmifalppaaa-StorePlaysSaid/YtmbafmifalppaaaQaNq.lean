/- Maps whose keys are numbers, in the calculus of walks. Nothing of the program is named here. No condition. -/
import Derived.MapKept
import Derived.Test.YtmbafmifalppaaaQaNh
set_option linter.unusedVariables false
set_option linter.unusedSimpArgs false
set_option linter.unnecessarySimpa false

namespace Go.Fw
open Go Go.RowKit
structure VEnc (α : Type) where
 R : GH → Value → α → Prop
 mono : ∀ {G G' : GH} {v a}, Le G G' → R G v a → R G' v a
def vNode : VEnc Nd := ⟨fun G v n => ∃ cs, v = .agg (List.toArray cs) ∧ NodeC G cs n, fun hl ⟨cs, h1, h2⟩ => ⟨cs, h1, h2.mono hl⟩⟩
def vBool : VEnc Bool := ⟨fun _ v b => v = .bool b, fun _ h => h⟩
section
variable {α : Type}
def MpE (V : VEnc α) (G : GH) : List MapEntry → List (Int × α) → Prop
 | [], [] => True
 | e :: es, p :: m => e.key = .int .i64 p.1 ∧ V.R G e.val p.2 ∧ MpE V G es m
 | _, _ => False
theorem MpE.mono {V : VEnc α} {G G' : GH} (hl : Le G G') : ∀ {es : List MapEntry} {m : List (Int × α)}, MpE V G es m → MpE V G' es m
 | [], [], _ => trivial
 | e :: es, p :: m, h => ⟨h.1, V.mono hl h.2.1, h.2.2.mono hl⟩
 | [], _ :: _, h => h.elim
 | _ :: _, [], h => h.elim
theorem MpE.len {V : VEnc α} {G : GH} : ∀ {es : List MapEntry} {m : List (Int × α)}, MpE V G es m → es.length = m.length
 | [], [], _ => rfl
 | e :: es, p :: m, h => by simp [h.2.2.len]
 | [], _ :: _, h => h.elim
 | _ :: _, [], h => h.elim
def getM (m : List (Int × α)) (k : Int) : Option α := (m.find? fun p => decide (p.1 = k)).map (·.2)
def putM : List (Int × α) → Int → α → List (Int × α)
 | [], k, a => [(k, a)]
 | p :: m, k, a => if p.1 = k then (k, a) :: m else p :: putM m k a
def delM : List (Int × α) → Int → List (Int × α)
 | [], _ => []
 | p :: m, k => if p.1 = k then m else p :: delM m k
theorem getM_cons (p : Int × α) (m : List (Int × α)) (k : Int) : getM (p :: m) k = if p.1 = k then some p.2 else getM m k := by
 unfold getM
 by_cases h : p.1 = k
 ·rw [List.find?_cons_of_pos (by simpa using h), if_pos h]; rfl
 ·rw [List.find?_cons_of_neg (by simpa using h), if_neg h]
theorem getM_put : ∀ (m : List (Int × α)) (k : Int) (a : α) (j : Int), getM (putM m k a) j = if j = k then some a else getM m j
 | [], k, a, j => by
  rw [putM, getM_cons]
  by_cases h : k = j
  ·rw [if_pos h, if_pos h.symm]
  ·rw [if_neg h, if_neg (fun e => h e.symm)]
 | p :: m, k, a, j => by
  rw [putM]
  by_cases hp : p.1 = k
  ·rw [if_pos hp, getM_cons, getM_cons]
   by_cases h : k = j
   ·rw [if_pos h, if_pos h.symm]
   ·rw [if_neg h, if_neg (fun e => h e.symm), if_neg (by rw [hp]; exact h)]
  ·rw [if_neg hp, getM_cons, getM_cons, getM_put m k a j]
   by_cases h : p.1 = j
   ·rw [if_pos h, if_pos h, if_neg (fun e => hp (h.trans e))]
   ·rw [if_neg h, if_neg h]
def mapIK (P : Program) (t : TypeId) : Option TypeId :=
 match P.underlying t with
 | some (.map kt e) => match P.underlying kt with
  | some (.int .i64) => some e
  | _ => none
 | _ => none
def MpR (V : VEnc α) (b : Nat) (G : GH) (m : List (Int × α)) (M : MH) : Prop := ∃ (es : List MapEntry) (clock : Nat), M = [(b, .map es.toArray clock)] ∧ MpE V G es m
theorem MpR.mono {V : VEnc α} {b : Nat} {G G' : GH} {m : List (Int × α)} {M : MH} (hl : Le G G') (h : MpR V b G m M) : MpR V b G' m M := by
 obtain ⟨es, c, h1, h2⟩ := h; exact ⟨es, c, h1, h2.mono hl⟩
def MpG (V : VEnc α) (G : GH) (v : Value) (m : List (Int × α)) : Prop := ∃ (b : Nat) (es : List MapEntry) (clock : Nat), v = .map (some b) ∧ G b = some (.map es.toArray clock) ∧ MpE V G es m
theorem MpG.mono {V : VEnc α} {G G' : GH} {v : Value} {m : List (Int × α)} (hl : Le G G') (h : MpG V G v m) : MpG V G' v m := by
 obtain ⟨b, es, c, h1, h2, h3⟩ := h; exact ⟨b, es, c, h1, hl _ _ h2, h3.mono hl⟩
theorem MpG.form {V : VEnc α} {G : GH} {v : Value} {m : List (Int × α)} (h : MpG V G v m) : ∃ b, v = .map (some b) := by
 obtain ⟨b, _, _, h1, _⟩ := h; exact ⟨b, h1⟩
end
section
variable {α : Type} {E : Env} {f : Fr} {G : GH} {M Mk Ms Mr : MH} {ops rest : List Oper} {q : Bool} {K : Kt} {d : Nat} {ty : TypeId} {pos : String} {aft : Array Edge} {t et : TypeId} {x y kk : Operand} {b : Nat} {k : Int} {m : List (Int × α)} {V : VEnc α}
def zvK (P : Program) (t : TypeId) : Option Value := (P.info? t).bind (·.zero)
end
end Go.Fw

namespace Go.Fw
abbrev Ls := List (List Msg)
def stN (l : List Msg) : Int := Hd.st (l, 0)
theorem stN_at {l : List Msg} (h : 0 < l.length) : stN l = l[0].stamp := Hd.st_at (a := (l, 0)) h
structure Best (cur : Ls) (b : Nat) : Prop where
 lt : b < cur.length
 ne : 0 < cur[b].length
 min : ∀ j (h : j < cur.length), 0 < cur[j].length → stN cur[b] ≤ stN cur[j] ∧ (j < b → stN cur[b] < stN cur[j])
theorem Best.uniq {cur : Ls} {b c : Nat} (hb : Best cur b) (hc : Best cur c) : b = c := by
 have h1 := hb.min c hc.lt hc.ne
 have h2 := hc.min b hb.lt hb.ne
 rcases Nat.lt_trichotomy b c with h | h | h
 ·have := h2.2 h; omega
 ·exact h
 ·have := h1.2 h; omega
def totN (cur : Ls) : Nat := (cur.map List.length).sum
theorem totN_app (a b : Ls) : totN (a ++ b) = totN a + totN b := by simp [totN]
theorem totN_cons (a : List Msg) (b : Ls) : totN (a :: b) = a.length + totN b := by simp [totN]
open Classical in
noncomputable def mergeF : Nat → Ls → List Msg
 | 0, _ => []
 | f + 1, cur => if h : ∃ b, Best cur b then (cur[h.choose]'(h.choose_spec.lt))[0]'(h.choose_spec.ne) :: mergeF f (cur.set h.choose ((cur[h.choose]'(h.choose_spec.lt)).drop 1)) else []
noncomputable def mergeN (cur : Ls) : List Msg := mergeF (totN cur) cur
theorem mergeF_best {f : Nat} {cur : Ls} {b : Nat} (hb : Best cur b) : mergeF (f + 1) cur = (cur[b]'hb.lt)[0]'hb.ne :: mergeF f (cur.set b ((cur[b]'hb.lt).drop 1)) := by
 have h : ∃ b, Best cur b := ⟨b, hb⟩
 have e : h.choose = b := h.choose_spec.uniq hb
 rw [mergeF, dif_pos h]
 simp only [e]
theorem set_split {cur : Ls} {b : Nat} (h : b < cur.length) (t : List Msg) : cur.set b t = cur.take b ++ t :: cur.drop (b + 1) := by
 rw [List.set_eq_take_append_cons_drop, if_pos h]
theorem at_split {cur : Ls} {b : Nat} (h : b < cur.length) : cur = cur.take b ++ cur[b] :: cur.drop (b + 1) := by
 rw [← List.drop_eq_getElem_cons h, List.take_append_drop]
theorem totN_set {cur : Ls} {b : Nat} (hb : Best cur b) : totN (cur.set b ((cur[b]'hb.lt).drop 1)) + 1 = totN cur := by
 have h := hb.ne
 rw [set_split hb.lt]
 conv => rhs; rw [at_split hb.lt]
 rw [totN_app, totN_app, totN_cons, totN_cons, List.length_drop]
 omega
theorem merge_step {cur : Ls} {b : Nat} (hb : Best cur b) : mergeN cur = (cur[b]'hb.lt)[0]'hb.ne :: mergeN (cur.set b ((cur[b]'hb.lt).drop 1)) := by
 unfold mergeN
 rw [← totN_set hb, mergeF_best hb]
theorem totN_zero {cur : Ls} (h : ∀ i (hi : i < cur.length), cur[i].length = 0) : totN cur = 0 := by
 unfold totN
 rw [List.sum_eq_zero_iff_forall_eq_nat]
 intro x hx
 obtain ⟨l, hl, rfl⟩ := List.mem_map.1 hx
 obtain ⟨i, hi, rfl⟩ := List.getElem_of_mem hl
 exact h i hi
theorem merge_nil {cur : Ls} (h : ∀ i (hi : i < cur.length), cur[i].length = 0) : mergeN cur = [] := by
 unfold mergeN
 rw [totN_zero h]; rfl
def hdsF (k : Int) : Ls → List Hd
 | [] => []
 | l :: ls => (if 0 < l.length then [(l, k)] else []) ++ hdsF (k + 1) ls
theorem merge_tot : ∀ (n : Nat) (cur : Ls), totN cur = n → (mergeN cur).length ≤ n
 | 0, cur, h => by unfold mergeN; rw [h]; exact Nat.le_refl _
 | n + 1, cur, h => by
  by_cases hb : ∃ b, Best cur b
  ·obtain ⟨b, hb⟩ := hb
   rw [merge_step hb, List.length_cons]
   have := merge_tot n (cur.set b ((cur[b]'hb.lt).drop 1)) (by have := totN_set hb; omega)
   omega
  ·unfold mergeN; rw [h, mergeF, dif_neg hb]; simp
theorem merge_len (cur : Ls) : (mergeN cur).length ≤ totN cur := merge_tot _ cur rfl
end Go.Fw

namespace Go.Fw
abbrev nats (ps : List Nat) : List Int := ps.map fun n : Nat => (n : Int)
def curN (ls : Ls) (ps : List Nat) : Ls := List.zipWith (fun l p => l.drop p) ls ps
def BI (C : Ls) (j : Nat) (c : Int) : Prop := (c = -1 ∧ ∀ q (h : q < C.length), q < j → C[q].length = 0) ∨
 ∃ b : Nat, ∃ h : b < C.length, c = b ∧ b < j ∧ 0 < C[b].length ∧ ∀ q (hq : q < C.length), q < j → 0 < C[q].length → stN C[b] ≤ stN C[q] ∧ (q < b → stN C[b] < stN C[q])
theorem BI_nil (C : Ls) : BI C 0 (-1) := .inl ⟨rfl, fun q _ h => by omega⟩
theorem BI_skip {C : Ls} {j : Nat} {c : Int} (h : BI C j c) (hj : j < C.length) (hz : C[j].length = 0) : BI C (j + 1) c := by
 rcases h with ⟨h1, h2⟩ | ⟨b, hb, h1, h2, h3, h4⟩
 ·exact .inl ⟨h1, fun q hq hqj => by
   by_cases e : q = j
   ·subst e; exact hz
   ·exact h2 q hq (by omega)⟩
 ·exact .inr ⟨b, hb, h1, by omega, h3, fun q hq hqj hn => by
   by_cases e : q = j
   ·subst e; omega
   ·exact h4 q hq (by omega) hn⟩
theorem BI_first {C : Ls} {j : Nat} {c : Int} (h : BI C j c) (hc : c < 0) (hj : j < C.length) (hn : 0 < C[j].length) : BI C (j + 1) j := by
 rcases h with ⟨h1, h2⟩ | ⟨b, hb, h1, h2, h3, h4⟩
 ·exact .inr ⟨j, hj, rfl, by omega, hn, fun q hq hqj hqn => by
   by_cases e : q = j
   ·subst e; exact ⟨Int.le_refl _, fun h => by omega⟩
   ·have := h2 q hq (by omega); omega⟩
 ·omega
theorem BI_less {C : Ls} {j b : Nat} (h : BI C j b) (hb : b < C.length) (hj : j < C.length) (hn : 0 < C[j].length) (hl : stN C[j] < stN C[b]) : BI C (j + 1) j := by
 rcases h with ⟨h1, h2⟩ | ⟨b', hb', h1, h2, h3, h4⟩
 ·omega
 ·have e : b' = b := by omega
  subst e
  exact .inr ⟨j, hj, rfl, by omega, hn, fun q hq hqj hqn => by
   by_cases e : q = j
   ·subst e; exact ⟨Int.le_refl _, fun h => by omega⟩
   ·have := h4 q hq (by omega) hqn
    exact ⟨by omega, fun _ => by omega⟩⟩
theorem BI_keep {C : Ls} {j b : Nat} (h : BI C j b) (hb : b < C.length) (hj : j < C.length) (hl : ¬ stN C[j] < stN C[b]) : BI C (j + 1) b := by
 rcases h with ⟨h1, h2⟩ | ⟨b', hb', h1, h2, h3, h4⟩
 ·omega
 ·have e : b' = b := by omega
  subst e
  exact .inr ⟨b', hb', rfl, by omega, h3, fun q hq hqj hqn => by
   by_cases e : q = j
   ·subst e; exact ⟨by omega, fun h => by omega⟩
   ·exact h4 q hq (by omega) hqn⟩
theorem BI_best {C : Ls} {j : Nat} {c : Int} (h : BI C j c) (hc : ¬ c < 0) : ∃ b : Nat, ∃ hb : b < C.length, c = b ∧ b < j ∧ 0 < C[b].length := by
 rcases h with ⟨h1, h2⟩ | ⟨b, hb, h1, h2, h3, h4⟩
 ·omega
 ·exact ⟨b, hb, h1, h2, h3⟩
theorem BI_done {C : Ls} {j b : Nat} (h : BI C j b) (hj : C.length ≤ j) : Best C b := by
 rcases h with ⟨h1, h2⟩ | ⟨b', hb, h1, h2, h3, h4⟩
 ·omega
 ·have e : b' = b := by omega
  subst e
  exact ⟨hb, h3, fun q hq hqn => h4 q hq (by omega) hqn⟩
end Go.Fw
