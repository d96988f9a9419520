/- What the walks of pouring want of plain lists. Plain Lean; nothing of the program is named here. No condition. -/
import Derived.Test.YtmbafmifalppaaaQbOl
set_option linter.unusedVariables false
set_option linter.unusedSimpArgs false
set_option linter.unnecessarySimpa false

namespace Go.Fw
open Go Go.RowKit
theorem front_mem {l : List Msg} {m : Msg} (h : m ∈ frontN l) : m ∈ l := by
 unfold frontN at h
 split at h
 ·exact h
 ·split at h
  ·exact List.mem_of_mem_take h
  ·exact List.mem_of_mem_take h
theorem front_len (l : List Msg) : (frontN l).length ≤ l.length := by
 unfold frontN
 split
 ·exact Nat.le_refl _
 ·split
  ·rw [List.length_take]; omega
  ·rw [List.length_take]; omega
theorem front_all {l : List Msg} (h : idxN isW l = -1) : l = frontN l := by unfold frontN; rw [if_pos h]
theorem front_one {l : List Msg} (h : ¬ idxN isW l = -1) (h2 : idxN isW l = 0) : (l.take 1).drop 0 = frontN l := by unfold frontN; rw [if_neg h, if_pos h2, List.drop_zero]
theorem front_take {l : List Msg} (h : ¬ idxN isW l = -1) (h2 : ¬ idxN isW l = 0) : (l.take (idxN isW l).toNat).drop 0 = frontN l := by unfold frontN; rw [if_neg h, if_neg h2, List.drop_zero]
theorem fm_succ {α β : Type} {f : α → Option β} {l : List α} {k : Nat} (hk : k < l.length) : (l.take (k + 1)).filterMap f = (l.take k).filterMap f ++ (f l[k]).toList := by
 rw [List.take_succ_eq_append_getElem hk, List.filterMap_append]
 cases h : f l[k] <;> simp [h]
theorem fm_t {α β : Type} {f : α → Option β} {l : List α} {k : Nat} {b : β} (hk : k < l.length) (h : f l[k] = some b) : (l.take (k + 1)).filterMap f = (l.take k).filterMap f ++ [b] := by rw [fm_succ hk, h]; rfl
theorem fm_f {α β : Type} {f : α → Option β} {l : List α} {k : Nat} (hk : k < l.length) (h : f l[k] = none) : (l.take (k + 1)).filterMap f = (l.take k).filterMap f := by rw [fm_succ hk, h]; simp
theorem fm_lek {α β : Type} (f : α → Option β) (l : List α) (k : Nat) : ((l.take k).filterMap f).length ≤ k := by
 have := List.length_filterMap_le f (l.take k)
 rw [List.length_take] at this
 omega
theorem for_t {P : List Str} {i : Int} {F : List Msg} {k : Nat} (hk : k < F.length) (h1 : ((routeN P F[k].key : Nat) : Int) = i) (h2 : (F[k].clip (rangeN P i)).2 = true) : (F.take (k + 1)).filterMap (forF P i) = (F.take k).filterMap (forF P i) ++ [(F[k].clip (rangeN P i)).1] := fm_t hk (if_pos ⟨h1, h2⟩)
theorem for_n {P : List Str} {i : Int} {F : List Msg} {k : Nat} (hk : k < F.length) (h : ¬ (((routeN P F[k].key : Nat) : Int) = i ∧ (F[k].clip (rangeN P i)).2 = true)) : (F.take (k + 1)).filterMap (forF P i) = (F.take k).filterMap (forF P i) := fm_f hk (if_neg h)
def addN (bud : Int) (ms : List Msg) (m : Msg) : List Msg × Bool := if roomB bud ms m = true then (ms ++ [m], true) else ([], false)
theorem addN_t {bud : Int} {ms : List Msg} {m : Msg} (h : roomB bud ms m = true) : addN bud ms m = (ms ++ [m], true) := if_pos h
theorem addN_f {bud : Int} {ms : List Msg} {m : Msg} (h : roomB bud ms m = false) : addN bud ms m = ([], false) := if_neg (by simp [h])
theorem room_iff {bud : Int} {ms : List Msg} {m : Msg} : roomB bud ms m = true ↔ m.size ≤ bud - sizesN ms ∧ ∀ h : 0 < ms.length, (ms[ms.length - 1]'(by omega)).stamp < m.stamp := by
 unfold roomB
 rw [Bool.and_eq_true, decide_eq_true_eq]
 refine and_congr Iff.rfl ?_
 cases h : ms.getLast? with
 | none =>
  rw [List.getLast?_eq_none_iff] at h
  subst h
  simp
 | some x =>
  rw [List.getLast?_eq_getElem?] at h
  obtain ⟨h1, h2⟩ := List.getElem?_eq_some_iff.1 h
  simp only [Option.all_some, decide_eq_true_eq]
  exact ⟨fun h3 _ => by rw [h2]; exact h3, fun h3 => by have := h3 (by omega); rw [h2] at this; exact this⟩
theorem room_f1 {bud : Int} {ms : List Msg} {m : Msg} (h : ¬ m.size ≤ bud - sizesN ms) : roomB bud ms m = false := by
 cases hr : roomB bud ms m
 ·rfl
 ·exact absurd (room_iff.1 hr).1 h
theorem room_f2 {bud : Int} {ms : List Msg} {m : Msg} (h : 0 < ms.length) (h2 : m.stamp ≤ (ms[ms.length - 1]'(by omega)).stamp) : roomB bud ms m = false := by
 cases hr : roomB bud ms m
 ·rfl
 ·have := (room_iff.1 hr).2 h; omega
theorem adds_stop {bud : Int} {ms l : List Msg} {k : Nat} (hk : k < l.length) (h : roomB bud ms l[k] = false) : addsN bud ms (l.drop k) = 0 := by
 rw [List.drop_eq_getElem_cons hk]
 unfold addsN
 rw [if_neg (by simp [h])]
theorem adds_next {bud : Int} {ms l : List Msg} {k : Nat} (hk : k < l.length) (h : roomB bud ms l[k] = true) : addsN bud ms (l.drop k) = addsN bud (ms ++ [l[k]]) (l.drop (k + 1)) + 1 := by
 rw [List.drop_eq_getElem_cons hk]
 conv => lhs; unfold addsN
 rw [if_pos h]
def AddsAt (bud : Int) (ms l : List Msg) (k : Nat) : Prop := addsN bud ms l = k + addsN bud (ms ++ l.take k) (l.drop k)
theorem AddsAt.zero (bud : Int) (ms l : List Msg) : AddsAt bud ms l 0 := by unfold AddsAt; simp
theorem AddsAt.succ {bud : Int} {ms l : List Msg} {k : Nat} (h : AddsAt bud ms l k) (hk : k < l.length) (hr : roomB bud (ms ++ l.take k) l[k] = true) : AddsAt bud ms l (k + 1) := by
 unfold AddsAt at h ⊢
 rw [h, adds_next hk hr, List.take_succ_eq_append_getElem hk, List.append_assoc]
 omega
theorem AddsAt.stop {bud : Int} {ms l : List Msg} {k : Nat} (h : AddsAt bud ms l k) (hk : k < l.length) (hr : roomB bud (ms ++ l.take k) l[k] = false) : addsN bud ms l = k := by
 unfold AddsAt at h
 rw [h, adds_stop hk hr]
 omega
theorem AddsAt.all {bud : Int} {ms l : List Msg} {k : Nat} (h : AddsAt bud ms l k) (hk : l.length ≤ k) : addsN bud ms l = k := by
 unfold AddsAt at h
 rw [h, List.drop_eq_nil_of_le hk]
 rfl
theorem moved_0 {leaf bud : Int} {k : Nd} {l : List Msg} (h : k.level = 0) : movedN leaf bud k l = ({ k with rows := (drainN leaf k.rows l).1 }, (drainN leaf k.rows l).2) := if_pos h
theorem moved_n {leaf bud : Int} {k : Nd} {l : List Msg} {j : Nat} (h : ¬ k.level = 0) (hj : addsN bud k.msgs l = j) : movedN leaf bud k l = ({ k with msgs := k.msgs ++ l.take j }, j) := by unfold movedN; rw [if_neg h, hj]
theorem count_t {leaf bud : Int} {p k : Nd} {i : Int} (h : KidOf p k i) : countN leaf bud p k i = (movedN leaf bud k (forN p.pivots p.msgs i)).2 := if_pos h
theorem count_f {leaf bud : Int} {p k : Nd} {i : Int} (h : ¬ KidOf p k i) : countN leaf bud p k i = 0 := if_neg h
theorem sizes_bound : ∀ {l : List Msg}, (∀ m ∈ l, m.key.b.size ≤ 16 ∧ m.val.b.size ≤ 16) → 0 ≤ sizesN l ∧ sizesN l ≤ 36 * l.length
 | [], _ => ⟨by simp [sizesN], by simp [sizesN]⟩
 | m :: l, h => by
  have ih := sizes_bound (l := l) fun x hx => h x (List.mem_cons_of_mem _ hx)
  have := size_36 (h m (by simp))
  have e : sizesN (m :: l) = m.size + sizesN l := by simp [sizesN]
  rw [e]
  simp only [List.length_cons]
  omega
def goneN (T : List Msg) : List (Int × Bool) := T.foldl (fun m x => putM m x.stamp true) []
theorem gone_succ {T : List Msg} {k : Nat} (hk : k < T.length) : goneN (T.take (k + 1)) = putM (goneN (T.take k)) T[k].stamp true := by
 unfold goneN
 rw [List.take_succ_eq_append_getElem hk, List.foldl_append]; rfl
theorem gone_get (s : Int) : ∀ (T : List Msg) (m : List (Int × Bool)), (getM (T.foldl (fun m x => putM m x.stamp true) m) s).getD false = (decide (s ∈ T.map Msg.stamp) || (getM m s).getD false)
 | [], m => by simp
 | x :: T, m => by
  rw [List.foldl_cons, gone_get s T, getM_put]
  by_cases h : s = x.stamp
  ·rw [if_pos h]
   simp [h]
  ·rw [if_neg h]
   simp [h]
theorem gone_has (T : List Msg) (s : Int) : (getM (goneN T) s).getD false = decide (s ∈ T.map Msg.stamp) := by
 unfold goneN
 rw [gone_get]
 simp [getM]
def someN (l : List Str) : List Str := Str.nil :: l.flatMap fun a => [a, a.next]
theorem some_succ {l : List Str} {k : Nat} (hk : k < l.length) : someN (l.take (k + 1)) = (someN (l.take k) ++ [l[k]]) ++ [l[k].next] := by
 unfold someN
 rw [List.take_succ_eq_append_getElem hk, List.flatMap_append]
 simp
theorem some_len : ∀ (l : List Str), (someN l).length = 2 * l.length + 1
 | [] => rfl
 | a :: l => by
  have := some_len l
  unfold someN at this ⊢
  rw [List.flatMap_cons]
  simp at this ⊢
  omega
theorem add_snd (bud : Int) (ms : List Msg) (m : Msg) : (addN bud ms m).2 = roomB bud ms m := by
 unfold addN
 cases h : roomB bud ms m
 ·rw [if_neg (by simp)]
 ·rw [if_pos rfl]
theorem moved_len (leaf bud : Int) (k : Nd) (L : List Msg) : (L.take (movedN leaf bud k L).2).length = (movedN leaf bud k L).2 := by
 have := moved_le leaf bud k L
 rw [List.length_take]; omega
theorem pour_f0 {leaf bud : Int} {p k : Nd} {i : Int} (h : ¬ KidOf p k i) : pourN leaf bud p k i = (p, k, 0) := by unfold pourN; rw [if_pos (count_f h)]
theorem pour_f1 {leaf bud : Int} {p k : Nd} {i : Int} (hk : KidOf p k i) (h : ((forN p.pivots p.msgs i).take (movedN leaf bud k (forN p.pivots p.msgs i)).2).length = 0) : pourN leaf bud p k i = (p, k, 0) := by
 rw [moved_len] at h
 unfold pourN; rw [if_pos ((count_t hk).trans h)]
theorem last_get {T : List Msg} (h : 0 < T.length) : T.getLast?.getD Msg.zero = T[T.length - 1]'(by omega) := by
 rw [List.getLast?_eq_getElem?, List.getElem?_eq_getElem (by omega)]; rfl
theorem pour_t {leaf bud : Int} {p k : Nd} {i : Int} {T : List Msg} (hk : KidOf p k i) (hT : T = (forN p.pivots p.msgs i).take (movedN leaf bud k (forN p.pivots p.msgs i)).2) (h : 0 < T.length) :
  pourN leaf bud p k i = ({ p with msgs := restN p.pivots i T p.msgs }, { (movedN leaf bud k (forN p.pivots p.msgs i)).1 with seen := (T[T.length - 1]'(by omega)).stamp }, T.length) := by
 have e : T.length = countN leaf bud p k i := by rw [hT, moved_len, count_t hk]
 unfold pourN
 rw [if_neg (by omega), count_t hk, ← hT, last_get h, ← count_t hk, ← e]
theorem left_no {P : List Str} {i : Int} {T : List Msg} {m : Msg} (h : ¬ m.stamp ∈ T.map Msg.stamp) : leftN P i T m = some m := if_neg h
theorem left_w {P : List Str} {i : Int} {T : List Msg} {m : Msg} (h : m.stamp ∈ T.map Msg.stamp) (h4 : m.kind = 4) (hw : (withoutN m (rangeN P i)).2 = true) : leftN P i T m = some (withoutN m (rangeN P i)).1 := (if_pos h).trans (if_pos ⟨h4, hw⟩)
theorem left_n {P : List Str} {i : Int} {T : List Msg} {m : Msg} (h : m.stamp ∈ T.map Msg.stamp) (hw : ¬ (m.kind = 4 ∧ (withoutN m (rangeN P i)).2 = true)) : leftN P i T m = none := (if_pos h).trans (if_neg hw)
theorem restN_t {P : List Str} {i : Int} {T : List Msg} {l : List Msg} {k : Nat} {x : Msg} {n : Nd} (hk : k < l.length) (h : leftN P i T l[k] = some x) : ({ n with msgs := restN P i T (l.take k) ++ [x] } : Nd) = { n with msgs := restN P i T (l.take (k + 1)) } := by unfold restN; rw [fm_t hk h]
theorem restN_f {P : List Str} {i : Int} {T : List Msg} {l : List Msg} {k : Nat} {n : Nd} (hk : k < l.length) (h : leftN P i T l[k] = none) : ({ n with msgs := restN P i T (l.take k) } : Nd) = { n with msgs := restN P i T (l.take (k + 1)) } := by unfold restN; rw [fm_f hk h]
theorem without_ok {m : Msg} {s : Span} (h : m.Ok) : (withoutN m s).1.Ok := by
 unfold withoutN
 split
 ·exact ⟨⟨by decide, by decide⟩, ⟨by decide, by decide⟩⟩
 ·exact clip_ok h
theorem for_R {P : List Str} {l : List Msg} {i : Int} (hP : ∀ k ∈ P, k.b.size ≤ 16) (hl : ∀ m ∈ l, m.R) : ∀ m ∈ forN P l i, m.R := fun m hm => by
 obtain ⟨a, ha, h2, rfl⟩ := for_mem hm
 have hr := range_sizes (p := P) (i := i) (n := 16) hP
 exact clip_R (hl a ha) hr.1 hr.2 h2
theorem for_len (P : List Str) (l : List Msg) (i : Int) : (forN P l i).length ≤ l.length := Nat.le_trans (List.length_filterMap_le _ _) (front_len l)
theorem rest_len (P : List Str) (i : Int) (T l : List Msg) (k : Nat) : (restN P i T (l.take k)).length ≤ k := fm_lek _ _ _
def Eff.D (e : Eff) : Prop := e.kind = 3 → e.val = Str.nil
theorem Msg.on_D (m : Msg) (k : Str) : (m.on k).D := by
 unfold Eff.D Msg.on
 split
 ·intro _; rfl
 ·split
  ·intro _; rfl
  ·intro h; dsimp only at h; omega
theorem Eff.then_D {a b : Eff} (ha : a.D) (hb : b.D) : (a.then b).D := by
 unfold Eff.then
 split
 ·exact ha
 ·split
  ·exact hb
  ·intro h
   dsimp only at h
   split at h <;> omega
theorem onsN_D (k : Str) : ∀ (l : List Msg) (e : Eff), e.D → (l.foldl (fun e m => e.then (m.on k)) e).D
 | [], _, h => h
 | m :: l, e, h => onsN_D k l _ (Eff.then_D h (m.on_D k))
theorem ons_D (l : List Msg) (k : Str) : (onsN l k).D := onsN_D k l _ fun _ => rfl
def NmR (TN tm : TypeId) (b : Nat) (G : GH) (n : Nd) (M : MH) : Prop :=
 ∃ (pa : Option Addr) (pc : Nat) (ka : Option Addr) (kc : Nat) (vm : Value) (ra : Option Addr) (rc : Nat) (Mm : MH),
  M = (b, .cells (List.toArray [.int .i64 n.slot, .int .i64 n.level, .slice pa n.pivots.length pc, .slice ka n.kids.length kc, .string n.high.b, .bool n.top, .int .i64 n.right, .int .i64 n.seen, vm, .slice ra n.rows.length rc]) TN (0, 0)) :: Mm ∧
  SlR eStr G (.slice pa n.pivots.length pc) n.pivots ∧ SlR eInt G (.slice ka n.kids.length kc) n.kids ∧ OwnR eMsg tm G vm n.msgs Mm ∧ SlR ePair G (.slice ra n.rows.length rc) n.rows ∧ n.Ok
theorem NmR.mono {TN tm : TypeId} {b : Nat} {G G' : GH} {n : Nd} {M : MH} (hl : Le G G') (h : NmR TN tm b G n M) : NmR TN tm b G' n M := by
 obtain ⟨pa, pc, ka, kc, vm, ra, rc, Mm, h1, h2, h3, h4, h5, h6⟩ := h
 exact ⟨pa, pc, ka, kc, vm, ra, rc, Mm, h1, h2.mono hl, h3.mono hl, h4.mono hl, h5.mono hl, h6⟩
theorem NmR.cast {TN tm : TypeId} {b : Nat} {G : GH} {n n' : Nd} {M : MH} (h : NmR TN tm b G n M) (e : n = n') : NmR TN tm b G n' M := e ▸ h
end Go.Fw
