/- The way of a text in a sound tree, step by step. Plain Lean; nothing of the program is named here. No condition. -/
import Derived.Test.YtebkfinhhpelbaaQtNm
set_option linter.unusedVariables false
set_option linter.unusedSimpArgs false
set_option linter.unnecessarySimpa false
namespace Go.Fw
open Go Go.RowKit
variable {c : Cfg} {l : List Nd} {ss : List Seat}
/-- Where a walk down stands. -/
structure At (l : List Nd) (ss : List Seat) (k : Str) (x : Seat) (P : List Seat) (lv : Int) : Prop where
  mem : x ∈ ss
  way : wayN l k = P ++ wayF l k x.n.level.toNat x
  lv : lv < 0 ∨ lv = x.n.level + 1
theorem At.init (t : Tree c l ss) (k : Str) : At l ss k (rootS l 0) [] (-1) := ⟨t.root, rfl, .inl (by omega)⟩
theorem At.last {k : Str} {x : Seat} {P : List Seat} {lv : Int} (h : At l ss k x P lv) (h0 : x.n.level ≤ 0) : wayN l k = P ++ [x] := by
  rw [h.way, show x.n.level.toNat = 0 by omega]; rfl
theorem Tree.right (t : Tree c l ss) {x : Seat} (hx : x ∈ ss) (h0 : ¬ x.n.level ≤ 0) : rightN x.n.pivots x.n.kids.length = true := (kids_all (t.kids hx) (by omega)).2.2.1
theorem Tree.route (t : Tree c l ss) {x : Seat} (hx : x ∈ ss) (h0 : ¬ x.n.level ≤ 0) (k : Str) : routeN x.n.pivots k < x.n.kids.length := route_lt (t.right hx h0) k
theorem At.next (t : Tree c l ss) {k : Str} {x : Seat} {P : List Seat} {lv : Int} (h : At l ss k x P lv) (h0 : ¬ x.n.level ≤ 0) : At l ss k (kidSt l x (routeN x.n.pivots k)) (P ++ [x]) x.n.level := by
  have ha := t.at h.mem (by omega) (t.route h.mem h0 k)
  refine ⟨ha.1, ?_, .inr (by omega)⟩
  rw [h.way, show x.n.level.toNat = (kidSt l x (routeN x.n.pivots k)).n.level.toNat + 1 by omega, way_cons (stepW_1 (by omega))]
  simp
theorem At.slot (t : Tree c l ss) {x : Seat} (hx : x ∈ ss) (h0 : ¬ x.n.level ≤ 0) (k : Str) : (kidSt l x (routeN x.n.pivots k)).n.slot = x.n.kids[routeN x.n.pivots k]'(t.route hx h0 k) := by
  have ha := t.at hx (by omega) (t.route hx h0 k)
  rw [ha.2.2.1]
  exact (getL_slot t.slot ha.2.1).1
theorem At.plen (t : Tree c l ss) {k : Str} {x : Seat} {P : List Seat} {lv : Int} (h : At l ss k x P lv) : P.length ≤ 100 := by
  have h1 := t.way_len k
  rw [h.way, List.length_append] at h1
  omega
theorem Tree.root0 (t : Tree c l ss) : (rootS l 0).n.slot = 0 := by
  rw [t.rootn]
  exact (getL_slot t.slot ⟨Int.le_refl 0, by have := t.pos; omega⟩).1
theorem has_succ_t {k : Str} {i : Nat} (h : i < ss.length) (hk : (ss[i]).s.has k = true) : hasS k (ss.take (i + 1)) = hasS k (ss.take i) ++ [ss[i]] := filt_t (p := fun y : Seat => y.s.has k) h hk
theorem has_succ_f {k : Str} {i : Nat} (h : i < ss.length) (hk : (ss[i]).s.has k = false) : hasS k (ss.take (i + 1)) = hasS k (ss.take i) := filt_f (p := fun y : Seat => y.s.has k) h hk
theorem has_at {k : Str} {i : Nat} (h : i < ss.length) (hk : (ss[i]).s.has k = true) : ∃ h2 : (hasS k (ss.take i)).length < (hasS k ss).length, (hasS k ss)[(hasS k (ss.take i)).length] = ss[i] := by
  have e : hasS k ss = hasS k (ss.take i) ++ ss[i] :: hasS k (ss.drop (i + 1)) := by
    conv => lhs; rw [← List.take_append_drop i ss, List.drop_eq_getElem_cons h]
    unfold hasS
    rw [List.filter_append, List.filter_cons_of_pos (p := fun y : Seat => y.s.has k) hk]
  have h2 : (hasS k (ss.take i)).length < (hasS k ss).length := by
    rw [e, List.length_append, List.length_cons]; omega
  refine ⟨h2, ?_⟩
  simp only [e]
  rw [List.getElem_append_right (Nat.le_refl _)]
  simp
theorem has_le (k : Str) (i : Nat) : (hasS k (ss.take i)).length ≤ ss.length := filt_le _ ss i
theorem Tree.way_pos (t : Tree c l ss) (k : Str) : 0 < (wayN l k).length := by
  have h := (t.leafOk k).last
  cases e : wayN l k with
  | nil => rw [e] at h; cases h
  | cons a b => simp
theorem Tree.last_at (t : Tree c l ss) (k : Str) {i : Nat} (h : i < (wayN l k).length) (hi : i + 1 = (wayN l k).length) : (wayN l k)[i] = leafS l k := by
  have h2 := (t.leafOk k).last
  rw [List.getLast?_eq_getElem?, show (wayN l k).length - 1 = i by omega, List.getElem?_eq_getElem h] at h2
  exact Option.some.inj h2
theorem Tree.last_n (t : Tree c l ss) (k : Str) {i : Nat} (h : i < ((wayN l k).map fun y : Seat => y.n).length) (hi : i + 1 = (wayN l k).length) : ((wayN l k).map fun y : Seat => y.n)[i] = (leafS l k).n := by
  rw [List.getElem_map, t.last_at k (by omega) hi]
theorem Tree.last_s (t : Tree c l ss) (k : Str) {i : Nat} (h : i < ((wayN l k).map fun y : Seat => y.s).length) (hi : i + 1 = (wayN l k).length) : ((wayN l k).map fun y : Seat => y.s)[i] = (leafS l k).s := by
  rw [List.getElem_map, t.last_at k (by omega) hi]
theorem Tree.path_msgs (t : Tree c l ss) (k : Str) {s : Span} (hs : s = (leafS l k).s) : mergeN (((((wayN l k).map fun y : Seat => y.n).map fun n : Nd => n.msgs)).map (clips s)) = (leafS l k).ms := by
  rw [← t.path_ms k, hs, List.map_map, List.map_map]; rfl
theorem Tree.way_mem (t : Tree c l ss) {k : Str} {y : Seat} (h : y ∈ wayN l k) : y ∈ ss := ((t.leafOk k).all y h).1
theorem Tree.path_key (t : Tree c l ss) (k : Str) : ∀ i (h : i < (((wayN l k).map fun y : Seat => y.n).map fun n : Nd => n.msgs).length), ∀ m ∈ (((wayN l k).map fun y : Seat => y.n).map fun n : Nd => n.msgs)[i], m.key.b.size < 140737488355328 := by
  intro i h m hm
  simp only [List.getElem_map] at hm
  have := (msgR_key ((t.msgs (t.way_mem (List.getElem_mem (by simpa using h)))).2.1 m hm)).1
  omega
theorem tot_bound {b : Nat} : ∀ {C : Ls}, (∀ L ∈ C, L.length ≤ b) → totN C ≤ C.length * b
  | [], _ => Nat.zero_le _
  | A :: C, h => by
    have h1 := h A (by simp)
    have h2 := tot_bound (b := b) (C := C) (fun L hL => h L (List.mem_cons_of_mem _ hL))
    rw [totN_cons, List.length_cons, Nat.succ_mul]; omega
theorem Tree.path_tot (t : Tree c l ss) (k : Str) : totN (((wayN l k).map fun y : Seat => y.n).map fun n : Nd => n.msgs) ≤ 400000 := by
  have h1 := tot_bound (b := 4000) (C := ((wayN l k).map fun y : Seat => y.n).map fun n : Nd => n.msgs) fun L hL => by
    obtain ⟨n, hn, rfl⟩ := List.mem_map.1 hL
    obtain ⟨y, hy, rfl⟩ := List.mem_map.1 hn
    exact (t.sml.at (.inr (t.nd (t.way_mem hy)).2.2)).2.2.1
  have h2 := t.way_len k
  simp only [List.length_map] at h1
  omega
end Go.Fw
