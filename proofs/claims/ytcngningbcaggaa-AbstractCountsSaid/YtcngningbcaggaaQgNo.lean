/- The way of a text in a sound tree, step by step. Plain Lean; nothing of the program is named here. No condition. -/
import Derived.Test.YtcngningbcaggaaQgNm
set_option linter.unusedVariables false
set_option linter.unusedSimpArgs false
set_option linter.unnecessarySimpa false

namespace Go.Fw
open Go Go.RowKit
variable {c : Cfg} {l : List Nd} {ss : List Seat}
structure At (l : List Nd) (ss : List Seat) (k : Str) (x : Seat) (P : List Seat) (lv : Int) : Prop where
 mem : x ∈ ss
 way : wayN l k = P ++ wayF l k x.n.level.toNat x
 lv : lv < 0 ∨ lv = x.n.level + 1
theorem At.init (t : Tree c l ss) (k : Str) : At l ss k (rootS l 0) [] (-1) := ⟨t.root, rfl, .inl om9⟩
theorem At.last {k : Str} {x : Seat} {P : List Seat} {lv : Int} (h : At l ss k x P lv) (h0 : x.n.level ≤ 0) : wayN l k = P ++ [x] := by
 rw [h.way, show x.n.level.toNat = 0 by omega]; rfl
theorem Tree.right (t : Tree c l ss) {x : Seat} (hx : x ∈ ss) (h0 : ¬ x.n.level ≤ 0) : rightN x.n.pivots x.n.kids.length = true := (kids_all (t.kids hx) om9).2.2.1
theorem Tree.route (t : Tree c l ss) {x : Seat} (hx : x ∈ ss) (h0 : ¬ x.n.level ≤ 0) (k : Str) : routeN x.n.pivots k < x.n.kids.length := route_lt (t.right hx h0) k
theorem At.next (t : Tree c l ss) {k : Str} {x : Seat} {P : List Seat} {lv : Int} (h : At l ss k x P lv) (h0 : ¬ x.n.level ≤ 0) : At l ss k (kidSt l x (routeN x.n.pivots k)) (P ++ [x]) x.n.level := by
 have ha := t.at h.mem om9 (t.route h.mem h0 k)
 refine ⟨ha.1, ?_, .inr om9⟩
 rw [h.way, show x.n.level.toNat = (kidSt l x (routeN x.n.pivots k)).n.level.toNat + 1 by omega, way_cons (stepW_1 om9)]
 simp
theorem At.slot (t : Tree c l ss) {x : Seat} (hx : x ∈ ss) (h0 : ¬ x.n.level ≤ 0) (k : Str) : (kidSt l x (routeN x.n.pivots k)).n.slot = x.n.kids[routeN x.n.pivots k]'(t.route hx h0 k) := by
 have ha := t.at hx om9 (t.route hx h0 k)
 rw [ha.2.2.1]
 exact (getL_slot t.slot ha.2.1).1
theorem sizes_len : ∀ {ms : List Msg}, (∀ m ∈ ms, m.R) → 4 * (ms.length : Int) ≤ sizesN ms
 | [], _ => by simp [sizesN]
 | m :: ms, h => by
  have h1 := sizes_len (ms := ms) (fun a ha => h a (List.mem_cons_of_mem _ ha))
  have h2 := size_36 (msgR_key (h m (by simp)))
  rw [sizes_cons, List.length_cons]; omega
theorem Tree.msgs_len (t : Tree c l ss) {x : Seat} (hx : x ∈ ss) : x.n.msgs.length ≤ 1024 := by
 by_cases h0 : x.n.level = 0
 ·rw [t.nomsgs hx h0]; exact Nat.zero_le _
 ·have h1 := (t.inner hx h0).2.2.2.1
  have h2 := sizes_len (t.msgs hx).2.1
  have h3 := t.cfg.2.2.1.2
  omega
theorem Tree.lookup (t : Tree c l ss) (k : Str) : Eff.apply (onsN (leafS l k).ms k) (getN (leafS l k).n.rows k) = getN (mapN l) k := by
 rw [t.get k, getN_fold]
 intro m hm
 have := (t.fits _ (t.leafOk k).mem).2 m hm
 have h4 := MsgsR.kinds (l := [m]) (MsgsR.iff.2 ⟨by intro a ha; simp at ha; subst ha; exact this, List.pairwise_singleton _ _⟩) m (by simp)
 exact ⟨by have := (msgR_key this).1; omega, h4.1, h4.2⟩
end Go.Fw
