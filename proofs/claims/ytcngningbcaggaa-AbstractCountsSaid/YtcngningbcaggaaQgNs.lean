/- What a key has in a sound tree, by the messages on its way, not clipped. Plain Lean; nothing of the program is named here. No condition. -/
import Derived.Test.YtcngningbcaggaaQgNr
set_option linter.unusedVariables false
set_option linter.unusedSimpArgs false
set_option linter.unnecessarySimpa false

namespace Go.Fw
open Go Go.RowKit
variable {c : Cfg} {l : List Nd} {ss : List Seat}
def Wst (l : List Msg) : Prop := l.Pairwise fun a b => a.stamp ≤ b.stamp
theorem Rst.wst {l : List Msg} (h : Rst l) : Wst l := h.imp fun h => Int.le_of_lt h
theorem merge_wst : ∀ (n : Nat) (C : Ls), totN C = n → (∀ L ∈ C, Wst L) → Wst (mergeN C) := by
 intro n
 induction n with
 | zero =>
  intro C h _
  rcases best_or C with h1 | ⟨b, hb⟩
  ·rw [merge_nil h1]; exact List.Pairwise.nil
  ·have := totN_set hb; omega
 | succ n ih =>
  intro C h hC
  rcases best_or C with h1 | ⟨b, hb⟩
  ·rw [merge_nil h1]; exact List.Pairwise.nil
  ·rw [merge_step hb]
   refine List.pairwise_cons.2 ⟨fun m hm => ?_, ih _ (by have := totN_set hb; omega) ?_⟩
   ·have hm2 : m ∈ C.flatten := (flat_best hb).mem_iff.1 (List.mem_cons_of_mem _ ((merge_perm _ _ rfl).mem_iff.1 hm))
    obtain ⟨L, hL, hmL⟩ := List.mem_flatten.1 hm2
    obtain ⟨j, hj, rfl⟩ := List.getElem_of_mem hL
    obtain ⟨q, hq, rfl⟩ := List.getElem_of_mem hmL
    have h3 := (hb.min j hj om9).1
    rw [stN_at hb.ne, stN_at (show 0 < C[j].length by omega)] at h3
    have h4 : (C[j][0]'om9).stamp ≤ C[j][q].stamp := by
     by_cases e0 : q = 0
     ·subst e0; exact Int.le_refl _
     ·exact List.pairwise_iff_getElem.1 (hC _ (List.getElem_mem hj)) 0 q om9 hq om9
    omega
   ·intro L hL
    rcases List.mem_or_eq_of_mem_set hL with h | h
    ·exact hC _ h
    ·subst h; exact List.Pairwise.sublist (List.drop_sublist _ _) (hC _ (List.getElem_mem _))
theorem clips_wst {s : Span} {A : List Msg} (h : Wst A) : Wst (clips s A) := by
 unfold Wst clips
 rw [List.pairwise_filterMap]
 refine List.Pairwise.imp (fun {a b} hab x hx y hy => ?_) h
 split at hx
 ·split at hy
  ·rename_i h1 h2
   cases hx; cases hy
   rw [clip_stamp h1, clip_stamp h2]; exact hab
  ·cases hy
 ·cases hx
theorem wst_eq : ∀ {A B : List Msg}, Wst A → Rst B → A.Perm B → A = B
 | [], B, _, _, h => h.symm.eq_nil.symm ▸ rfl
 | a :: A, [], _, _, h => absurd h.length_eq (by simp)
 | a :: A, b :: B, ha, hb, h => by
  have h1 := List.pairwise_cons.1 ha
  have h2 := List.pairwise_cons.1 hb
  have e : a = b := by
   have m1 : a ∈ b :: B := h.mem_iff.1 (by simp)
   have m2 : b ∈ a :: A := h.mem_iff.2 (by simp)
   rcases List.mem_cons.1 m1 with e | m1
   ·exact e
   ·rcases List.mem_cons.1 m2 with e | m2
    ·exact e.symm
    ·have := h2.1 a m1; have := h1.1 b m2; omega
  subst e
  rw [wst_eq h1.2 h2.2 (List.Perm.cons_inv h)]
theorem on_clip {m : Msg} {s : Span} {k : Str} (hk : s.has k = true) : (m.clip s).2 = true → (m.clip s).1.on k = m.on k := fun h => by
 by_cases h4 : m.kind = 4
 ·have h5 := clip_span h h4
  have k2 : (m.clip s).1.kind = 4 := by rw [(clip_of h).2, if_pos h4]; exact h4
  unfold Msg.on
  rw [h5, meet_has, hk, Bool.and_true, k2, h4]; rfl
 ·rw [(clip_of h).2, if_neg h4]
theorem ons_clips {s : Span} {k : Str} (hk : s.has k = true) : ∀ (A : List Msg) (o : Option Str), (clips s A).foldl (fun o m => (m.on k).apply o) o = A.foldl (fun o m => (m.on k).apply o) o
 | [], o => rfl
 | m :: A, o => by
  rw [clips_cons, List.foldl_cons]
  cases h : (m.clip s).2
  ·rw [if_neg (by simp), ons_clips hk A]
   have := empty_iff.1 (clip_no.1 h) k
   rw [meet_has, hk, Bool.and_true] at this
   have e : m.on k = Eff.zero := by unfold Msg.on; rw [if_pos (.inl this)]
   rw [e]; rfl
  ·rw [if_pos rfl, List.foldl_cons, on_clip hk h, ons_clips hk A]
theorem ons_clips' {s : Span} {k : Str} (hk : s.has k = true) (A : List Msg) (o : Option Str) : (onsN (clips s A) k).apply o = (onsN A k).apply o := by
 rw [onsN_apply, onsN_apply, ons_clips hk]
def ptS (k : Str) : Span := ⟨k, k.next, false⟩
theorem pt_in {k : Str} (hk : k.b.size < 140737488355328) {s : Span} (h : s.has k = true) : ∀ q, (ptS k).has q = true → s.has q = true := fun q hq => by
 rw [show (ptS k).has q = decide (q = k) from point_has hk] at hq
 rw [of_decide_eq_true hq]; exact h
structure Gp (l : List Nd) (ss : List Seat) (k : Str) (x : Seat) (W : List Msg) : Prop where
 mem : x ∈ ss
 has : x.s.has k = true
 wst : Wst W
 eq : clips (ptS k) W = clips (ptS k) x.ms
 fit : ∀ m ∈ W, m.R
 len : W.length ≤ 1024 * ((rootS l 0).n.level - x.n.level).toNat
theorem Gp.init (t : Tree c l ss) (k : Str) : Gp l ss k (rootS l 0) [] := ⟨t.root, all_has k, List.Pairwise.nil, rfl, (fun m hm => by cases hm), Nat.zero_le _⟩
theorem Gp.next (t : Tree c l ss) {k : Str} (hk : k.b.size < 140737488355328) {x : Seat} {W : List Msg} (g : Gp l ss k x W) (h0 : ¬ x.n.level ≤ 0) : Gp l ss k (kidSt l x (routeN x.n.pivots k)) (mergeN [x.n.msgs, W]) := by
 have h3 := t.right g.mem h0
 have hj := t.route g.mem h0 k
 have ha := t.at g.mem om9 hj
 have hh : (kidSt l x (routeN x.n.pivots k)).s.has k = true := by rw [kidSt_has h3 hj, g.has]; simp
 have hp := merge_perm _ [x.n.msgs, W] rfl
 have hf : [x.n.msgs, W].flatten = x.n.msgs ++ W := by simp
 rw [hf] at hp
 obtain ⟨q1, q2, q3⟩ := t.msgs g.mem
 have hms := t.kid_ms g.mem (t.rst x g.mem) (routeN x.n.pivots k)
 refine ⟨ha.1, hh, merge_wst _ _ rfl ?_, ?_, fun m hm => ?_, ?_⟩
 ·intro L hL
  simp only [List.mem_cons, List.not_mem_nil, or_false] at hL
  rcases hL with rfl | rfl
  ·exact q1.wst
  ·exact g.wst
 ·have e1 : clips (ptS k) (kidSt l x (routeN x.n.pivots k)).ms = clips (ptS k) (x.n.msgs ++ W) := by
   rw [hms.1, clips_append, clips_append, clips_clips (pt_in hk hh), clips_clips (pt_in hk hh), g.eq]
  refine (wst_eq (clips_wst (merge_wst _ _ rfl ?_)) (clips_rst hms.2) ((clips_perm hp).trans (List.Perm.of_eq e1.symm)))
  intro L hL
  simp only [List.mem_cons, List.not_mem_nil, or_false] at hL
  rcases hL with rfl | rfl
  ·exact q1.wst
  ·exact g.wst
 ·rcases List.mem_append.1 (hp.mem_iff.1 hm) with h | h
  ·exact q2 m h
  ·exact g.fit m h
 ·have h1 := hp.length_eq
  rw [List.length_append] at h1
  have h2 := t.msgs_len g.mem
  have h4 := g.len
  have h5 := t.ms_small x g.mem
  have : ((rootS l 0).n.level - (kidSt l x (routeN x.n.pivots k)).n.level).toNat = ((rootS l 0).n.level - x.n.level).toNat + 1 := om9
  rw [this]; omega
theorem Gp.get (t : Tree c l ss) {k : Str} (hk : k.b.size < 140737488355328) {x : Seat} {W : List Msg} (g : Gp l ss k x W) (h0 : x.n.level = 0) : Eff.apply (onsN W k) (getN x.n.rows k) = getN (mapN l) k := by
 have e := t.leaf_eq g.mem g.has h0
 rw [← t.lookup k, ← e]
 have h : (ptS k).has k = true := (point_has hk).trans (decide_eq_true rfl)
 rw [← ons_clips' h W, ← ons_clips' h x.ms, g.eq]
def WayC (G : GH) (cs : List Value) (s : Span) (ms : List Msg) : Prop := ∃ v, cs = [.string s.lo.b, .string s.hi.b, .bool s.opn, v] ∧ SlR eMsg G v ms
theorem WayC.mono {G G' : GH} {cs : List Value} {s : Span} {ms : List Msg} (hl : Le G G') (h : WayC G cs s ms) : WayC G' cs s ms := by
 obtain ⟨v, h1, h2⟩ := h
 exact ⟨v, h1, h2.mono hl⟩
section
variable {α : Type} {E : Env} {f : Fr} {G : GH} {M Mk Ms Mr : MH} {ops rest : List Oper} {q : Bool} {K : Kt} {d : Nat} {ty : TypeId} {pos : String} {aft : Array Edge} {t et : TypeId} {x y kk : Operand} {b : Nat} {k : Int} {m : List (Int × α)} {V : VEnc α}
end
end Go.Fw
