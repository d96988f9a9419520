/- Messages that are moved on from a node to its kid. Plain Lean; nothing of the program is named here. No condition. -/
import Derived.Test.YtmbafmifalppaaaGreatQcNr
set_option linter.unusedVariables false
set_option linter.unusedSimpArgs false
set_option linter.unnecessarySimpa false

namespace Go.Fw
open Go Go.RowKit
def isW (m : Msg) : Bool := decide (m.kind = 4)
def frontN (l : List Msg) : List Msg := if idxN isW l = -1 then l else if idxN isW l = 0 then l.take 1 else l.take (idxN isW l).toNat
def forF (P : List Str) (i : Int) (m : Msg) : Option Msg := if ((routeN P m.key : Nat) : Int) = i ∧ (m.clip (rangeN P i)).2 = true then some (m.clip (rangeN P i)).1 else none
def forN (P : List Str) (l : List Msg) (i : Int) : List Msg := (frontN l).filterMap (forF P i)
def Msg.zero : Msg := ⟨0, 0, Str.nil, Str.nil, false, Str.nil⟩
def withoutN (m : Msg) (s : Span) : Msg × Bool := if s.opn = true then (Msg.zero, false) else m.clip ⟨s.hi, Str.nil, true⟩
def leftN (P : List Str) (i : Int) (T : List Msg) (m : Msg) : Option Msg :=
 if m.stamp ∈ T.map Msg.stamp then (if m.kind = 4 ∧ (withoutN m (rangeN P i)).2 = true then some (withoutN m (rangeN P i)).1 else none) else some m
def restN (P : List Str) (i : Int) (T : List Msg) (l : List Msg) : List Msg := l.filterMap (leftN P i T)
theorem rest_append (P : List Str) (i : Int) (T A B : List Msg) : restN P i T (A ++ B) = restN P i T A ++ restN P i T B := List.filterMap_append
theorem rest_keep {P : List Str} {i : Int} {T : List Msg} : ∀ {l : List Msg}, (∀ m ∈ l, ¬ m.stamp ∈ T.map Msg.stamp) → restN P i T l = l
 | [], _ => rfl
 | m :: l, h => by
  have ih := rest_keep (P := P) (i := i) (T := T) (l := l) fun x hx => h x (List.mem_cons_of_mem _ hx)
  unfold restN at ih ⊢
  rw [List.filterMap_cons, show leftN P i T m = some m from if_neg (h m (by simp)), ih]
theorem point_span {m : Msg} (hR : m.R) (h : ¬ m.kind = 4) (k : Str) : m.span.has k = decide (k = m.key) := by
 have : m.span = ⟨m.key, m.key.next, false⟩ := by unfold Msg.span; rw [if_neg h]
 rw [this, point_has (by have := hR.1.2.1; omega)]
theorem point_clip {m : Msg} (hR : m.R) (h : ¬ m.kind = 4) (s : Span) : (m.clip s).2 = s.has m.key ∧ ((m.clip s).2 = true → (m.clip s).1 = m) := by
 refine ⟨?_, fun h2 => by rw [(clip_of h2).2, if_neg h]⟩
 cases h2 : (m.clip s).2
 ·have := empty_iff.1 (clip_no.1 h2) m.key
  rw [meet_has, point_span hR h, decide_eq_true rfl, Bool.true_and] at this
  exact this.symm
 ·cases h3 : s.has m.key
  ·exfalso
   have : (m.clip s).2 = false := clip_no.2 (empty_iff.2 fun k => by
    rw [meet_has, point_span hR h]
    by_cases e : k = m.key
    ·rw [e, h3]; simp
    ·simp [e])
   rw [this] at h2; cases h2
  ·rfl
theorem take_filter {α : Type} (g : α → Bool) : ∀ (F : List α) (n : Nat), ∃ q, (F.take q).filter g = (F.filter g).take n
 | [], n => ⟨0, by simp⟩
 | a :: F, 0 => ⟨0, by simp⟩
 | a :: F, n + 1 => by
  cases h : g a
  ·obtain ⟨q, hq⟩ := take_filter g F (n + 1)
   exact ⟨q + 1, by rw [List.take_succ_cons, List.filter_cons_of_neg (by simp [h]), List.filter_cons_of_neg (by simp [h]), hq]⟩
  ·obtain ⟨q, hq⟩ := take_filter g F n
   exact ⟨q + 1, by rw [List.take_succ_cons, List.filter_cons_of_pos h, List.filter_cons_of_pos h, hq, List.take_succ_cons]⟩
theorem front_cases (l : List Msg) : (∃ w R, l = w :: R ∧ w.kind = 4 ∧ frontN l = [w]) ∨ ∃ F R, l = F ++ R ∧ frontN l = F ∧ ∀ m ∈ F, ¬ m.kind = 4 := by
 rcases idxN_cases isW l with ⟨h, h2⟩ | ⟨k, hk, h, h2, h3⟩
 ·refine .inr ⟨l, [], by simp, by unfold frontN; rw [if_pos h], fun m hm e => ?_⟩
  have := h2 m hm
  simp [isW, e] at this
 ·cases k with
  | zero =>
   left
   match l, hk with
   | w :: R, _ => exact ⟨w, R, rfl, by simpa [isW] using h2, by unfold frontN; rw [if_neg (by rw [h]; decide), if_pos (by rw [h]; rfl)]; rfl⟩
  | succ k =>
   right
   refine ⟨l.take (k + 1), l.drop (k + 1), (List.take_append_drop _ _).symm, by unfold frontN; rw [if_neg (by rw [h]; omega), if_neg (by rw [h]; omega), h]; rfl, fun m hm e => ?_⟩
   obtain ⟨j, hj, rfl⟩ := List.getElem_of_mem hm
   rw [List.length_take] at hj
   rw [List.getElem_take] at e
   have := h3 j (by omega) (by omega)
   simp [isW, e] at this
theorem rst_of {l : List Msg} (h : MsgsR l) : Rst l := (MsgsR.iff.1 h).2
inductive Moved (P : List Str) (i : Nat) (l T : List Msg) : Prop
 | none (hT : T = []) : Moved P i l T
 | wipe (w : Msg) (R : List Msg) (hl : l = w :: R) (hk : w.kind = 4) (hr : routeN P w.key = i) (hc : (w.clip (rangeN P i)).2 = true) (hT : T = [(w.clip (rangeN P i)).1])
   (hA : restN P i T l = (if (withoutN w (rangeN P i)).2 = true then [(withoutN w (rangeN P i)).1] else []) ++ R) : Moved P i l T
 | points (F R : List Msg) (hl : l = F ++ R) (hF : ∀ m ∈ F, ¬ m.kind = 4) (hT : T = F.filter fun m => decide (routeN P m.key = i)) (hA : restN P i T l = (F.filter fun m => !decide (routeN P m.key = i)) ++ R) : Moved P i l T
theorem rst_app {A B : List Msg} (h : Rst (A ++ B)) : Rst A ∧ Rst B ∧ ∀ a ∈ A, ∀ b ∈ B, a.stamp < b.stamp := List.pairwise_append.1 h
theorem rst_inj : ∀ {l : List Msg}, Rst l → ∀ {a b : Msg}, a ∈ l → b ∈ l → a.stamp = b.stamp → a = b
 | [], _, _, _, ha, _, _ => by cases ha
 | x :: l, h, a, b, ha, hb, e => by
  obtain ⟨h1, h2⟩ := List.pairwise_cons.1 h
  rcases List.mem_cons.1 ha with ea | ha2
  ·rcases List.mem_cons.1 hb with eb | hb2
   ·rw [ea, eb]
   ·have := h1 b hb2; rw [ea] at e; omega
  ·rcases List.mem_cons.1 hb with eb | hb2
   ·have := h1 a ha2; rw [eb] at e; omega
   ·exact rst_inj h2 ha2 hb2 e
theorem moved_of {P : List Str} {i : Nat} {l : List Msg} (hP : rising P = true) (hi : i ≤ P.length) (hm : MsgsR l) (n : Nat) : Moved P i l ((forN P l i).take n) := by
 have hR := (MsgsR.iff.1 hm).1
 have hs := rst_of hm
 rcases front_cases l with ⟨w, R, rfl, hk, hf⟩ | ⟨F, R, rfl, hf, hF⟩
 ·by_cases hT : (forN P (w :: R) i).take n = []
  ·exact .none hT
  ·have e0 : forN P (w :: R) i = (forF P i w).toList := by unfold forN; rw [hf]; cases h : forF P i w <;> simp [h]
   have hw : (routeN P w.key = i) ∧ (w.clip (rangeN P i)).2 = true := by
    by_cases h : ((routeN P w.key : Nat) : Int) = i ∧ (w.clip (rangeN P i)).2 = true
    ·exact ⟨by omega, h.2⟩
    ·exact absurd (by rw [e0, show forF P i w = none from if_neg h]; simp) hT
   have e1 : forN P (w :: R) i = [(w.clip (rangeN P i)).1] := by rw [e0, show forF P i w = some _ from if_pos ⟨by omega, hw.2⟩]; rfl
   have e2 : (forN P (w :: R) i).take n = [(w.clip (rangeN P i)).1] := by
    rw [e1] at hT ⊢
    cases n with
    | zero => exact absurd rfl hT
    | succ n => rw [List.take_succ_cons, List.take_nil]
   refine .wipe w R rfl hk hw.1 hw.2 e2 ?_
   rw [e2]
   have hst : (w.clip (rangeN P i)).1.stamp = w.stamp := clip_stamp hw.2
   rw [show w :: R = [w] ++ R from rfl, rest_append, rest_keep (l := R) fun m hm h => ?_]
   ·congr 1
    unfold restN leftN
    by_cases h : (withoutN w (rangeN P i)).2 = true
    ·rw [if_pos h]; simp [hst, hk, h]
    ·rw [if_neg h]; simp [hst, hk, h]
   ·have := (List.pairwise_cons.1 hs).1 m hm
    simp [hst] at h
    omega
 ·obtain ⟨q, hq⟩ := take_filter (fun m : Msg => decide (routeN P m.key = i)) F n
  have hRF : ∀ m ∈ F, m.R := fun m h => hR m (List.mem_append_left _ h)
  have hfor : ∀ (G : List Msg), (∀ m ∈ G, m ∈ F) → G.filterMap (forF P i) = G.filter fun m => decide (routeN P m.key = i) := fun G => by
   induction G with
   | nil => intro _; rfl
   | cons m G ih =>
    intro hG
    have hmF := hG m (by simp)
    have hc := point_clip (hRF m hmF) (hF m hmF) (rangeN P i)
    rw [range_has hP _ hi] at hc
    rw [List.filterMap_cons, ih fun x hx => hG x (List.mem_cons_of_mem _ hx)]
    by_cases e : routeN P m.key = i
    ·have h2 : (m.clip (rangeN P i)).2 = true := by rw [hc.1, decide_eq_true e.symm]
     rw [show forF P i m = some m from (if_pos ⟨by omega, h2⟩).trans (congrArg some (hc.2 h2)), List.filter_cons_of_pos (by simp [e])]
    ·rw [show forF P i m = none from if_neg fun h => e (by omega), List.filter_cons_of_neg (by simp [e])]
  have hT : (forN P (F ++ R) i).take n = (F.take q).filter fun m => decide (routeN P m.key = i) := by
   unfold forN
   rw [hf, hfor F (fun m h => h), hq]
  refine .points (F.take q) (F.drop q ++ R) (by rw [← List.append_assoc, List.take_append_drop]) (fun m hm => hF m (List.mem_of_mem_take hm)) hT ?_
  rw [hT]
  have hl : F ++ R = F.take q ++ (F.drop q ++ R) := by rw [← List.append_assoc, List.take_append_drop]
  rw [hl] at hs ⊢
  obtain ⟨s1, s2, s3⟩ := rst_app hs
  rw [rest_append, rest_keep (l := F.drop q ++ R) fun m hm h => ?_]
  ·congr 1
   generalize hFq : F.take q = G at *
   have hGF : ∀ m ∈ G, ¬ m.kind = 4 := fun m hm => hF m (by rw [← hFq] at hm; exact List.mem_of_mem_take hm)
   have key : ∀ (H : List Msg), (∀ m ∈ H, m ∈ G) → restN P i (G.filter fun m => decide (routeN P m.key = i)) H = H.filter fun m => !decide (routeN P m.key = i) := fun H => by
    induction H with
    | nil => intro _; rfl
    | cons m H ih =>
     intro hH
     have hmG := hH m (by simp)
     have ih := ih fun x hx => hH x (List.mem_cons_of_mem _ hx)
     unfold restN at ih ⊢
     rw [List.filterMap_cons, ih]
     by_cases e : routeN P m.key = i
     ·have : m.stamp ∈ (G.filter fun m => decide (routeN P m.key = i)).map Msg.stamp := List.mem_map.2 ⟨m, List.mem_filter.2 ⟨hmG, by simp [e]⟩, rfl⟩
      rw [show leftN P i (G.filter fun m => decide (routeN P m.key = i)) m = none from (if_pos this).trans (if_neg fun h => hGF m hmG h.1), List.filter_cons_of_neg (by simp [e])]
     ·have : ¬ m.stamp ∈ (G.filter fun m => decide (routeN P m.key = i)).map Msg.stamp := fun h => by
       obtain ⟨x, hx, hxs⟩ := List.mem_map.1 h
       obtain ⟨hx1, hx2⟩ := List.mem_filter.1 hx
       rw [rst_inj s1 hx1 hmG hxs] at hx2
       simp [e] at hx2
      rw [show leftN P i (G.filter fun m => decide (routeN P m.key = i)) m = some m from if_neg this, List.filter_cons_of_pos (by simp [e])]
   exact key G fun m h => h
  ·obtain ⟨x, hx, hxs⟩ := List.mem_map.1 h
   have := s3 x (List.mem_filter.1 hx).1 m hm
   omega
section
variable {P : List Str} {i : Nat} {l T : List Msg} (hP : rising P = true) (hi : i ≤ P.length) (hm : MsgsR l) (h : Moved P i l T)
include hP hi hm h
end
end Go.Fw

namespace Go.Fw
open Go Go.RowKit
variable {c : Cfg} {l : List Nd} {ss : List Seat}
def Wst (l : List Msg) : Prop := l.Pairwise fun a b => a.stamp ≤ b.stamp
theorem Rst.wst {l : List Msg} (h : Rst l) : Wst l := h.imp fun h => Int.le_of_lt h
theorem merge_wst : ∀ (n : Nat) (C : Ls), totN C = n → (∀ L ∈ C, Wst L) → Wst (mergeN C) := by
 intro n
 induction n with
 | zero =>
  intro C h _
  rcases best_or C with h1 | ⟨b, hb⟩
  ·rw [merge_nil h1]; exact List.Pairwise.nil
  ·have := totN_set hb; omega
 | succ n ih =>
  intro C h hC
  rcases best_or C with h1 | ⟨b, hb⟩
  ·rw [merge_nil h1]; exact List.Pairwise.nil
  ·rw [merge_step hb]
   refine List.pairwise_cons.2 ⟨fun m hm => ?_, ih _ (by have := totN_set hb; omega) ?_⟩
   ·have hm2 : m ∈ C.flatten := (flat_best hb).mem_iff.1 (List.mem_cons_of_mem _ ((merge_perm _ _ rfl).mem_iff.1 hm))
    obtain ⟨L, hL, hmL⟩ := List.mem_flatten.1 hm2
    obtain ⟨j, hj, rfl⟩ := List.getElem_of_mem hL
    obtain ⟨q, hq, rfl⟩ := List.getElem_of_mem hmL
    have h3 := (hb.min j hj (by omega)).1
    rw [stN_at hb.ne, stN_at (show 0 < C[j].length by omega)] at h3
    have h4 : (C[j][0]'(by omega)).stamp ≤ C[j][q].stamp := by
     by_cases e0 : q = 0
     ·subst e0; exact Int.le_refl _
     ·exact List.pairwise_iff_getElem.1 (hC _ (List.getElem_mem hj)) 0 q (by omega) hq (by omega)
    omega
   ·intro L hL
    rcases List.mem_or_eq_of_mem_set hL with h | h
    ·exact hC _ h
    ·subst h; exact List.Pairwise.sublist (List.drop_sublist _ _) (hC _ (List.getElem_mem _))
theorem clips_wst {s : Span} {A : List Msg} (h : Wst A) : Wst (clips s A) := by
 unfold Wst clips
 rw [List.pairwise_filterMap]
 refine List.Pairwise.imp (fun {a b} hab x hx y hy => ?_) h
 split at hx
 ·split at hy
  ·rename_i h1 h2
   cases hx; cases hy
   rw [clip_stamp h1, clip_stamp h2]; exact hab
  ·cases hy
 ·cases hx
theorem wst_eq : ∀ {A B : List Msg}, Wst A → Rst B → A.Perm B → A = B
 | [], B, _, _, h => h.symm.eq_nil.symm ▸ rfl
 | a :: A, [], _, _, h => absurd h.length_eq (by simp)
 | a :: A, b :: B, ha, hb, h => by
  have h1 := List.pairwise_cons.1 ha
  have h2 := List.pairwise_cons.1 hb
  have e : a = b := by
   have m1 : a ∈ b :: B := h.mem_iff.1 (by simp)
   have m2 : b ∈ a :: A := h.mem_iff.2 (by simp)
   rcases List.mem_cons.1 m1 with e | m1
   ·exact e
   ·rcases List.mem_cons.1 m2 with e | m2
    ·exact e.symm
    ·have := h2.1 a m1; have := h1.1 b m2; omega
  subst e
  rw [wst_eq h1.2 h2.2 (List.Perm.cons_inv h)]
theorem on_clip {m : Msg} {s : Span} {k : Str} (hk : s.has k = true) : (m.clip s).2 = true → (m.clip s).1.on k = m.on k := fun h => by
 by_cases h4 : m.kind = 4
 ·have h5 := clip_span h h4
  have k2 : (m.clip s).1.kind = 4 := by rw [(clip_of h).2, if_pos h4]; exact h4
  unfold Msg.on
  rw [h5, meet_has, hk, Bool.and_true, k2, h4]; rfl
 ·rw [(clip_of h).2, if_neg h4]
theorem ons_clips {s : Span} {k : Str} (hk : s.has k = true) : ∀ (A : List Msg) (o : Option Str), (clips s A).foldl (fun o m => (m.on k).apply o) o = A.foldl (fun o m => (m.on k).apply o) o
 | [], o => rfl
 | m :: A, o => by
  rw [clips_cons, List.foldl_cons]
  cases h : (m.clip s).2
  ·rw [if_neg (by simp), ons_clips hk A]
   have := empty_iff.1 (clip_no.1 h) k
   rw [meet_has, hk, Bool.and_true] at this
   have e : m.on k = Eff.zero := by unfold Msg.on; rw [if_pos (.inl this)]
   rw [e]; rfl
  ·rw [if_pos rfl, List.foldl_cons, on_clip hk h, ons_clips hk A]
theorem ons_clips' {s : Span} {k : Str} (hk : s.has k = true) (A : List Msg) (o : Option Str) : (onsN (clips s A) k).apply o = (onsN A k).apply o := by
 rw [onsN_apply, onsN_apply, ons_clips hk]
def ptS (k : Str) : Span := ⟨k, k.next, false⟩
theorem pt_in {k : Str} (hk : k.b.size < 140737488355328) {s : Span} (h : s.has k = true) : ∀ q, (ptS k).has q = true → s.has q = true := fun q hq => by
 rw [show (ptS k).has q = decide (q = k) from point_has hk] at hq
 rw [of_decide_eq_true hq]; exact h
structure Gp (l : List Nd) (ss : List Seat) (k : Str) (x : Seat) (W : List Msg) : Prop where
 mem : x ∈ ss
 has : x.s.has k = true
 wst : Wst W
 eq : clips (ptS k) W = clips (ptS k) x.ms
 fit : ∀ m ∈ W, m.R
 len : W.length ≤ 1024 * ((rootS l 0).n.level - x.n.level).toNat
theorem Gp.init (t : Tree c l ss) (k : Str) : Gp l ss k (rootS l 0) [] := ⟨t.root, all_has k, List.Pairwise.nil, rfl, (fun m hm => by cases hm), Nat.zero_le _⟩
theorem Gp.next (t : Tree c l ss) {k : Str} (hk : k.b.size < 140737488355328) {x : Seat} {W : List Msg} (g : Gp l ss k x W) (h0 : ¬ x.n.level ≤ 0) : Gp l ss k (kidSt l x (routeN x.n.pivots k)) (mergeN [x.n.msgs, W]) := by
 have h3 := t.right g.mem h0
 have hj := t.route g.mem h0 k
 have ha := t.at g.mem (by omega) hj
 have hh : (kidSt l x (routeN x.n.pivots k)).s.has k = true := by rw [kidSt_has h3 hj, g.has]; simp
 have hp := merge_perm _ [x.n.msgs, W] rfl
 have hf : [x.n.msgs, W].flatten = x.n.msgs ++ W := by simp
 rw [hf] at hp
 obtain ⟨q1, q2, q3⟩ := t.msgs g.mem
 have hms := t.kid_ms g.mem (t.rst x g.mem) (routeN x.n.pivots k)
 refine ⟨ha.1, hh, merge_wst _ _ rfl ?_, ?_, fun m hm => ?_, ?_⟩
 ·intro L hL
  simp only [List.mem_cons, List.not_mem_nil, or_false] at hL
  rcases hL with rfl | rfl
  ·exact q1.wst
  ·exact g.wst
 ·have e1 : clips (ptS k) (kidSt l x (routeN x.n.pivots k)).ms = clips (ptS k) (x.n.msgs ++ W) := by
   rw [hms.1, clips_append, clips_append, clips_clips (pt_in hk hh), clips_clips (pt_in hk hh), g.eq]
  refine (wst_eq (clips_wst (merge_wst _ _ rfl ?_)) (clips_rst hms.2) ((clips_perm hp).trans (List.Perm.of_eq e1.symm)))
  intro L hL
  simp only [List.mem_cons, List.not_mem_nil, or_false] at hL
  rcases hL with rfl | rfl
  ·exact q1.wst
  ·exact g.wst
 ·rcases List.mem_append.1 (hp.mem_iff.1 hm) with h | h
  ·exact q2 m h
  ·exact g.fit m h
 ·have h1 := hp.length_eq
  rw [List.length_append] at h1
  have h2 := t.msgs_len g.mem
  have h4 := g.len
  have h5 := t.ms_small x g.mem
  have : ((rootS l 0).n.level - (kidSt l x (routeN x.n.pivots k)).n.level).toNat = ((rootS l 0).n.level - x.n.level).toNat + 1 := by omega
  rw [this]; omega
theorem Gp.get (t : Tree c l ss) {k : Str} (hk : k.b.size < 140737488355328) {x : Seat} {W : List Msg} (g : Gp l ss k x W) (h0 : x.n.level = 0) : Eff.apply (onsN W k) (getN x.n.rows k) = getN (mapN l) k := by
 have e := t.leaf_eq g.mem g.has h0
 rw [← t.lookup k, ← e]
 have h : (ptS k).has k = true := (point_has hk).trans (decide_eq_true rfl)
 rw [← ons_clips' h W, ← ons_clips' h x.ms, g.eq]
def WayC (G : GH) (cs : List Value) (s : Span) (ms : List Msg) : Prop := ∃ v, cs = [.string s.lo.b, .string s.hi.b, .bool s.opn, v] ∧ SlR eMsg G v ms
theorem WayC.mono {G G' : GH} {cs : List Value} {s : Span} {ms : List Msg} (hl : Le G G') (h : WayC G cs s ms) : WayC G' cs s ms := by
 obtain ⟨v, h1, h2⟩ := h
 exact ⟨v, h1, h2.mono hl⟩
section
variable {α : Type} {E : Env} {f : Fr} {G : GH} {M Mk Ms Mr : MH} {ops rest : List Oper} {q : Bool} {K : Kt} {d : Nat} {ty : TypeId} {pos : String} {aft : Array Edge} {t et : TypeId} {x y kk : Operand} {b : Nat} {k : Int} {m : List (Int × α)} {V : VEnc α}
end
end Go.Fw

namespace Go.Fw
open Go Go.RowKit
def roomB (bud : Int) (ms : List Msg) (m : Msg) : Bool := decide (m.size ≤ bud - sizesN ms) && (ms.getLast?.all fun x => decide (x.stamp < m.stamp))
def addsN (bud : Int) : List Msg → List Msg → Nat
 | _, [] => 0
 | ms, m :: l => if roomB bud ms m = true then addsN bud (ms ++ [m]) l + 1 else 0
def movedN (leaf bud : Int) (k : Nd) (l : List Msg) : Nd × Nat :=
 if k.level = 0 then ({ k with rows := (drainN leaf k.rows l).1 }, (drainN leaf k.rows l).2) else ({ k with msgs := k.msgs ++ l.take (addsN bud k.msgs l) }, addsN bud k.msgs l)
def KidOf (p k : Nd) (i : Int) : Prop := 1 ≤ p.level ∧ k.level = p.level - 1 ∧ 0 ≤ i ∧ i < (p.kids.length : Int)
instance (p k : Nd) (i : Int) : Decidable (KidOf p k i) := by unfold KidOf; infer_instance
noncomputable def countN (leaf bud : Int) (p k : Nd) (i : Int) : Nat := if KidOf p k i then (movedN leaf bud k (forN p.pivots p.msgs i)).2 else 0
noncomputable def pourN (leaf bud : Int) (p k : Nd) (i : Int) : Nd × Nd × Nat :=
 if countN leaf bud p k i = 0 then (p, k, 0)
 else ({ p with msgs := restN p.pivots i ((forN p.pivots p.msgs i).take (countN leaf bud p k i)) p.msgs },
  { (movedN leaf bud k (forN p.pivots p.msgs i)).1 with seen := (((forN p.pivots p.msgs i).take (countN leaf bud p k i)).getLast?.getD Msg.zero).stamp }, countN leaf bud p k i)
theorem adds_le (bud : Int) : ∀ (l ms : List Msg), addsN bud ms l ≤ l.length
 | [], _ => Nat.le_refl _
 | m :: l, ms => by
  unfold addsN
  split
  ·have := adds_le bud l (ms ++ [m]); simp; omega
  ·omega
theorem moved_le (leaf bud : Int) (k : Nd) (l : List Msg) : (movedN leaf bud k l).2 ≤ l.length := by
 unfold movedN
 split
 ·exact drain_le _ _ _
 ·exact adds_le _ _ _
theorem sizes_app (A B : List Msg) : sizesN (A ++ B) = sizesN A + sizesN B := by simp [sizesN]
def Nd.spanN (n : Nd) : Span := if n.top = true then Span.all else Span.norm ⟨Str.nil, n.high, false⟩
def kidS (p : Nd) (i : Int) : Span := p.spanN.meet (rangeN p.pivots i)
def MayP (c : Cfg) (p k : Nd) (i : Int) : Prop := (p.R c.fan c.leaf c.bud ∧ k.R c.fan c.leaf c.bud ∧ KidOf p k i) ∧ (k.top = (kidS p i).opn ∧ k.high = (kidS p i).hi) ∧ ∀ j (h : j < p.msgs.length), (p.msgs[j].span.meet (kidS p i)).empty = false → k.seen < p.msgs[j].stamp
instance (c : Cfg) (p k : Nd) (i : Int) : Decidable (MayP c p k i) := by unfold MayP; infer_instance
theorem size_pos (m : Msg) : 0 ≤ m.size := by unfold Msg.size; split <;> omega
structure Poured (c : Cfg) (p k : Nd) (i : Int) (a b : Nd) (T : List Msg) : Prop where
 ne : 0 < T.length
 ea : a = { p with msgs := restN p.pivots i T p.msgs }
 eb : b = { k with rows := b.rows, msgs := b.msgs, seen := b.seen }
 leaf : k.level = 0 → b.msgs = k.msgs ∧ b.rows = foldN k.rows T ∧ (PairsR k.rows → (∀ m ∈ forN p.pivots p.msgs i, m.R) → (k.rows.length : Int) ≤ c.leaf → (b.rows.length : Int) ≤ c.leaf)
 inner : ¬ k.level = 0 → b.rows = k.rows ∧ b.msgs = k.msgs ++ T ∧ (sizesN k.msgs ≤ c.bud → sizesN b.msgs ≤ c.bud)
 seen : b.seen = (T.getLast?.getD Msg.zero).stamp
 take : ∃ n, 0 < n ∧ n ≤ (forN p.pivots p.msgs i).length ∧ T = (forN p.pivots p.msgs i).take n
theorem for_mem {P : List Str} {l : List Msg} {i : Int} {m : Msg} (h : m ∈ forN P l i) : ∃ a ∈ l, (a.clip (rangeN P i)).2 = true ∧ (a.clip (rangeN P i)).1 = m := by
 obtain ⟨a, ha, h2⟩ := List.mem_filterMap.1 h
 unfold forF at h2
 split at h2
 ·rename_i h3
  cases h2
  refine ⟨a, ?_, h3.2, rfl⟩
  unfold frontN at ha
  split at ha
  ·exact ha
  ·split at ha
   ·exact List.mem_of_mem_take ha
   ·exact List.mem_of_mem_take ha
 ·cases h2
theorem nd_pivots {c : Cfg} {n : Nd} (h : n.R c.fan c.leaf c.bud) : ∀ k ∈ n.pivots, k.b.size ≤ 16 := fun k hk => by
 have h4 := h.2.2.2
 by_cases h0 : n.level = 0
 ·rw [if_pos h0] at h4
  have := h4.1
  have e : n.pivots = [] := List.eq_nil_of_length_eq_zero (by omega)
  rw [e] at hk; cases hk
 ·rw [if_neg h0] at h4
  obtain ⟨j, hj, rfl⟩ := List.getElem_of_mem hk
  exact (h4.2.2.2.2.2.1 j hj).2.1
structure Takes (c : Cfg) (p k : Nd) (i : Int) (T : List Msg) : Prop where
 R : ∀ m ∈ T, m.R
 up : ∀ m ∈ T, k.seen < m.stamp
 sp : ∀ m ∈ T, ∀ q, m.span.has q = true → (kidS p i).has q = true
 rst : Rst T
 late : ∀ m ∈ restN p.pivots i T p.msgs, (m.span.meet (kidS p i)).empty = false → ∀ x ∈ T, x.stamp < m.stamp
 clip : clips (kidS p i) p.msgs = T ++ clips (kidS p i) (restN p.pivots i T p.msgs)
end Go.Fw

namespace Go.Fw
open Go Go.RowKit
theorem front_mem {l : List Msg} {m : Msg} (h : m ∈ frontN l) : m ∈ l := by
 unfold frontN at h
 split at h
 ·exact h
 ·split at h
  ·exact List.mem_of_mem_take h
  ·exact List.mem_of_mem_take h
theorem front_len (l : List Msg) : (frontN l).length ≤ l.length := by
 unfold frontN
 split
 ·exact Nat.le_refl _
 ·split
  ·rw [List.length_take]; omega
  ·rw [List.length_take]; omega
theorem front_all {l : List Msg} (h : idxN isW l = -1) : l = frontN l := by unfold frontN; rw [if_pos h]
theorem front_one {l : List Msg} (h : ¬ idxN isW l = -1) (h2 : idxN isW l = 0) : (l.take 1).drop 0 = frontN l := by unfold frontN; rw [if_neg h, if_pos h2, List.drop_zero]
theorem front_take {l : List Msg} (h : ¬ idxN isW l = -1) (h2 : ¬ idxN isW l = 0) : (l.take (idxN isW l).toNat).drop 0 = frontN l := by unfold frontN; rw [if_neg h, if_neg h2, List.drop_zero]
theorem fm_succ {α β : Type} {f : α → Option β} {l : List α} {k : Nat} (hk : k < l.length) : (l.take (k + 1)).filterMap f = (l.take k).filterMap f ++ (f l[k]).toList := by
 rw [List.take_succ_eq_append_getElem hk, List.filterMap_append]
 cases h : f l[k] <;> simp [h]
theorem fm_t {α β : Type} {f : α → Option β} {l : List α} {k : Nat} {b : β} (hk : k < l.length) (h : f l[k] = some b) : (l.take (k + 1)).filterMap f = (l.take k).filterMap f ++ [b] := by rw [fm_succ hk, h]; rfl
theorem fm_f {α β : Type} {f : α → Option β} {l : List α} {k : Nat} (hk : k < l.length) (h : f l[k] = none) : (l.take (k + 1)).filterMap f = (l.take k).filterMap f := by rw [fm_succ hk, h]; simp
theorem fm_lek {α β : Type} (f : α → Option β) (l : List α) (k : Nat) : ((l.take k).filterMap f).length ≤ k := by
 have := List.length_filterMap_le f (l.take k)
 rw [List.length_take] at this
 omega
theorem for_t {P : List Str} {i : Int} {F : List Msg} {k : Nat} (hk : k < F.length) (h1 : ((routeN P F[k].key : Nat) : Int) = i) (h2 : (F[k].clip (rangeN P i)).2 = true) : (F.take (k + 1)).filterMap (forF P i) = (F.take k).filterMap (forF P i) ++ [(F[k].clip (rangeN P i)).1] := fm_t hk (if_pos ⟨h1, h2⟩)
theorem for_n {P : List Str} {i : Int} {F : List Msg} {k : Nat} (hk : k < F.length) (h : ¬ (((routeN P F[k].key : Nat) : Int) = i ∧ (F[k].clip (rangeN P i)).2 = true)) : (F.take (k + 1)).filterMap (forF P i) = (F.take k).filterMap (forF P i) := fm_f hk (if_neg h)
def addN (bud : Int) (ms : List Msg) (m : Msg) : List Msg × Bool := if roomB bud ms m = true then (ms ++ [m], true) else ([], false)
theorem addN_t {bud : Int} {ms : List Msg} {m : Msg} (h : roomB bud ms m = true) : addN bud ms m = (ms ++ [m], true) := if_pos h
theorem addN_f {bud : Int} {ms : List Msg} {m : Msg} (h : roomB bud ms m = false) : addN bud ms m = ([], false) := if_neg (by simp [h])
theorem room_iff {bud : Int} {ms : List Msg} {m : Msg} : roomB bud ms m = true ↔ m.size ≤ bud - sizesN ms ∧ ∀ h : 0 < ms.length, (ms[ms.length - 1]'(by omega)).stamp < m.stamp := by
 unfold roomB
 rw [Bool.and_eq_true, decide_eq_true_eq]
 refine and_congr Iff.rfl ?_
 cases h : ms.getLast? with
 | none =>
  rw [List.getLast?_eq_none_iff] at h
  subst h
  simp
 | some x =>
  rw [List.getLast?_eq_getElem?] at h
  obtain ⟨h1, h2⟩ := List.getElem?_eq_some_iff.1 h
  simp only [Option.all_some, decide_eq_true_eq]
  exact ⟨fun h3 _ => by rw [h2]; exact h3, fun h3 => by have := h3 (by omega); rw [h2] at this; exact this⟩
theorem room_f1 {bud : Int} {ms : List Msg} {m : Msg} (h : ¬ m.size ≤ bud - sizesN ms) : roomB bud ms m = false := by
 cases hr : roomB bud ms m
 ·rfl
 ·exact absurd (room_iff.1 hr).1 h
theorem room_f2 {bud : Int} {ms : List Msg} {m : Msg} (h : 0 < ms.length) (h2 : m.stamp ≤ (ms[ms.length - 1]'(by omega)).stamp) : roomB bud ms m = false := by
 cases hr : roomB bud ms m
 ·rfl
 ·have := (room_iff.1 hr).2 h; omega
theorem adds_stop {bud : Int} {ms l : List Msg} {k : Nat} (hk : k < l.length) (h : roomB bud ms l[k] = false) : addsN bud ms (l.drop k) = 0 := by
 rw [List.drop_eq_getElem_cons hk]
 unfold addsN
 rw [if_neg (by simp [h])]
theorem adds_next {bud : Int} {ms l : List Msg} {k : Nat} (hk : k < l.length) (h : roomB bud ms l[k] = true) : addsN bud ms (l.drop k) = addsN bud (ms ++ [l[k]]) (l.drop (k + 1)) + 1 := by
 rw [List.drop_eq_getElem_cons hk]
 conv => lhs; unfold addsN
 rw [if_pos h]
def AddsAt (bud : Int) (ms l : List Msg) (k : Nat) : Prop := addsN bud ms l = k + addsN bud (ms ++ l.take k) (l.drop k)
theorem AddsAt.zero (bud : Int) (ms l : List Msg) : AddsAt bud ms l 0 := by unfold AddsAt; simp
theorem AddsAt.succ {bud : Int} {ms l : List Msg} {k : Nat} (h : AddsAt bud ms l k) (hk : k < l.length) (hr : roomB bud (ms ++ l.take k) l[k] = true) : AddsAt bud ms l (k + 1) := by
 unfold AddsAt at h ⊢
 rw [h, adds_next hk hr, List.take_succ_eq_append_getElem hk, List.append_assoc]
 omega
theorem AddsAt.stop {bud : Int} {ms l : List Msg} {k : Nat} (h : AddsAt bud ms l k) (hk : k < l.length) (hr : roomB bud (ms ++ l.take k) l[k] = false) : addsN bud ms l = k := by
 unfold AddsAt at h
 rw [h, adds_stop hk hr]
 omega
theorem AddsAt.all {bud : Int} {ms l : List Msg} {k : Nat} (h : AddsAt bud ms l k) (hk : l.length ≤ k) : addsN bud ms l = k := by
 unfold AddsAt at h
 rw [h, List.drop_eq_nil_of_le hk]
 rfl
theorem moved_0 {leaf bud : Int} {k : Nd} {l : List Msg} (h : k.level = 0) : movedN leaf bud k l = ({ k with rows := (drainN leaf k.rows l).1 }, (drainN leaf k.rows l).2) := if_pos h
theorem moved_n {leaf bud : Int} {k : Nd} {l : List Msg} {j : Nat} (h : ¬ k.level = 0) (hj : addsN bud k.msgs l = j) : movedN leaf bud k l = ({ k with msgs := k.msgs ++ l.take j }, j) := by unfold movedN; rw [if_neg h, hj]
theorem count_t {leaf bud : Int} {p k : Nd} {i : Int} (h : KidOf p k i) : countN leaf bud p k i = (movedN leaf bud k (forN p.pivots p.msgs i)).2 := if_pos h
theorem count_f {leaf bud : Int} {p k : Nd} {i : Int} (h : ¬ KidOf p k i) : countN leaf bud p k i = 0 := if_neg h
theorem sizes_bound : ∀ {l : List Msg}, (∀ m ∈ l, m.key.b.size ≤ 16 ∧ m.val.b.size ≤ 16) → 0 ≤ sizesN l ∧ sizesN l ≤ 36 * l.length
 | [], _ => ⟨by simp [sizesN], by simp [sizesN]⟩
 | m :: l, h => by
  have ih := sizes_bound (l := l) fun x hx => h x (List.mem_cons_of_mem _ hx)
  have := size_36 (h m (by simp))
  have e : sizesN (m :: l) = m.size + sizesN l := by simp [sizesN]
  rw [e]
  simp only [List.length_cons]
  omega
def goneN (T : List Msg) : List (Int × Bool) := T.foldl (fun m x => putM m x.stamp true) []
def someN (l : List Str) : List Str := Str.nil :: l.flatMap fun a => [a, a.next]
theorem add_snd (bud : Int) (ms : List Msg) (m : Msg) : (addN bud ms m).2 = roomB bud ms m := by
 unfold addN
 cases h : roomB bud ms m
 ·rw [if_neg (by simp)]
 ·rw [if_pos rfl]
theorem moved_len (leaf bud : Int) (k : Nd) (L : List Msg) : (L.take (movedN leaf bud k L).2).length = (movedN leaf bud k L).2 := by
 have := moved_le leaf bud k L
 rw [List.length_take]; omega
theorem pour_f0 {leaf bud : Int} {p k : Nd} {i : Int} (h : ¬ KidOf p k i) : pourN leaf bud p k i = (p, k, 0) := by unfold pourN; rw [if_pos (count_f h)]
theorem pour_f1 {leaf bud : Int} {p k : Nd} {i : Int} (hk : KidOf p k i) (h : ((forN p.pivots p.msgs i).take (movedN leaf bud k (forN p.pivots p.msgs i)).2).length = 0) : pourN leaf bud p k i = (p, k, 0) := by
 rw [moved_len] at h
 unfold pourN; rw [if_pos ((count_t hk).trans h)]
theorem last_get {T : List Msg} (h : 0 < T.length) : T.getLast?.getD Msg.zero = T[T.length - 1]'(by omega) := by
 rw [List.getLast?_eq_getElem?, List.getElem?_eq_getElem (by omega)]; rfl
theorem pour_t {leaf bud : Int} {p k : Nd} {i : Int} {T : List Msg} (hk : KidOf p k i) (hT : T = (forN p.pivots p.msgs i).take (movedN leaf bud k (forN p.pivots p.msgs i)).2) (h : 0 < T.length) :
  pourN leaf bud p k i = ({ p with msgs := restN p.pivots i T p.msgs }, { (movedN leaf bud k (forN p.pivots p.msgs i)).1 with seen := (T[T.length - 1]'(by omega)).stamp }, T.length) := by
 have e : T.length = countN leaf bud p k i := by rw [hT, moved_len, count_t hk]
 unfold pourN
 rw [if_neg (by omega), count_t hk, ← hT, last_get h, ← count_t hk, ← e]
theorem left_no {P : List Str} {i : Int} {T : List Msg} {m : Msg} (h : ¬ m.stamp ∈ T.map Msg.stamp) : leftN P i T m = some m := if_neg h
theorem left_w {P : List Str} {i : Int} {T : List Msg} {m : Msg} (h : m.stamp ∈ T.map Msg.stamp) (h4 : m.kind = 4) (hw : (withoutN m (rangeN P i)).2 = true) : leftN P i T m = some (withoutN m (rangeN P i)).1 := (if_pos h).trans (if_pos ⟨h4, hw⟩)
theorem left_n {P : List Str} {i : Int} {T : List Msg} {m : Msg} (h : m.stamp ∈ T.map Msg.stamp) (hw : ¬ (m.kind = 4 ∧ (withoutN m (rangeN P i)).2 = true)) : leftN P i T m = none := (if_pos h).trans (if_neg hw)
theorem restN_t {P : List Str} {i : Int} {T : List Msg} {l : List Msg} {k : Nat} {x : Msg} {n : Nd} (hk : k < l.length) (h : leftN P i T l[k] = some x) : ({ n with msgs := restN P i T (l.take k) ++ [x] } : Nd) = { n with msgs := restN P i T (l.take (k + 1)) } := by unfold restN; rw [fm_t hk h]
theorem restN_f {P : List Str} {i : Int} {T : List Msg} {l : List Msg} {k : Nat} {n : Nd} (hk : k < l.length) (h : leftN P i T l[k] = none) : ({ n with msgs := restN P i T (l.take k) } : Nd) = { n with msgs := restN P i T (l.take (k + 1)) } := by unfold restN; rw [fm_f hk h]
theorem for_R {P : List Str} {l : List Msg} {i : Int} (hP : ∀ k ∈ P, k.b.size ≤ 16) (hl : ∀ m ∈ l, m.R) : ∀ m ∈ forN P l i, m.R := fun m hm => by
 obtain ⟨a, ha, h2, rfl⟩ := for_mem hm
 have hr := range_sizes (p := P) (i := i) (n := 16) hP
 exact clip_R (hl a ha) hr.1 hr.2 h2
theorem for_len (P : List Str) (l : List Msg) (i : Int) : (forN P l i).length ≤ l.length := Nat.le_trans (List.length_filterMap_le _ _) (front_len l)
theorem rest_len (P : List Str) (i : Int) (T l : List Msg) (k : Nat) : (restN P i T (l.take k)).length ≤ k := fm_lek _ _ _
def Eff.D (e : Eff) : Prop := e.kind = 3 → e.val = Str.nil
def NmR (TN tm : TypeId) (b : Nat) (G : GH) (n : Nd) (M : MH) : Prop :=
 ∃ (pa : Option Addr) (pc : Nat) (ka : Option Addr) (kc : Nat) (vm : Value) (ra : Option Addr) (rc : Nat) (Mm : MH),
  M = (b, .cells (List.toArray [.int .i64 n.slot, .int .i64 n.level, .slice pa n.pivots.length pc, .slice ka n.kids.length kc, .string n.high.b, .bool n.top, .int .i64 n.right, .int .i64 n.seen, vm, .slice ra n.rows.length rc]) TN (0, 0)) :: Mm ∧
  SlR eStr G (.slice pa n.pivots.length pc) n.pivots ∧ SlR eInt G (.slice ka n.kids.length kc) n.kids ∧ OwnR eMsg tm G vm n.msgs Mm ∧ SlR ePair G (.slice ra n.rows.length rc) n.rows ∧ n.Ok
theorem NmR.mono {TN tm : TypeId} {b : Nat} {G G' : GH} {n : Nd} {M : MH} (hl : Le G G') (h : NmR TN tm b G n M) : NmR TN tm b G' n M := by
 obtain ⟨pa, pc, ka, kc, vm, ra, rc, Mm, h1, h2, h3, h4, h5, h6⟩ := h
 exact ⟨pa, pc, ka, kc, vm, ra, rc, Mm, h1, h2.mono hl, h3.mono hl, h4.mono hl, h5.mono hl, h6⟩
theorem NmR.cast {TN tm : TypeId} {b : Nat} {G : GH} {n n' : Nd} {M : MH} (h : NmR TN tm b G n M) (e : n = n') : NmR TN tm b G n' M := e ▸ h
end Go.Fw
