/- Messages that are moved on from a node to its kid. Plain Lean; nothing of the program is named here. No condition. -/
import Derived.Test.YtfmigmijckdldaaGreatQgNt
set_option linter.unusedVariables false
set_option linter.unusedSimpArgs false
set_option linter.unnecessarySimpa false

namespace Go.Fw
open Go Go.RowKit
def isW (m : Msg) : Bool := decide (m.kind = 4)
def frontN (l : List Msg) : List Msg := if idxN isW l = -1 then l else if idxN isW l = 0 then l.take 1 else l.take (idxN isW l).toNat
def forF (P : List Str) (i : Int) (m : Msg) : Option Msg := if ((routeN P m.key : Nat) : Int) = i ∧ (m.clip (rangeN P i)).2 = true then some (m.clip (rangeN P i)).1 else none
def forN (P : List Str) (l : List Msg) (i : Int) : List Msg := (frontN l).filterMap (forF P i)
def Msg.zero : Msg := ⟨0, 0, Str.nil, Str.nil, false, Str.nil⟩
def withoutN (m : Msg) (s : Span) : Msg × Bool := if s.opn = true then (Msg.zero, false) else m.clip ⟨s.hi, Str.nil, true⟩
def leftN (P : List Str) (i : Int) (T : List Msg) (m : Msg) : Option Msg :=
 if m.stamp ∈ T.map Msg.stamp then (if m.kind = 4 ∧ (withoutN m (rangeN P i)).2 = true then some (withoutN m (rangeN P i)).1 else none) else some m
def restN (P : List Str) (i : Int) (T : List Msg) (l : List Msg) : List Msg := l.filterMap (leftN P i T)
theorem rest_append (P : List Str) (i : Int) (T A B : List Msg) : restN P i T (A ++ B) = restN P i T A ++ restN P i T B := List.filterMap_append
theorem rest_keep {P : List Str} {i : Int} {T : List Msg} : ∀ {l : List Msg}, (∀ m ∈ l, ¬ m.stamp ∈ T.map Msg.stamp) → restN P i T l = l
 | [], _ => rfl
 | m :: l, h => by
  have ih := rest_keep (P := P) (i := i) (T := T) (l := l) fun x hx => h x (List.mem_cons_of_mem _ hx)
  unfold restN at ih ⊢
  rw [List.filterMap_cons, show leftN P i T m = some m from if_neg (h m (by simp)), ih]
theorem rest_nil (P : List Str) (i : Int) (l : List Msg) : restN P i [] l = l := rest_keep fun m _ h => by cases h
theorem clipG {m : Msg} {s t : Span} (hst : ∀ k, m.span.has k = true → s.has k = true → t.has k = true) : (if (m.clip t).2 = true then (m.clip t).1.clip s else (⟨0, 0, Str.nil, Str.nil, false, Str.nil⟩, false)) = m.clip s := by
 cases h : (m.clip t).2
 ·rw [if_neg (by simp)]
  have h1 := clip_no.1 h
  have h2 : (m.span.meet s).empty = true := empty_iff.2 fun k => by
   have := empty_iff.1 h1 k
   rw [meet_has] at this ⊢
   cases hm : m.span.has k
   ·rfl
   ·rw [hm, Bool.true_and] at this
    cases hs : s.has k
    ·rfl
    ·rw [hst k hm hs] at this; cases this
  rw [clip_e h2]
 ·rw [if_pos rfl]
  by_cases k : m.kind = 4
  ·have hs := clip_span h k
   have k2 : (m.clip t).1.kind = 4 := by rw [(clip_of h).2, if_pos k]; exact k
   have e : (m.span.meet t).meet s = m.span.meet s := meet_ext fun q => by
    rw [meet_has]
    cases hm : m.span.has q
    ·simp
    ·cases hs : s.has q
     ·simp
     ·rw [hst q hm hs]; simp
   cases he : (m.span.meet s).empty
   ·rw [clip_4 (by rw [hs, e]; exact he) k2, clip_4 he k, hs, e, (clip_of h).2, if_pos k]
   ·rw [clip_e (by rw [hs, e]; exact he), clip_e he]
  ·rw [(clip_of h).2, if_neg k]
theorem clip_same {m : Msg} {s t : Span} (h : ∀ k, m.span.has k = true → s.has k = t.has k) : m.clip s = m.clip t := by
 have e : m.span.meet s = m.span.meet t := meet_ext fun k => by
  cases hm : m.span.has k
  ·rfl
  ·rw [h k hm]
 unfold Msg.clip
 rw [e]
theorem clips_none {s : Span} : ∀ {l : List Msg}, (∀ m ∈ l, ∀ k, m.span.has k = true → s.has k = false) → clips s l = []
 | [], _ => rfl
 | m :: l, h => by
  rw [clips_cons, if_neg, clips_none fun x hx => h x (List.mem_cons_of_mem _ hx)]
  rw [clip_no.2 (empty_iff.2 fun k => by
   rw [meet_has]
   cases hm : m.span.has k
   ·rfl
   ·rw [h m (by simp) k hm]; rfl)]
  simp
theorem point_span {m : Msg} (hR : m.R) (h : ¬ m.kind = 4) (k : Str) : m.span.has k = decide (k = m.key) := by
 have : m.span = ⟨m.key, m.key.next, false⟩ := by unfold Msg.span; rw [if_neg h]
 rw [this, point_has (by have := hR.1.2.1; omega)]
theorem point_clip {m : Msg} (hR : m.R) (h : ¬ m.kind = 4) (s : Span) : (m.clip s).2 = s.has m.key ∧ ((m.clip s).2 = true → (m.clip s).1 = m) := by
 refine ⟨?_, fun h2 => by rw [(clip_of h2).2, if_neg h]⟩
 cases h2 : (m.clip s).2
 ·have := empty_iff.1 (clip_no.1 h2) m.key
  rw [meet_has, point_span hR h, decide_eq_true rfl, Bool.true_and] at this
  exact this.symm
 ·cases h3 : s.has m.key
  ·exfalso
   have : (m.clip s).2 = false := clip_no.2 (empty_iff.2 fun k => by
    rw [meet_has, point_span hR h]
    by_cases e : k = m.key
    ·rw [e, h3]; simp
    ·simp [e])
   rw [this] at h2; cases h2
  ·rfl
theorem take_filter {α : Type} (g : α → Bool) : ∀ (F : List α) (n : Nat), ∃ q, (F.take q).filter g = (F.filter g).take n
 | [], n => ⟨0, by simp⟩
 | a :: F, 0 => ⟨0, by simp⟩
 | a :: F, n + 1 => by
  cases h : g a
  ·obtain ⟨q, hq⟩ := take_filter g F (n + 1)
   exact ⟨q + 1, by rw [List.take_succ_cons, List.filter_cons_of_neg (by simp [h]), List.filter_cons_of_neg (by simp [h]), hq]⟩
  ·obtain ⟨q, hq⟩ := take_filter g F n
   exact ⟨q + 1, by rw [List.take_succ_cons, List.filter_cons_of_pos h, List.filter_cons_of_pos h, hq, List.take_succ_cons]⟩
theorem front_cases (l : List Msg) : (∃ w R, l = w :: R ∧ w.kind = 4 ∧ frontN l = [w]) ∨ ∃ F R, l = F ++ R ∧ frontN l = F ∧ ∀ m ∈ F, ¬ m.kind = 4 := by
 rcases idxN_cases isW l with ⟨h, h2⟩ | ⟨k, hk, h, h2, h3⟩
 ·refine .inr ⟨l, [], by simp, by unfold frontN; rw [if_pos h], fun m hm e => ?_⟩
  have := h2 m hm
  simp [isW, e] at this
 ·cases k with
  | zero =>
   left
   match l, hk with
   | w :: R, _ => exact ⟨w, R, rfl, by simpa [isW] using h2, by unfold frontN; rw [if_neg (by rw [h]; decide), if_pos (by rw [h]; rfl)]; rfl⟩
  | succ k =>
   right
   refine ⟨l.take (k + 1), l.drop (k + 1), (List.take_append_drop _ _).symm, by unfold frontN; rw [if_neg (by rw [h]; omega), if_neg (by rw [h]; omega), h]; rfl, fun m hm e => ?_⟩
   obtain ⟨j, hj, rfl⟩ := List.getElem_of_mem hm
   rw [List.length_take] at hj
   rw [List.getElem_take] at e
   have := h3 j (by omega) (by omega)
   simp [isW, e] at this
theorem rst_of {l : List Msg} (h : MsgsR l) : Rst l := (MsgsR.iff.1 h).2
inductive Moved (P : List Str) (i : Nat) (l T : List Msg) : Prop
 | none (hT : T = []) : Moved P i l T
 | wipe (w : Msg) (R : List Msg) (hl : l = w :: R) (hk : w.kind = 4) (hr : routeN P w.key = i) (hc : (w.clip (rangeN P i)).2 = true) (hT : T = [(w.clip (rangeN P i)).1])
   (hA : restN P i T l = (if (withoutN w (rangeN P i)).2 = true then [(withoutN w (rangeN P i)).1] else []) ++ R) : Moved P i l T
 | points (F R : List Msg) (hl : l = F ++ R) (hF : ∀ m ∈ F, ¬ m.kind = 4) (hT : T = F.filter fun m => decide (routeN P m.key = i)) (hA : restN P i T l = (F.filter fun m => !decide (routeN P m.key = i)) ++ R) : Moved P i l T
theorem rst_app {A B : List Msg} (h : Rst (A ++ B)) : Rst A ∧ Rst B ∧ ∀ a ∈ A, ∀ b ∈ B, a.stamp < b.stamp := List.pairwise_append.1 h
theorem rst_inj : ∀ {l : List Msg}, Rst l → ∀ {a b : Msg}, a ∈ l → b ∈ l → a.stamp = b.stamp → a = b
 | [], _, _, _, ha, _, _ => by cases ha
 | x :: l, h, a, b, ha, hb, e => by
  obtain ⟨h1, h2⟩ := List.pairwise_cons.1 h
  rcases List.mem_cons.1 ha with ea | ha2
  ·rcases List.mem_cons.1 hb with eb | hb2
   ·rw [ea, eb]
   ·have := h1 b hb2; rw [ea] at e; omega
  ·rcases List.mem_cons.1 hb with eb | hb2
   ·have := h1 a ha2; rw [eb] at e; omega
   ·exact rst_inj h2 ha2 hb2 e
theorem moved_of {P : List Str} {i : Nat} {l : List Msg} (hP : rising P = true) (hi : i ≤ P.length) (hm : MsgsR l) (n : Nat) : Moved P i l ((forN P l i).take n) := by
 have hR := (MsgsR.iff.1 hm).1
 have hs := rst_of hm
 rcases front_cases l with ⟨w, R, rfl, hk, hf⟩ | ⟨F, R, rfl, hf, hF⟩
 ·by_cases hT : (forN P (w :: R) i).take n = []
  ·exact .none hT
  ·have e0 : forN P (w :: R) i = (forF P i w).toList := by unfold forN; rw [hf]; cases h : forF P i w <;> simp [h]
   have hw : (routeN P w.key = i) ∧ (w.clip (rangeN P i)).2 = true := by
    by_cases h : ((routeN P w.key : Nat) : Int) = i ∧ (w.clip (rangeN P i)).2 = true
    ·exact ⟨by omega, h.2⟩
    ·exact absurd (by rw [e0, show forF P i w = none from if_neg h]; simp) hT
   have e1 : forN P (w :: R) i = [(w.clip (rangeN P i)).1] := by rw [e0, show forF P i w = some _ from if_pos ⟨by omega, hw.2⟩]; rfl
   have e2 : (forN P (w :: R) i).take n = [(w.clip (rangeN P i)).1] := by
    rw [e1] at hT ⊢
    cases n with
    | zero => exact absurd rfl hT
    | succ n => rw [List.take_succ_cons, List.take_nil]
   refine .wipe w R rfl hk hw.1 hw.2 e2 ?_
   rw [e2]
   have hst : (w.clip (rangeN P i)).1.stamp = w.stamp := clip_stamp hw.2
   rw [show w :: R = [w] ++ R from rfl, rest_append, rest_keep (l := R) fun m hm h => ?_]
   ·congr 1
    unfold restN leftN
    by_cases h : (withoutN w (rangeN P i)).2 = true
    ·rw [if_pos h]; simp [hst, hk, h]
    ·rw [if_neg h]; simp [hst, hk, h]
   ·have := (List.pairwise_cons.1 hs).1 m hm
    simp [hst] at h
    omega
 ·obtain ⟨q, hq⟩ := take_filter (fun m : Msg => decide (routeN P m.key = i)) F n
  have hRF : ∀ m ∈ F, m.R := fun m h => hR m (List.mem_append_left _ h)
  have hfor : ∀ (G : List Msg), (∀ m ∈ G, m ∈ F) → G.filterMap (forF P i) = G.filter fun m => decide (routeN P m.key = i) := fun G => by
   induction G with
   | nil => intro _; rfl
   | cons m G ih =>
    intro hG
    have hmF := hG m (by simp)
    have hc := point_clip (hRF m hmF) (hF m hmF) (rangeN P i)
    rw [range_has hP _ hi] at hc
    rw [List.filterMap_cons, ih fun x hx => hG x (List.mem_cons_of_mem _ hx)]
    by_cases e : routeN P m.key = i
    ·have h2 : (m.clip (rangeN P i)).2 = true := by rw [hc.1, decide_eq_true e.symm]
     rw [show forF P i m = some m from (if_pos ⟨by omega, h2⟩).trans (congrArg some (hc.2 h2)), List.filter_cons_of_pos (by simp [e])]
    ·rw [show forF P i m = none from if_neg fun h => e (by omega), List.filter_cons_of_neg (by simp [e])]
  have hT : (forN P (F ++ R) i).take n = (F.take q).filter fun m => decide (routeN P m.key = i) := by
   unfold forN
   rw [hf, hfor F (fun m h => h), hq]
  refine .points (F.take q) (F.drop q ++ R) (by rw [← List.append_assoc, List.take_append_drop]) (fun m hm => hF m (List.mem_of_mem_take hm)) hT ?_
  rw [hT]
  have hl : F ++ R = F.take q ++ (F.drop q ++ R) := by rw [← List.append_assoc, List.take_append_drop]
  rw [hl] at hs ⊢
  obtain ⟨s1, s2, s3⟩ := rst_app hs
  rw [rest_append, rest_keep (l := F.drop q ++ R) fun m hm h => ?_]
  ·congr 1
   generalize hFq : F.take q = G at *
   have hGF : ∀ m ∈ G, ¬ m.kind = 4 := fun m hm => hF m (by rw [← hFq] at hm; exact List.mem_of_mem_take hm)
   have key : ∀ (H : List Msg), (∀ m ∈ H, m ∈ G) → restN P i (G.filter fun m => decide (routeN P m.key = i)) H = H.filter fun m => !decide (routeN P m.key = i) := fun H => by
    induction H with
    | nil => intro _; rfl
    | cons m H ih =>
     intro hH
     have hmG := hH m (by simp)
     have ih := ih fun x hx => hH x (List.mem_cons_of_mem _ hx)
     unfold restN at ih ⊢
     rw [List.filterMap_cons, ih]
     by_cases e : routeN P m.key = i
     ·have : m.stamp ∈ (G.filter fun m => decide (routeN P m.key = i)).map Msg.stamp := List.mem_map.2 ⟨m, List.mem_filter.2 ⟨hmG, by simp [e]⟩, rfl⟩
      rw [show leftN P i (G.filter fun m => decide (routeN P m.key = i)) m = none from (if_pos this).trans (if_neg fun h => hGF m hmG h.1), List.filter_cons_of_neg (by simp [e])]
     ·have : ¬ m.stamp ∈ (G.filter fun m => decide (routeN P m.key = i)).map Msg.stamp := fun h => by
       obtain ⟨x, hx, hxs⟩ := List.mem_map.1 h
       obtain ⟨hx1, hx2⟩ := List.mem_filter.1 hx
       rw [rst_inj s1 hx1 hmG hxs] at hx2
       simp [e] at hx2
      rw [show leftN P i (G.filter fun m => decide (routeN P m.key = i)) m = some m from if_neg this, List.filter_cons_of_pos (by simp [e])]
   exact key G fun m h => h
  ·obtain ⟨x, hx, hxs⟩ := List.mem_map.1 h
   have := s3 x (List.mem_filter.1 hx).1 m hm
   omega
section
variable {P : List Str} {i : Nat} {l T : List Msg} (hP : rising P = true) (hi : i ≤ P.length) (hm : MsgsR l) (h : Moved P i l T)
include hP hi hm h
theorem Moved.clips_in {s : Span} (hs : ∀ k, s.has k = true → (rangeN P i).has k = true) (hS : ∀ m ∈ l, ∀ k, m.span.has k = true → (rangeN P i).has k = true → s.has k = true) : clips s l = T ++ clips s (restN P i T l) := by
 have hR := (MsgsR.iff.1 hm).1
 cases h with
 | none hT => rw [hT, rest_nil]; rfl
 | wipe w R hl hk hr hc hT hA =>
  subst hl
  have e1 : w.clip s = w.clip (rangeN P i) := clip_same fun k hk => by
   cases h1 : (rangeN P i).has k
   ·cases h2 : s.has k
    ·rfl
    ·rw [hs k h2] at h1; cases h1
   ·exact hS w (by simp) k hk h1
  have e2 : clips s (if (withoutN w (rangeN P i)).2 = true then [(withoutN w (rangeN P i)).1] else []) = [] := by
   by_cases h2 : (withoutN w (rangeN P i)).2 = true
   ·rw [if_pos h2]
    unfold withoutN at h2 ⊢
    by_cases ho : (rangeN P i).opn = true
    ·rw [if_pos ho] at h2; cases h2
    ·rw [if_neg ho] at h2 ⊢
     refine clips_none fun m hm k hk2 => ?_
     rw [List.mem_singleton] at hm
     subst hm
     rw [clip_span h2 hk, meet_has, Bool.and_eq_true] at hk2
     cases h3 : s.has k
     ·rfl
     ·have a1 := (span_has.1 (hs k h3)).2
      have a2 := (span_has.1 hk2.2).1
      rcases a1 with a1 | a1
      ·exact absurd a1 ho
      ·rw [show (⟨(rangeN P i).hi, Str.nil, true⟩ : Span).lo = (rangeN P i).hi from rfl, a1] at a2; cases a2
   ·rw [if_neg h2]; rfl
  rw [hA, clips_append, e2, clips_cons, e1, if_pos hc, hT]; rfl
 | points F R hl hF hT hA =>
  subst hl
  have hRF : ∀ m ∈ F, m.R := fun m h => hR m (List.mem_append_left _ h)
  have key : ∀ (G : List Msg), (∀ m ∈ G, m ∈ F) → clips s G = G.filter (fun m => decide (routeN P m.key = i)) ∧ clips s (G.filter fun m => !decide (routeN P m.key = i)) = [] := fun G => by
   induction G with
   | nil => intro _; exact ⟨rfl, rfl⟩
   | cons m G ih =>
    intro hG
    have hmF := hG m (by simp)
    obtain ⟨i1, i2⟩ := ih fun x hx => hG x (List.mem_cons_of_mem _ hx)
    have hc := point_clip (hRF m hmF) (hF m hmF) s
    have hk : m.span.has m.key = true := by rw [point_span (hRF m hmF) (hF m hmF)]; simp
    have hrg := range_has hP m.key hi
    by_cases e : routeN P m.key = i
    ·have h1 : s.has m.key = true := hS m (List.mem_append_left _ hmF) m.key hk (by rw [hrg, decide_eq_true e.symm])
     rw [h1] at hc
     refine ⟨?_, by rw [List.filter_cons_of_neg (by simp [e])]; exact i2⟩
     rw [clips_cons, if_pos hc.1, hc.2 hc.1, i1, List.filter_cons_of_pos (by simp [e])]
    ·have h1 : s.has m.key = false := by
      cases h1 : s.has m.key
      ·rfl
      ·have := hs _ h1; rw [hrg, decide_eq_true_eq] at this; exact absurd this.symm e
     rw [h1] at hc
     refine ⟨?_, ?_⟩
     ·rw [clips_cons, if_neg (by simp [hc.1]), i1, List.filter_cons_of_neg (by simp [e])]
     ·rw [List.filter_cons_of_pos (by simp [e]), clips_cons, if_neg (by simp [hc.1]), i2]
  obtain ⟨k1, k2⟩ := key F fun m h => h
  rw [hA, clips_append, clips_append, k1, k2, hT]; rfl
theorem Moved.clips_out {t : Span} (ht : ∀ k, t.has k = true → (rangeN P i).has k = false) : clips t (restN P i T l) = clips t l := by
 have hR := (MsgsR.iff.1 hm).1
 cases h with
 | none hT => rw [hT, rest_nil]
 | wipe w R hl hk hr hc hT hA =>
  subst hl
  rw [hA, clips_append, clips_cons]
  have hwk : (rangeN P i).has w.key = true := by rw [range_has hP _ hi, decide_eq_true hr.symm]
  have hlo : ∀ k, w.span.has k = true → k.lt (rangeN P i).lo = false := fun k h1 => by
   have hsp : w.span = ⟨w.key, w.hi, w.opn⟩ := by unfold Msg.span; rw [if_pos hk]
   rw [hsp] at h1
   have a1 := (span_has.1 h1).1
   have a2 := (span_has.1 hwk).1
   exact Str.le_trans a2 a1
  have e2 : clips t (if (withoutN w (rangeN P i)).2 = true then [(withoutN w (rangeN P i)).1] else []) = if (w.clip t).2 = true then [(w.clip t).1] else [] := by
   unfold withoutN
   by_cases ho : (rangeN P i).opn = true
   ·rw [if_pos ho, if_neg (by simp), if_neg]
    ·rfl
    ·rw [clip_no.2 (empty_iff.2 fun k => by
      rw [meet_has]
      cases h1 : w.span.has k
      ·rfl
      ·cases h2 : t.has k
       ·rfl
       ·have := ht k h2
        rw [span_has.2 ⟨hlo k h1, .inl ho⟩] at this; cases this)]
     simp
   ·rw [if_neg ho]
    have e := clipG (m := w) (s := t) (t := ⟨(rangeN P i).hi, Str.nil, true⟩) fun k h1 h2 => by
     refine span_has.2 ⟨?_, .inl rfl⟩
     show k.lt (rangeN P i).hi = false
     cases h3 : k.lt (rangeN P i).hi
     ·rfl
     ·have := ht k h2
      rw [span_has.2 ⟨hlo k h1, .inr h3⟩] at this; cases this
    cases h2 : (w.clip ⟨(rangeN P i).hi, Str.nil, true⟩).2
    ·rw [h2, if_neg (by simp)] at e
     rw [← e, if_neg (by simp), if_neg (by simp)]; rfl
    ·rw [h2, if_pos rfl] at e
     rw [if_pos rfl, clips_cons, e]; rfl
  rw [e2]
  by_cases h2 : (w.clip t).2 = true
  ·rw [if_pos h2, if_pos h2]; rfl
  ·rw [if_neg h2, if_neg h2]; rfl
 | points F R hl hF hT hA =>
  subst hl
  have hRF : ∀ m ∈ F, m.R := fun m h => hR m (List.mem_append_left _ h)
  rw [hA, clips_append, clips_append]
  congr 1
  have key : ∀ (G : List Msg), (∀ m ∈ G, m ∈ F) → clips t (G.filter fun m => !decide (routeN P m.key = i)) = clips t G := fun G => by
   induction G with
   | nil => intro _; rfl
   | cons m G ih =>
    intro hG
    have hmF := hG m (by simp)
    have ih := ih fun x hx => hG x (List.mem_cons_of_mem _ hx)
    have hc := point_clip (hRF m hmF) (hF m hmF) t
    by_cases e : routeN P m.key = i
    ·have h1 : t.has m.key = false := by
      cases h1 : t.has m.key
      ·rfl
      ·have := ht _ h1; rw [range_has hP _ hi, decide_eq_false_iff_not] at this; exact absurd e.symm this
     rw [h1] at hc
     rw [List.filter_cons_of_neg (by simp [e]), ih, clips_cons, if_neg (by simp [hc.1])]
    ·rw [List.filter_cons_of_pos (by simp [e]), clips_cons, clips_cons, ih]
  exact key F fun m h => h
end
end Go.Fw

namespace Go.Fw
open Go Go.RowKit
variable {c : Cfg} {l : List Nd} {ss : List Seat}
def Wst (l : List Msg) : Prop := l.Pairwise fun a b => a.stamp ≤ b.stamp
def ptS (k : Str) : Span := ⟨k, k.next, false⟩
structure Gp (l : List Nd) (ss : List Seat) (k : Str) (x : Seat) (W : List Msg) : Prop where
 mem : x ∈ ss
 has : x.s.has k = true
 wst : Wst W
 eq : clips (ptS k) W = clips (ptS k) x.ms
 fit : ∀ m ∈ W, m.R
 len : W.length ≤ 1024 * ((rootS l 0).n.level - x.n.level).toNat
theorem tree_len {most : Int} (h : treeN c l most = true) : (l.length : Int) ≤ most := by
 unfold treeN at h
 rw [Bool.and_eq_true, decide_eq_true_eq] at h
 exact h.1.2.2.1.1
section
variable {α : Type} {E : Env} {f : Fr} {G : GH} {M Mk Ms Mr : MH} {ops rest : List Oper} {q : Bool} {K : Kt} {d : Nat} {ty : TypeId} {pos : String} {aft : Array Edge} {t et : TypeId} {x y kk : Operand} {b : Nat} {k : Int} {m : List (Int × α)} {V : VEnc α}
end
end Go.Fw

namespace Go.Fw
open Go Go.RowKit
def roomB (bud : Int) (ms : List Msg) (m : Msg) : Bool := decide (m.size ≤ bud - sizesN ms) && (ms.getLast?.all fun x => decide (x.stamp < m.stamp))
def addsN (bud : Int) : List Msg → List Msg → Nat
 | _, [] => 0
 | ms, m :: l => if roomB bud ms m = true then addsN bud (ms ++ [m]) l + 1 else 0
def movedN (leaf bud : Int) (k : Nd) (l : List Msg) : Nd × Nat :=
 if k.level = 0 then ({ k with rows := (drainN leaf k.rows l).1 }, (drainN leaf k.rows l).2) else ({ k with msgs := k.msgs ++ l.take (addsN bud k.msgs l) }, addsN bud k.msgs l)
def KidOf (p k : Nd) (i : Int) : Prop := 1 ≤ p.level ∧ k.level = p.level - 1 ∧ 0 ≤ i ∧ i < (p.kids.length : Int)
instance (p k : Nd) (i : Int) : Decidable (KidOf p k i) := by unfold KidOf; infer_instance
noncomputable def countN (leaf bud : Int) (p k : Nd) (i : Int) : Nat := if KidOf p k i then (movedN leaf bud k (forN p.pivots p.msgs i)).2 else 0
noncomputable def pourN (leaf bud : Int) (p k : Nd) (i : Int) : Nd × Nd × Nat :=
 if countN leaf bud p k i = 0 then (p, k, 0)
 else ({ p with msgs := restN p.pivots i ((forN p.pivots p.msgs i).take (countN leaf bud p k i)) p.msgs },
  { (movedN leaf bud k (forN p.pivots p.msgs i)).1 with seen := (((forN p.pivots p.msgs i).take (countN leaf bud p k i)).getLast?.getD Msg.zero).stamp }, countN leaf bud p k i)
theorem adds_le (bud : Int) : ∀ (l ms : List Msg), addsN bud ms l ≤ l.length
 | [], _ => Nat.le_refl _
 | m :: l, ms => by
  unfold addsN
  split
  ·have := adds_le bud l (ms ++ [m]); simp; omega
  ·omega
theorem moved_le (leaf bud : Int) (k : Nd) (l : List Msg) : (movedN leaf bud k l).2 ≤ l.length := by
 unfold movedN
 split
 ·exact drain_le _ _ _
 ·exact adds_le _ _ _
theorem sizes_app (A B : List Msg) : sizesN (A ++ B) = sizesN A + sizesN B := by simp [sizesN]
theorem adds_size (bud : Int) : ∀ (l ms : List Msg), sizesN ms ≤ bud → sizesN (ms ++ l.take (addsN bud ms l)) ≤ bud
 | [], ms, h => by simpa using h
 | m :: l, ms, h => by
  unfold addsN
  split
  ·rename_i hr
   have hr2 : m.size ≤ bud - sizesN ms := by unfold roomB at hr; rw [Bool.and_eq_true, decide_eq_true_eq] at hr; exact hr.1
   have := adds_size bud l (ms ++ [m]) (by rw [sizes_app]; show _ + (m.size + 0) ≤ _; omega)
   rw [List.append_assoc] at this
   exact this
  ·simpa using h
def Nd.spanN (n : Nd) : Span := if n.top = true then Span.all else Span.norm ⟨Str.nil, n.high, false⟩
theorem spanN_has (n : Nd) (k : Str) : n.spanN.has k = n.has k := by
 unfold Nd.spanN Nd.has
 cases n.top
 ·rw [if_neg (by simp), norm_has]
  unfold Span.has
  simp [Str.nil_le]
 ·rw [if_pos rfl, all_has]; rfl
def kidS (p : Nd) (i : Int) : Span := p.spanN.meet (rangeN p.pivots i)
def MayP (c : Cfg) (p k : Nd) (i : Int) : Prop := (p.R c.fan c.leaf c.bud ∧ k.R c.fan c.leaf c.bud ∧ KidOf p k i) ∧ (k.top = (kidS p i).opn ∧ k.high = (kidS p i).hi) ∧ ∀ j (h : j < p.msgs.length), (p.msgs[j].span.meet (kidS p i)).empty = false → k.seen < p.msgs[j].stamp
instance (c : Cfg) (p k : Nd) (i : Int) : Decidable (MayP c p k i) := by unfold MayP; infer_instance
theorem fits_iff {n : Nd} {m : Msg} (hm : m.R) : (n.top = true ∨ (m.span.opn = false ∧ n.high.lt m.span.hi = false)) ↔ ∀ k, m.span.has k = true → n.has k = true := by
 have hne : m.span.empty = false := by
  cases h : m.span.empty
  ·rfl
  ·have := empty_iff.1 h m.key; rw [Msg.has_key hm] at this; cases this
 have hlo : m.span.opn = true ∨ m.span.lo.lt m.span.hi = true := by
  have := hne; unfold Span.empty at this
  cases h : m.span.opn
  ·right; simpa [h] using this
  ·exact .inl rfl
 constructor
 ·rintro (h | ⟨h1, h2⟩) k hk
  ·unfold Nd.has; rw [h]; rfl
  ·have := (span_has.1 hk).2
   rcases this with h3 | h3
   ·rw [h1] at h3; cases h3
   ·unfold Nd.has; rw [Str.lt_of_lt_of_le h3 h2]; simp
 ·intro h
  cases ht : n.top
  ·right
   have key : ∀ q, m.span.has q = true → q.lt n.high = true := fun q hq => by
    have := h q hq; unfold Nd.has at this; rw [ht] at this; simpa using this
   -- the greater one of two texts
   have mx : m.span.has (if m.span.lo.lt n.high = true then n.high else m.span.lo) = true → False := fun hq => by
    have := key _ hq
    split at this
    ·rw [Str.lt_irrefl] at this; cases this
    ·rename_i h1; exact h1 this
   have hmx : (if m.span.lo.lt n.high = true then n.high else m.span.lo).lt m.span.lo = false := by
    split
    ·rename_i h1; exact Str.lt_asymm h1
    ·exact Str.lt_irrefl _
   cases ho : m.span.opn
   ·refine ⟨rfl, ?_⟩
    cases h2 : n.high.lt m.span.hi
    ·rfl
    ·exfalso
     refine mx (span_has.2 ⟨hmx, .inr ?_⟩)
     split
     ·exact h2
     ·rcases hlo with h3 | h3
      ·rw [ho] at h3; cases h3
      ·exact h3
   ·exact absurd (span_has.2 ⟨hmx, .inl ho⟩) (fun hq => mx hq)
  ·exact .inl rfl
theorem leftN_of {P : List Str} {i : Int} {T : List Msg} {m m' : Msg} (h : leftN P i T m = some m') : m' = m ∨ ((rangeN P i).opn = false ∧ (m.clip ⟨(rangeN P i).hi, Str.nil, true⟩).2 = true ∧ m' = (m.clip ⟨(rangeN P i).hi, Str.nil, true⟩).1) := by
 unfold leftN at h
 split at h
 ·split at h
  ·rename_i h2
   cases h
   right
   have h3 := h2.2
   unfold withoutN at h3 ⊢
   split at h3
   ·cases h3
   ·rename_i h4
    rw [if_neg h4]
    exact ⟨by simpa using h4, h3, rfl⟩
  ·cases h
 ·cases h; exact .inl rfl
theorem leftN_stamp {P : List Str} {i : Int} {T : List Msg} {m m' : Msg} (h : leftN P i T m = some m') : m'.stamp = m.stamp ∧ m'.size = m.size := by
 rcases leftN_of h with rfl | ⟨_, h2, rfl⟩
 ·exact ⟨rfl, rfl⟩
 ·exact ⟨clip_stamp h2, clip_size h2⟩
theorem rest_mem {P : List Str} {i : Int} {T l : List Msg} {m' : Msg} (h : m' ∈ restN P i T l) : ∃ m ∈ l, leftN P i T m = some m' := List.mem_filterMap.1 h
theorem rest_rst {P : List Str} {i : Int} {T l : List Msg} (h : Rst l) : Rst (restN P i T l) := by
 unfold Rst restN
 rw [List.pairwise_filterMap]
 refine List.Pairwise.imp (fun {a b} hab x hx y hy => ?_) h
 have := (leftN_stamp hx).1
 have := (leftN_stamp hy).1
 omega
theorem size_pos (m : Msg) : 0 ≤ m.size := by unfold Msg.size; split <;> omega
theorem rest_size (P : List Str) (i : Int) (T : List Msg) : ∀ (l : List Msg), sizesN (restN P i T l) ≤ sizesN l
 | [] => Int.le_refl _
 | m :: l => by
  have ih := rest_size P i T l
  have hp := size_pos m
  unfold restN at ih ⊢
  rw [List.filterMap_cons]
  have e : sizesN (m :: l) = m.size + sizesN l := by simp [sizesN]
  split
  ·omega
  ·rename_i m' h
   have := (leftN_stamp h).2
   have e2 : ∀ L, sizesN (m' :: L) = m'.size + sizesN L := fun L => by simp [sizesN]
   rw [e2]; omega
theorem rest_R {P : List Str} {i : Int} {T l : List Msg} (hP : ∀ k ∈ P, k.b.size ≤ 16) (hl : ∀ m ∈ l, m.R) {m' : Msg} (h : m' ∈ restN P i T l) : m'.R ∧ ∃ m ∈ l, m'.stamp = m.stamp ∧ ∀ q, m'.span.has q = true → m.span.has q = true := by
 obtain ⟨m, hm, h2⟩ := rest_mem h
 rcases leftN_of h2 with rfl | ⟨_, h3, rfl⟩
 ·exact ⟨hl _ hm, m', hm, rfl, fun q hq => hq⟩
 ·have hr := range_sizes (p := P) (i := i) (n := 16) hP
  exact ⟨clip_R (hl m hm) hr.2 (by show Str.nil.b.size ≤ 16; decide) h3, m, hm, clip_stamp h3, fun q hq => (clip_in (hl m hm) h3 hq).1⟩
theorem last_take {l : List Msg} {n : Nat} (h : 0 < n) (hl : n ≤ l.length) : ∃ x ∈ l.take n, (l.take n).getLast?.getD Msg.zero = x ∧ ∀ y ∈ l.take n, Rst l → y.stamp ≤ x.stamp := by
 obtain ⟨j, rfl⟩ : ∃ j, n = j + 1 := ⟨n - 1, by omega⟩
 have e : l.take (j + 1) = l.take j ++ [l[j]] := List.take_succ_eq_append_getElem (by omega)
 refine ⟨l[j], by rw [e]; exact List.mem_append_right _ (List.mem_singleton.2 rfl), by rw [e, List.getLast?_concat]; rfl, fun y hy hr => ?_⟩
 rw [e, List.mem_append, List.mem_singleton] at hy
 rcases hy with hy | rfl
 ·obtain ⟨q, hq, rfl⟩ := List.getElem_of_mem hy
  rw [List.length_take] at hq
  rw [List.getElem_take]
  have := List.pairwise_iff_getElem.1 hr q j (by omega) (by omega) (by omega)
  omega
 ·omega
structure Poured (c : Cfg) (p k : Nd) (i : Int) (a b : Nd) (T : List Msg) : Prop where
 ne : 0 < T.length
 ea : a = { p with msgs := restN p.pivots i T p.msgs }
 eb : b = { k with rows := b.rows, msgs := b.msgs, seen := b.seen }
 leaf : k.level = 0 → b.msgs = k.msgs ∧ b.rows = foldN k.rows T ∧ (PairsR k.rows → (∀ m ∈ forN p.pivots p.msgs i, m.R) → (k.rows.length : Int) ≤ c.leaf → (b.rows.length : Int) ≤ c.leaf)
 inner : ¬ k.level = 0 → b.rows = k.rows ∧ b.msgs = k.msgs ++ T ∧ (sizesN k.msgs ≤ c.bud → sizesN b.msgs ≤ c.bud)
 seen : b.seen = (T.getLast?.getD Msg.zero).stamp
 take : ∃ n, 0 < n ∧ n ≤ (forN p.pivots p.msgs i).length ∧ T = (forN p.pivots p.msgs i).take n
theorem pour_cases (c : Cfg) (p k : Nd) (i : Int) : (pourN c.leaf c.bud p k i = (p, k, 0)) ∨ (KidOf p k i ∧ ∃ T, Poured c p k i (pourN c.leaf c.bud p k i).1 (pourN c.leaf c.bud p k i).2.1 T ∧ (pourN c.leaf c.bud p k i).2.2 = T.length) := by
 by_cases h : countN c.leaf c.bud p k i = 0
 ·left; unfold pourN; rw [if_pos h]
 ·right
  have hk : KidOf p k i := by
   unfold countN at h
   by_cases hk : KidOf p k i
   ·exact hk
   ·rw [if_neg hk] at h; exact absurd rfl h
  have hc : countN c.leaf c.bud p k i = (movedN c.leaf c.bud k (forN p.pivots p.msgs i)).2 := if_pos hk
  have hle := moved_le c.leaf c.bud k (forN p.pivots p.msgs i)
  rw [← hc] at hle
  refine ⟨hk, (forN p.pivots p.msgs i).take (countN c.leaf c.bud p k i), ?_, by unfold pourN; rw [if_neg h, List.length_take]; show countN c.leaf c.bud p k i = _; omega⟩
  unfold pourN
  rw [if_neg h]
  refine ⟨by rw [List.length_take]; omega, rfl, ?_, fun h0 => ?_, fun h0 => ?_, rfl, _, by omega, hle, rfl⟩
  ·dsimp only
   unfold movedN
   split <;> rfl
  ·have hm : movedN c.leaf c.bud k (forN p.pivots p.msgs i) = ({ k with rows := (drainN c.leaf k.rows (forN p.pivots p.msgs i)).1 }, (drainN c.leaf k.rows (forN p.pivots p.msgs i)).2) := if_pos h0
   rw [hc, hm]
   dsimp only
   refine ⟨rfl, drain_fold _ _ _, fun h1 h2 hl => ?_⟩
   have := drain_len c.leaf (forN p.pivots p.msgs i) k.rows h1 h2
   omega
  ·have hm : movedN c.leaf c.bud k (forN p.pivots p.msgs i) = ({ k with msgs := k.msgs ++ (forN p.pivots p.msgs i).take (addsN c.bud k.msgs (forN p.pivots p.msgs i)) }, addsN c.bud k.msgs (forN p.pivots p.msgs i)) := if_neg h0
   rw [hc, hm]
   exact ⟨rfl, rfl, adds_size _ _ _⟩
theorem for_mem {P : List Str} {l : List Msg} {i : Int} {m : Msg} (h : m ∈ forN P l i) : ∃ a ∈ l, (a.clip (rangeN P i)).2 = true ∧ (a.clip (rangeN P i)).1 = m := by
 obtain ⟨a, ha, h2⟩ := List.mem_filterMap.1 h
 unfold forF at h2
 split at h2
 ·rename_i h3
  cases h2
  refine ⟨a, ?_, h3.2, rfl⟩
  unfold frontN at ha
  split at ha
  ·exact ha
  ·split at ha
   ·exact List.mem_of_mem_take ha
   ·exact List.mem_of_mem_take ha
 ·cases h2
theorem nd_pivots {c : Cfg} {n : Nd} (h : n.R c.fan c.leaf c.bud) : ∀ k ∈ n.pivots, k.b.size ≤ 16 := fun k hk => by
 have h4 := h.2.2.2
 by_cases h0 : n.level = 0
 ·rw [if_pos h0] at h4
  have := h4.1
  have e : n.pivots = [] := List.eq_nil_of_length_eq_zero (by omega)
  rw [e] at hk; cases hk
 ·rw [if_neg h0] at h4
  obtain ⟨j, hj, rfl⟩ := List.getElem_of_mem hk
  exact (h4.2.2.2.2.2.1 j hj).2.1
theorem nd_high {c : Cfg} {n : Nd} (h : n.R c.fan c.leaf c.bud) : n.high.b.size ≤ 16 := by
 cases ht : n.top
 ·exact (h.2.2.1 ht).2.1
 ·rw [(h.2.1 ht).1]; decide
theorem span_sizes {c : Cfg} {n : Nd} (h : n.R c.fan c.leaf c.bud) : n.spanN.lo.b.size ≤ 16 ∧ n.spanN.hi.b.size ≤ 16 := by
 have h1 := nd_high h
 unfold Nd.spanN
 split
 ·exact ⟨by decide, by decide⟩
 ·unfold Span.norm
  split
  ·exact ⟨by decide, by decide⟩
  ·split
   ·exact ⟨by show Str.nil.b.size ≤ 16; decide, by show Str.nil.b.size ≤ 16; decide⟩
   ·exact ⟨by show Str.nil.b.size ≤ 16; decide, h1⟩
theorem kidS_has (p : Nd) (i : Int) (k : Str) : (kidS p i).has k = (p.has k && (rangeN p.pivots i).has k) := by unfold kidS; rw [meet_has, spanN_has]
structure Takes (c : Cfg) (p k : Nd) (i : Int) (T : List Msg) : Prop where
 R : ∀ m ∈ T, m.R
 up : ∀ m ∈ T, k.seen < m.stamp
 sp : ∀ m ∈ T, ∀ q, m.span.has q = true → (kidS p i).has q = true
 rst : Rst T
 late : ∀ m ∈ restN p.pivots i T p.msgs, (m.span.meet (kidS p i)).empty = false → ∀ x ∈ T, x.stamp < m.stamp
 clip : clips (kidS p i) p.msgs = T ++ clips (kidS p i) (restN p.pivots i T p.msgs)
theorem takes_of {c : Cfg} {p k : Nd} {i : Int} {a b : Nd} {T : List Msg} (h : MayP c p k i) (hp : Poured c p k i a b T) : Takes c p k i T := by
 obtain ⟨⟨hpR, hkR, hk⟩, hsp, hst⟩ := h
 obtain ⟨k1, k2, k3, k4⟩ := hk
 have hin : p.innerR c.fan c.bud := by have := hpR.2.2.2; rwa [if_neg (by omega)] at this
 obtain ⟨j, rfl⟩ : ∃ j : Nat, i = j := ⟨i.toNat, by omega⟩
 obtain ⟨hr1, hr2⟩ := rightN_spec hin.2.1
 have hj : j ≤ p.pivots.length := by omega
 have hm := hin.2.2.1
 have hmR := (MsgsR.iff.1 hm).1
 obtain ⟨n, n1, n2, rfl⟩ := hp.take
 have mv := moved_of (P := p.pivots) hr1 hj hm n
 have hs : ∀ q, (kidS p j).has q = true → (rangeN p.pivots j).has q = true := fun q hq => by rw [kidS_has, Bool.and_eq_true] at hq; exact hq.2
 have hfit : ∀ m ∈ p.msgs, ∀ q, m.span.has q = true → p.has q = true := fun m hm' => by
  obtain ⟨x, hx, rfl⟩ := List.getElem_of_mem hm'
  exact (fits_iff (hmR _ hm')).1 (hin.2.2.2.2.2.2 x hx).2
 have hcl := mv.clips_in hr1 hj hm hs fun m hm' q h1 h2 => by rw [kidS_has, hfit m hm' q h1, h2]; rfl
 have hmem : ∀ m ∈ (forN p.pivots p.msgs (j : Int)).take n, ∃ a ∈ p.msgs, (a.clip (kidS p j)).2 = true ∧ (a.clip (kidS p j)).1 = m := fun m hm' => clips_mem (by rw [hcl]; exact List.mem_append_left _ hm')
 have hsz := meet_sizes (span_sizes hpR) (range_sizes (p := p.pivots) (i := (j : Int)) (nd_pivots hpR))
 have hrst := clips_rst (s := kidS p j) (rst_of hm)
 rw [hcl] at hrst
 refine ⟨fun m h => ?_, fun m h => ?_, fun m h q hq => ?_, (rst_app hrst).1, fun m h he x hx => ?_, hcl⟩
 ·obtain ⟨a, ha, h1, rfl⟩ := hmem m h
  exact clip_R (hmR a ha) hsz.1 hsz.2 h1
 ·obtain ⟨a, ha, h1, rfl⟩ := hmem m h
  rw [clip_stamp h1]
  obtain ⟨x, hx, rfl⟩ := List.getElem_of_mem ha
  exact hst x hx (clip_of h1).1
 ·obtain ⟨a, ha, h1, rfl⟩ := hmem m h
  exact (clip_in (hmR a ha) h1 hq).2
 ·have h1 : (m.clip (kidS p j)).2 = true := by
   cases h2 : (m.clip (kidS p j)).2
   ·rw [clip_no.1 h2] at he; cases he
   ·rfl
  have := (rst_app hrst).2.2 x hx (m.clip (kidS p j)).1 (List.mem_filterMap.2 ⟨m, h, if_pos h1⟩)
  rwa [clip_stamp h1] at this
theorem last_of {T : List Msg} (hr : Rst T) (hn : 0 < T.length) : (∃ x ∈ T, T.getLast?.getD Msg.zero = x) ∧ ∀ y ∈ T, y.stamp ≤ (T.getLast?.getD Msg.zero).stamp := by
 obtain ⟨x, h1, h2, h3⟩ := last_take (l := T) hn (Nat.le_refl _)
 rw [List.take_length] at h1 h2 h3
 rw [h2]
 exact ⟨⟨x, h1, rfl⟩, fun y hy => h3 y hy hr⟩
theorem rows_in {X : Span} {l : List Pair} {T : List Msg} (hl : PairsR l) (hT : ∀ m ∈ T, m.R) (h1 : ∀ p ∈ l, X.has p.key = true) (h2 : ∀ m ∈ T, ∀ q, m.span.has q = true → X.has q = true) : ∀ p ∈ foldN l T, X.has p.key = true := by
 induction T generalizing l with
 | nil => exact h1
 | cons m T ih =>
  have hR := hT m (by simp)
  have hR' := hR
  unfold Msg.R at hR'
  refine ih (l := takeN l m) (hl.takeM hR'.1.2.1 hR'.1.2.2.1) (fun x hx => hT x (List.mem_cons_of_mem _ hx)) (fun p hp => ?_) fun x hx => h2 x (List.mem_cons_of_mem _ hx)
  unfold takeN at hp
  split at hp
  ·exact h1 p ((List.mem_filter.1 hp).1)
  ·rw [withN_mid, List.mem_append, List.mem_append] at hp
   rcases hp with (hp | hp) | hp
   ·exact h1 p ((List.mem_filter.1 hp).1)
   ·unfold midN at hp
    split at hp
    ·rw [List.mem_singleton] at hp
     subst hp
     exact h2 m (by simp) _ (Msg.has_key hR)
    ·cases hp
   ·exact h1 p ((List.mem_filter.1 hp).1)
theorem pour_may {c : Cfg} {p k : Nd} {i : Int} {a b : Nd} {T : List Msg} (h : MayP c p k i) (hp : Poured c p k i a b T) : MayP c a b i ∧ k.seen < b.seen := by
 have tk := takes_of h hp
 obtain ⟨⟨hpR, hkR, hk⟩, hsp, hst⟩ := h
 obtain ⟨⟨xl, hxl, exl⟩, hlast⟩ := last_of tk.rst hp.ne
 have hseen : k.seen < b.seen := by rw [hp.seen, exl]; exact tk.up xl hxl
 have hin : p.innerR c.fan c.bud := by have h9 := hk.1; have := hpR.2.2.2; rwa [if_neg (by omega)] at this
 have hmR := (MsgsR.iff.1 hin.2.2.1).1
 have aR : a.R c.fan c.leaf c.bud := by
  rw [hp.ea]
  refine ⟨hpR.1, hpR.2.1, hpR.2.2.1, ?_⟩
  rw [if_neg (show ¬ p.level = 0 by have := hk.1; omega)]
  obtain ⟨h1, h2, h3, h4, h5, h6, h7⟩ := hin
  refine ⟨h1, h2, MsgsR.iff.2 ⟨fun m hm => (rest_R (nd_pivots hpR) hmR hm).1, rest_rst (rst_of h3)⟩, Int.le_trans (rest_size _ _ _ _) h4, h5, h6, fun j hj => ?_⟩
  have hm := List.getElem_mem hj
  obtain ⟨r1, m, hm2, r2, r3⟩ := rest_R (nd_pivots hpR) hmR hm
  obtain ⟨x, hx, rfl⟩ := List.getElem_of_mem hm2
  have f := h7 x hx
  exact ⟨by show _ ≤ p.seen; rw [r2]; exact f.1, (fits_iff (n := { p with msgs := restN p.pivots i T p.msgs }) r1).2 fun q hq => (fits_iff (hmR _ hm2)).1 f.2 q (r3 q hq)⟩
 have hsame : kidS a i = kidS p i := by rw [hp.ea]; rfl
 have hb : b.top = k.top ∧ b.high = k.high ∧ b.level = k.level ∧ b.slot = k.slot ∧ b.right = k.right ∧ b.kids = k.kids ∧ b.pivots = k.pivots := by rw [hp.eb]; exact ⟨rfl, rfl, rfl, rfl, rfl, rfl, rfl⟩
 obtain ⟨b1, b2, b3, b4, b5, b6, b7⟩ := hb
 have kin : ∀ q, (kidS p i).has q = true → k.has q = true := fun q hq => by
  have := (span_has.1 hq).2
  unfold Nd.has
  rw [hsp.1, hsp.2]
  rcases this with h | h <;> simp [h]
 have bR : b.R c.fan c.leaf c.bud := by
  refine ⟨by rw [b3, b4]; have := hkR.1; omega, by rw [b1, b2, b5]; exact hkR.2.1, by rw [b1, b2, b5]; exact hkR.2.2.1, ?_⟩
  have h4 := hkR.2.2.2
  rw [b3]
  by_cases h0 : k.level = 0
  ·rw [if_pos h0] at h4 ⊢
   obtain ⟨e1, e2, e3⟩ := hp.leaf h0
   obtain ⟨l1, l2, l3, l4⟩ := h4
   have hrows : ∀ p ∈ b.rows, (Span.mk Str.nil k.high k.top).has p.key = true := by
    rw [e2]
    refine rows_in l3 tk.R (fun x hx => ?_) fun m hm q hq => ?_
    ·obtain ⟨j, hj, rfl⟩ := List.getElem_of_mem hx
     have := l4 j hj
     unfold Nd.has at this
     unfold Span.has
     simp [Str.nil_le] at this ⊢
     exact this
    ·have := kin q (tk.sp m hm q hq)
     unfold Nd.has at this
     unfold Span.has
     simp [Str.nil_le] at this ⊢
     exact this
   refine ⟨by rw [b7, b6, e1]; exact l1, e3 l3 (fun m hm => ?_) l2, by rw [e2]; exact PairsR.fold l3 fun m hm => msgR_sizes (tk.R m hm), fun j hj => ?_⟩
   ·obtain ⟨x, hx, h2, rfl⟩ := for_mem hm
    have hr := range_sizes (p := p.pivots) (i := i) (nd_pivots hpR)
    exact clip_R (hmR x hx) hr.1 hr.2 h2
   ·have := hrows _ (List.getElem_mem hj)
    unfold Span.has at this
    unfold Nd.has
    rw [b1, b2]
    simp [Str.nil_le] at this ⊢
    exact this
  ·rw [if_neg h0] at h4 ⊢
   obtain ⟨e1, e2, e3⟩ := hp.inner h0
   obtain ⟨l1, l2, l3, l4, l5, l6, l7⟩ := h4
   have hkm := (MsgsR.iff.1 l3).1
   have hold : ∀ m ∈ k.msgs, m.stamp ≤ k.seen := fun m hm => by
    obtain ⟨x, hx, rfl⟩ := List.getElem_of_mem hm
    exact (l7 x hx).1
   refine ⟨by rw [e1, b6]; exact l1, by rw [b6, b7]; exact l2, ?_, e3 l4, by rw [b6]; exact l5, fun j hj => ?_, fun j hj => ?_⟩
   ·rw [e2]
    refine MsgsR.iff.2 ⟨fun m hm => ?_, List.pairwise_append.2 ⟨rst_of l3, tk.rst, fun x hx y hy => ?_⟩⟩
    ·rcases List.mem_append.1 hm with hm | hm
     ·exact hkm m hm
     ·exact tk.R m hm
    ·have := hold x hx
     have := tk.up y hy
     omega
   ·have hh : b.has b.pivots[j] = k.has b.pivots[j] := by unfold Nd.has; rw [b1, b2]
    obtain ⟨q1, q2, q3⟩ := l6 j (by rw [← b7]; exact hj)
    have eb : b.pivots[j] = k.pivots[j]'(by rw [← b7]; exact hj) := by simp only [b7]
    exact ⟨by rw [eb]; exact q1, by rw [eb]; exact q2, by rw [hh, eb]; exact q3⟩
   ·have hm := List.getElem_mem hj
    have hbm : ∀ m ∈ b.msgs, b.fits m := fun m hm => by
     rw [e2] at hm
     rcases List.mem_append.1 hm with hm | hm
     ·obtain ⟨x, hx, rfl⟩ := List.getElem_of_mem hm
      have f := l7 x hx
      exact ⟨by have := f.1; omega, by rw [b1, b2]; exact f.2⟩
     ·refine ⟨by rw [hp.seen]; exact hlast m hm, ?_⟩
      rw [b1, b2]
      exact (fits_iff (n := k) (tk.R m hm)).2 fun q hq => kin q (tk.sp m hm q hq)
    exact hbm _ hm
 refine ⟨⟨⟨aR, bR, by rw [hp.ea]; unfold KidOf; rw [b3]; exact hk⟩, ⟨by rw [hsame, b1]; exact hsp.1, by rw [hsame, b2]; exact hsp.2⟩, fun j hj he => ?_⟩, hseen⟩
 rw [hsame] at he
 have e : a.msgs = restN p.pivots i T p.msgs := by rw [hp.ea]
 have hm : a.msgs[j] ∈ restN p.pivots i T p.msgs := by rw [← e]; exact List.getElem_mem hj
 rw [hp.seen, exl]
 exact tk.late _ hm he xl hxl
end Go.Fw
