/- Messages that are moved on from a node to its kid. Plain Lean; nothing of the program is named here. No condition. -/
import Derived.Test.YtcngningbcaggaaQkNu
set_option linter.unusedVariables false
set_option linter.unusedSimpArgs false
set_option linter.unnecessarySimpa false

namespace Go.Fw
open Go Go.RowKit
def isW (m : Msg) : Bool := decide (m.kind = 4)
def frontN (l : List Msg) : List Msg := if idxN isW l = -1 then l else if idxN isW l = 0 then l.take 1 else l.take (idxN isW l).toNat
def forF (P : List Str) (i : Int) (m : Msg) : Option Msg := if ((routeN P m.key : Nat) : Int) = i ∧ (m.clip (rangeN P i)).2 = true then some (m.clip (rangeN P i)).1 else none
def forN (P : List Str) (l : List Msg) (i : Int) : List Msg := (frontN l).filterMap (forF P i)
def Msg.zero : Msg := ⟨0, 0, Str.nil, Str.nil, false, Str.nil⟩
def withoutN (m : Msg) (s : Span) : Msg × Bool := if s.opn = true then (Msg.zero, false) else m.clip ⟨s.hi, Str.nil, true⟩
def leftN (P : List Str) (i : Int) (T : List Msg) (m : Msg) : Option Msg :=
 if m.stamp ∈ T.map Msg.stamp then (if m.kind = 4 ∧ (withoutN m (rangeN P i)).2 = true then some (withoutN m (rangeN P i)).1 else none) else some m
def restN (P : List Str) (i : Int) (T : List Msg) (l : List Msg) : List Msg := l.filterMap (leftN P i T)
theorem rest_append (P : List Str) (i : Int) (T A B : List Msg) : restN P i T (A ++ B) = restN P i T A ++ restN P i T B := List.filterMap_append
theorem rest_keep {P : List Str} {i : Int} {T : List Msg} : ∀ {l : List Msg}, (∀ m ∈ l, ¬ m.stamp ∈ T.map Msg.stamp) → restN P i T l = l
 | [], _ => rfl
 | m :: l, h => by
  have ih := rest_keep (P := P) (i := i) (T := T) (l := l) fun x hx => h x (List.mem_cons_of_mem _ hx)
  unfold restN at ih ⊢
  rw [List.filterMap_cons, show leftN P i T m = some m from if_neg (h m (by simp)), ih]
theorem rest_nil (P : List Str) (i : Int) (l : List Msg) : restN P i [] l = l := rest_keep fun m _ h => by cases h
theorem clipG {m : Msg} {s t : Span} (hst : ∀ k, m.span.has k = true → s.has k = true → t.has k = true) : (if (m.clip t).2 = true then (m.clip t).1.clip s else (⟨0, 0, Str.nil, Str.nil, false, Str.nil⟩, false)) = m.clip s := by
 cases h : (m.clip t).2
 ·rw [if_neg (by simp)]
  have h1 := clip_no.1 h
  have h2 : (m.span.meet s).empty = true := empty_iff.2 fun k => by
   have := empty_iff.1 h1 k
   rw [meet_has] at this ⊢
   cases hm : m.span.has k
   ·rfl
   ·rw [hm, Bool.true_and] at this
    cases hs : s.has k
    ·rfl
    ·rw [hst k hm hs] at this; cases this
  rw [clip_e h2]
 ·rw [if_pos rfl]
  by_cases k : m.kind = 4
  ·have hs := clip_span h k
   have k2 : (m.clip t).1.kind = 4 := by rw [(clip_of h).2, if_pos k]; exact k
   have e : (m.span.meet t).meet s = m.span.meet s := meet_ext fun q => by
    rw [meet_has]
    cases hm : m.span.has q
    ·simp
    ·cases hs : s.has q
     ·simp
     ·rw [hst q hm hs]; simp
   cases he : (m.span.meet s).empty
   ·rw [clip_4 (by rw [hs, e]; exact he) k2, clip_4 he k, hs, e, (clip_of h).2, if_pos k]
   ·rw [clip_e (by rw [hs, e]; exact he), clip_e he]
  ·rw [(clip_of h).2, if_neg k]
theorem clip_same {m : Msg} {s t : Span} (h : ∀ k, m.span.has k = true → s.has k = t.has k) : m.clip s = m.clip t := by
 have e : m.span.meet s = m.span.meet t := meet_ext fun k => by
  cases hm : m.span.has k
  ·rfl
  ·rw [h k hm]
 unfold Msg.clip
 rw [e]
theorem clips_none {s : Span} : ∀ {l : List Msg}, (∀ m ∈ l, ∀ k, m.span.has k = true → s.has k = false) → clips s l = []
 | [], _ => rfl
 | m :: l, h => by
  rw [clips_cons, if_neg, clips_none fun x hx => h x (List.mem_cons_of_mem _ hx)]
  rw [clip_no.2 (empty_iff.2 fun k => by
   rw [meet_has]
   cases hm : m.span.has k
   ·rfl
   ·rw [h m (by simp) k hm]; rfl)]
  simp
theorem point_span {m : Msg} (hR : m.R) (h : ¬ m.kind = 4) (k : Str) : m.span.has k = decide (k = m.key) := by
 have : m.span = ⟨m.key, m.key.next, false⟩ := by unfold Msg.span; rw [if_neg h]
 rw [this, point_has (by have := hR.1.2.1; omega)]
theorem point_clip {m : Msg} (hR : m.R) (h : ¬ m.kind = 4) (s : Span) : (m.clip s).2 = s.has m.key ∧ ((m.clip s).2 = true → (m.clip s).1 = m) := by
 refine ⟨?_, fun h2 => by rw [(clip_of h2).2, if_neg h]⟩
 cases h2 : (m.clip s).2
 ·have := empty_iff.1 (clip_no.1 h2) m.key
  rw [meet_has, point_span hR h, decide_eq_true rfl, Bool.true_and] at this
  exact this.symm
 ·cases h3 : s.has m.key
  ·exfalso
   have : (m.clip s).2 = false := clip_no.2 (empty_iff.2 fun k => by
    rw [meet_has, point_span hR h]
    by_cases e : k = m.key
    ·rw [e, h3]; simp
    ·simp [e])
   rw [this] at h2; cases h2
  ·rfl
theorem take_filter {α : Type} (g : α → Bool) : ∀ (F : List α) (n : Nat), ∃ q, (F.take q).filter g = (F.filter g).take n
 | [], n => ⟨0, by simp⟩
 | a :: F, 0 => ⟨0, by simp⟩
 | a :: F, n + 1 => by
  cases h : g a
  ·obtain ⟨q, hq⟩ := take_filter g F (n + 1)
   exact ⟨q + 1, by rw [List.take_succ_cons, List.filter_cons_of_neg (by simp [h]), List.filter_cons_of_neg (by simp [h]), hq]⟩
  ·obtain ⟨q, hq⟩ := take_filter g F n
   exact ⟨q + 1, by rw [List.take_succ_cons, List.filter_cons_of_pos h, List.filter_cons_of_pos h, hq, List.take_succ_cons]⟩
theorem front_cases (l : List Msg) : (∃ w R, l = w :: R ∧ w.kind = 4 ∧ frontN l = [w]) ∨ ∃ F R, l = F ++ R ∧ frontN l = F ∧ ∀ m ∈ F, ¬ m.kind = 4 := by
 rcases idxN_cases isW l with ⟨h, h2⟩ | ⟨k, hk, h, h2, h3⟩
 ·refine .inr ⟨l, [], by simp, by unfold frontN; rw [if_pos h], fun m hm e => ?_⟩
  have := h2 m hm
  simp [isW, e] at this
 ·cases k with
  | zero =>
   left
   match l, hk with
   | w :: R, _ => exact ⟨w, R, rfl, by simpa [isW] using h2, by unfold frontN; rw [if_neg (by rw [h]; decide), if_pos (by rw [h]; rfl)]; rfl⟩
  | succ k =>
   right
   refine ⟨l.take (k + 1), l.drop (k + 1), (List.take_append_drop _ _).symm, by unfold frontN; rw [if_neg (by rw [h]; omega), if_neg (by rw [h]; omega), h]; rfl, fun m hm e => ?_⟩
   obtain ⟨j, hj, rfl⟩ := List.getElem_of_mem hm
   rw [List.length_take] at hj
   rw [List.getElem_take] at e
   have := h3 j om9 om9
   simp [isW, e] at this
theorem rst_of {l : List Msg} (h : MsgsR l) : Rst l := (MsgsR.iff.1 h).2
inductive Moved (P : List Str) (i : Nat) (l T : List Msg) : Prop
 | none (hT : T = []) : Moved P i l T
 | wipe (w : Msg) (R : List Msg) (hl : l = w :: R) (hk : w.kind = 4) (hr : routeN P w.key = i) (hc : (w.clip (rangeN P i)).2 = true) (hT : T = [(w.clip (rangeN P i)).1])
   (hA : restN P i T l = (if (withoutN w (rangeN P i)).2 = true then [(withoutN w (rangeN P i)).1] else []) ++ R) : Moved P i l T
 | points (F R : List Msg) (hl : l = F ++ R) (hF : ∀ m ∈ F, ¬ m.kind = 4) (hT : T = F.filter fun m => decide (routeN P m.key = i)) (hA : restN P i T l = (F.filter fun m => !decide (routeN P m.key = i)) ++ R) : Moved P i l T
theorem rst_app {A B : List Msg} (h : Rst (A ++ B)) : Rst A ∧ Rst B ∧ ∀ a ∈ A, ∀ b ∈ B, a.stamp < b.stamp := List.pairwise_append.1 h
theorem rst_inj : ∀ {l : List Msg}, Rst l → ∀ {a b : Msg}, a ∈ l → b ∈ l → a.stamp = b.stamp → a = b
 | [], _, _, _, ha, _, _ => by cases ha
 | x :: l, h, a, b, ha, hb, e => by
  obtain ⟨h1, h2⟩ := List.pairwise_cons.1 h
  rcases List.mem_cons.1 ha with ea | ha2
  ·rcases List.mem_cons.1 hb with eb | hb2
   ·rw [ea, eb]
   ·have := h1 b hb2; rw [ea] at e; omega
  ·rcases List.mem_cons.1 hb with eb | hb2
   ·have := h1 a ha2; rw [eb] at e; omega
   ·exact rst_inj h2 ha2 hb2 e
theorem moved_of {P : List Str} {i : Nat} {l : List Msg} (hP : rising P = true) (hi : i ≤ P.length) (hm : MsgsR l) (n : Nat) : Moved P i l ((forN P l i).take n) := by
 have hR := (MsgsR.iff.1 hm).1
 have hs := rst_of hm
 rcases front_cases l with ⟨w, R, rfl, hk, hf⟩ | ⟨F, R, rfl, hf, hF⟩
 ·by_cases hT : (forN P (w :: R) i).take n = []
  ·exact .none hT
  ·have e0 : forN P (w :: R) i = (forF P i w).toList := by unfold forN; rw [hf]; cases h : forF P i w <;> simp [h]
   have hw : (routeN P w.key = i) ∧ (w.clip (rangeN P i)).2 = true := by
    by_cases h : ((routeN P w.key : Nat) : Int) = i ∧ (w.clip (rangeN P i)).2 = true
    ·exact ⟨om9, h.2⟩
    ·exact absurd (by rw [e0, show forF P i w = none from if_neg h]; simp) hT
   have e1 : forN P (w :: R) i = [(w.clip (rangeN P i)).1] := by rw [e0, show forF P i w = some _ from if_pos ⟨om9, hw.2⟩]; rfl
   have e2 : (forN P (w :: R) i).take n = [(w.clip (rangeN P i)).1] := by
    rw [e1] at hT ⊢
    cases n with
    | zero => exact absurd rfl hT
    | succ n => rw [List.take_succ_cons, List.take_nil]
   refine .wipe w R rfl hk hw.1 hw.2 e2 ?_
   rw [e2]
   have hst : (w.clip (rangeN P i)).1.stamp = w.stamp := clip_stamp hw.2
   rw [show w :: R = [w] ++ R from rfl, rest_append, rest_keep (l := R) fun m hm h => ?_]
   ·congr 1
    unfold restN leftN
    by_cases h : (withoutN w (rangeN P i)).2 = true
    ·rw [if_pos h]; simp [hst, hk, h]
    ·rw [if_neg h]; simp [hst, hk, h]
   ·have := (List.pairwise_cons.1 hs).1 m hm
    simp [hst] at h
    omega
 ·obtain ⟨q, hq⟩ := take_filter (fun m : Msg => decide (routeN P m.key = i)) F n
  have hRF : ∀ m ∈ F, m.R := fun m h => hR m (List.mem_append_left _ h)
  have hfor : ∀ (G : List Msg), (∀ m ∈ G, m ∈ F) → G.filterMap (forF P i) = G.filter fun m => decide (routeN P m.key = i) := fun G => by
   induction G with
   | nil => intro _; rfl
   | cons m G ih =>
    intro hG
    have hmF := hG m (by simp)
    have hc := point_clip (hRF m hmF) (hF m hmF) (rangeN P i)
    rw [range_has hP _ hi] at hc
    rw [List.filterMap_cons, ih fun x hx => hG x (List.mem_cons_of_mem _ hx)]
    by_cases e : routeN P m.key = i
    ·have h2 : (m.clip (rangeN P i)).2 = true := by rw [hc.1, decide_eq_true e.symm]
     rw [show forF P i m = some m from (if_pos ⟨om9, h2⟩).trans (congrArg some (hc.2 h2)), List.filter_cons_of_pos (by simp [e])]
    ·rw [show forF P i m = none from if_neg fun h => e om9, List.filter_cons_of_neg (by simp [e])]
  have hT : (forN P (F ++ R) i).take n = (F.take q).filter fun m => decide (routeN P m.key = i) := by
   unfold forN
   rw [hf, hfor F (fun m h => h), hq]
  refine .points (F.take q) (F.drop q ++ R) (by rw [← List.append_assoc, List.take_append_drop]) (fun m hm => hF m (List.mem_of_mem_take hm)) hT ?_
  rw [hT]
  have hl : F ++ R = F.take q ++ (F.drop q ++ R) := by rw [← List.append_assoc, List.take_append_drop]
  rw [hl] at hs ⊢
  obtain ⟨s1, s2, s3⟩ := rst_app hs
  rw [rest_append, rest_keep (l := F.drop q ++ R) fun m hm h => ?_]
  ·congr 1
   generalize hFq : F.take q = G at *
   have hGF : ∀ m ∈ G, ¬ m.kind = 4 := fun m hm => hF m (by rw [← hFq] at hm; exact List.mem_of_mem_take hm)
   have key : ∀ (H : List Msg), (∀ m ∈ H, m ∈ G) → restN P i (G.filter fun m => decide (routeN P m.key = i)) H = H.filter fun m => !decide (routeN P m.key = i) := fun H => by
    induction H with
    | nil => intro _; rfl
    | cons m H ih =>
     intro hH
     have hmG := hH m (by simp)
     have ih := ih fun x hx => hH x (List.mem_cons_of_mem _ hx)
     unfold restN at ih ⊢
     rw [List.filterMap_cons, ih]
     by_cases e : routeN P m.key = i
     ·have : m.stamp ∈ (G.filter fun m => decide (routeN P m.key = i)).map Msg.stamp := List.mem_map.2 ⟨m, List.mem_filter.2 ⟨hmG, by simp [e]⟩, rfl⟩
      rw [show leftN P i (G.filter fun m => decide (routeN P m.key = i)) m = none from (if_pos this).trans (if_neg fun h => hGF m hmG h.1), List.filter_cons_of_neg (by simp [e])]
     ·have : ¬ m.stamp ∈ (G.filter fun m => decide (routeN P m.key = i)).map Msg.stamp := fun h => by
       obtain ⟨x, hx, hxs⟩ := List.mem_map.1 h
       obtain ⟨hx1, hx2⟩ := List.mem_filter.1 hx
       rw [rst_inj s1 hx1 hmG hxs] at hx2
       simp [e] at hx2
      rw [show leftN P i (G.filter fun m => decide (routeN P m.key = i)) m = some m from if_neg this, List.filter_cons_of_pos (by simp [e])]
   exact key G fun m h => h
  ·obtain ⟨x, hx, hxs⟩ := List.mem_map.1 h
   have := s3 x (List.mem_filter.1 hx).1 m hm
   omega
section
variable {P : List Str} {i : Nat} {l T : List Msg} (hP : rising P = true) (hi : i ≤ P.length) (hm : MsgsR l) (h : Moved P i l T)
include hP hi hm h
theorem Moved.clips_in {s : Span} (hs : ∀ k, s.has k = true → (rangeN P i).has k = true) (hS : ∀ m ∈ l, ∀ k, m.span.has k = true → (rangeN P i).has k = true → s.has k = true) : clips s l = T ++ clips s (restN P i T l) := by
 have hR := (MsgsR.iff.1 hm).1
 cases h with
 | none hT => rw [hT, rest_nil]; rfl
 | wipe w R hl hk hr hc hT hA =>
  subst hl
  have e1 : w.clip s = w.clip (rangeN P i) := clip_same fun k hk => by
   cases h1 : (rangeN P i).has k
   ·cases h2 : s.has k
    ·rfl
    ·rw [hs k h2] at h1; cases h1
   ·exact hS w (by simp) k hk h1
  have e2 : clips s (if (withoutN w (rangeN P i)).2 = true then [(withoutN w (rangeN P i)).1] else []) = [] := by
   by_cases h2 : (withoutN w (rangeN P i)).2 = true
   ·rw [if_pos h2]
    unfold withoutN at h2 ⊢
    by_cases ho : (rangeN P i).opn = true
    ·rw [if_pos ho] at h2; cases h2
    ·rw [if_neg ho] at h2 ⊢
     refine clips_none fun m hm k hk2 => ?_
     rw [List.mem_singleton] at hm
     subst hm
     rw [clip_span h2 hk, meet_has, Bool.and_eq_true] at hk2
     cases h3 : s.has k
     ·rfl
     ·have a1 := (span_has.1 (hs k h3)).2
      have a2 := (span_has.1 hk2.2).1
      rcases a1 with a1 | a1
      ·exact absurd a1 ho
      ·rw [show (⟨(rangeN P i).hi, Str.nil, true⟩ : Span).lo = (rangeN P i).hi from rfl, a1] at a2; cases a2
   ·rw [if_neg h2]; rfl
  rw [hA, clips_append, e2, clips_cons, e1, if_pos hc, hT]; rfl
 | points F R hl hF hT hA =>
  subst hl
  have hRF : ∀ m ∈ F, m.R := fun m h => hR m (List.mem_append_left _ h)
  have key : ∀ (G : List Msg), (∀ m ∈ G, m ∈ F) → clips s G = G.filter (fun m => decide (routeN P m.key = i)) ∧ clips s (G.filter fun m => !decide (routeN P m.key = i)) = [] := fun G => by
   induction G with
   | nil => intro _; exact ⟨rfl, rfl⟩
   | cons m G ih =>
    intro hG
    have hmF := hG m (by simp)
    obtain ⟨i1, i2⟩ := ih fun x hx => hG x (List.mem_cons_of_mem _ hx)
    have hc := point_clip (hRF m hmF) (hF m hmF) s
    have hk : m.span.has m.key = true := by rw [point_span (hRF m hmF) (hF m hmF)]; simp
    have hrg := range_has hP m.key hi
    by_cases e : routeN P m.key = i
    ·have h1 : s.has m.key = true := hS m (List.mem_append_left _ hmF) m.key hk (by rw [hrg, decide_eq_true e.symm])
     rw [h1] at hc
     refine ⟨?_, by rw [List.filter_cons_of_neg (by simp [e])]; exact i2⟩
     rw [clips_cons, if_pos hc.1, hc.2 hc.1, i1, List.filter_cons_of_pos (by simp [e])]
    ·have h1 : s.has m.key = false := by
      cases h1 : s.has m.key
      ·rfl
      ·have := hs _ h1; rw [hrg, decide_eq_true_eq] at this; exact absurd this.symm e
     rw [h1] at hc
     refine ⟨?_, ?_⟩
     ·rw [clips_cons, if_neg (by simp [hc.1]), i1, List.filter_cons_of_neg (by simp [e])]
     ·rw [List.filter_cons_of_pos (by simp [e]), clips_cons, if_neg (by simp [hc.1]), i2]
  obtain ⟨k1, k2⟩ := key F fun m h => h
  rw [hA, clips_append, clips_append, k1, k2, hT]; rfl
theorem Moved.clips_out {t : Span} (ht : ∀ k, t.has k = true → (rangeN P i).has k = false) : clips t (restN P i T l) = clips t l := by
 have hR := (MsgsR.iff.1 hm).1
 cases h with
 | none hT => rw [hT, rest_nil]
 | wipe w R hl hk hr hc hT hA =>
  subst hl
  rw [hA, clips_append, clips_cons]
  have hwk : (rangeN P i).has w.key = true := by rw [range_has hP _ hi, decide_eq_true hr.symm]
  have hlo : ∀ k, w.span.has k = true → k.lt (rangeN P i).lo = false := fun k h1 => by
   have hsp : w.span = ⟨w.key, w.hi, w.opn⟩ := by unfold Msg.span; rw [if_pos hk]
   rw [hsp] at h1
   have a1 := (span_has.1 h1).1
   have a2 := (span_has.1 hwk).1
   exact Str.le_trans a2 a1
  have e2 : clips t (if (withoutN w (rangeN P i)).2 = true then [(withoutN w (rangeN P i)).1] else []) = if (w.clip t).2 = true then [(w.clip t).1] else [] := by
   unfold withoutN
   by_cases ho : (rangeN P i).opn = true
   ·rw [if_pos ho, if_neg (by simp), if_neg]
    ·rfl
    ·rw [clip_no.2 (empty_iff.2 fun k => by
      rw [meet_has]
      cases h1 : w.span.has k
      ·rfl
      ·cases h2 : t.has k
       ·rfl
       ·have := ht k h2
        rw [span_has.2 ⟨hlo k h1, .inl ho⟩] at this; cases this)]
     simp
   ·rw [if_neg ho]
    have e := clipG (m := w) (s := t) (t := ⟨(rangeN P i).hi, Str.nil, true⟩) fun k h1 h2 => by
     refine span_has.2 ⟨?_, .inl rfl⟩
     show k.lt (rangeN P i).hi = false
     cases h3 : k.lt (rangeN P i).hi
     ·rfl
     ·have := ht k h2
      rw [span_has.2 ⟨hlo k h1, .inr h3⟩] at this; cases this
    cases h2 : (w.clip ⟨(rangeN P i).hi, Str.nil, true⟩).2
    ·rw [h2, if_neg (by simp)] at e
     rw [← e, if_neg (by simp), if_neg (by simp)]; rfl
    ·rw [h2, if_pos rfl] at e
     rw [if_pos rfl, clips_cons, e]; rfl
  rw [e2]
  by_cases h2 : (w.clip t).2 = true
  ·rw [if_pos h2, if_pos h2]; rfl
  ·rw [if_neg h2, if_neg h2]; rfl
 | points F R hl hF hT hA =>
  subst hl
  have hRF : ∀ m ∈ F, m.R := fun m h => hR m (List.mem_append_left _ h)
  rw [hA, clips_append, clips_append]
  congr 1
  have key : ∀ (G : List Msg), (∀ m ∈ G, m ∈ F) → clips t (G.filter fun m => !decide (routeN P m.key = i)) = clips t G := fun G => by
   induction G with
   | nil => intro _; rfl
   | cons m G ih =>
    intro hG
    have hmF := hG m (by simp)
    have ih := ih fun x hx => hG x (List.mem_cons_of_mem _ hx)
    have hc := point_clip (hRF m hmF) (hF m hmF) t
    by_cases e : routeN P m.key = i
    ·have h1 : t.has m.key = false := by
      cases h1 : t.has m.key
      ·rfl
      ·have := ht _ h1; rw [range_has hP _ hi, decide_eq_false_iff_not] at this; exact absurd e.symm this
     rw [h1] at hc
     rw [List.filter_cons_of_neg (by simp [e]), ih, clips_cons, if_neg (by simp [hc.1])]
    ·rw [List.filter_cons_of_pos (by simp [e]), clips_cons, clips_cons, ih]
  exact key F fun m h => h
end
variable {c : Cfg} {l : List Nd} {ss : List Seat}
def Wst (l : List Msg) : Prop := l.Pairwise fun a b => a.stamp ≤ b.stamp
theorem Rst.wst {l : List Msg} (h : Rst l) : Wst l := h.imp fun h => Int.le_of_lt h
theorem merge_wst : ∀ (n : Nat) (C : Ls), totN C = n → (∀ L ∈ C, Wst L) → Wst (mergeN C) := by
 intro n
 induction n with
 | zero =>
  intro C h _
  rcases best_or C with h1 | ⟨b, hb⟩
  ·rw [merge_nil h1]; exact List.Pairwise.nil
  ·have := totN_set hb; omega
 | succ n ih =>
  intro C h hC
  rcases best_or C with h1 | ⟨b, hb⟩
  ·rw [merge_nil h1]; exact List.Pairwise.nil
  ·rw [merge_step hb]
   refine List.pairwise_cons.2 ⟨fun m hm => ?_, ih _ (by have := totN_set hb; omega) ?_⟩
   ·have hm2 : m ∈ C.flatten := (flat_best hb).mem_iff.1 (List.mem_cons_of_mem _ ((merge_perm _ _ rfl).mem_iff.1 hm))
    obtain ⟨L, hL, hmL⟩ := List.mem_flatten.1 hm2
    obtain ⟨j, hj, rfl⟩ := List.getElem_of_mem hL
    obtain ⟨q, hq, rfl⟩ := List.getElem_of_mem hmL
    have h3 := (hb.min j hj om9).1
    rw [stN_at hb.ne, stN_at (show 0 < C[j].length by omega)] at h3
    have h4 : (C[j][0]'om9).stamp ≤ C[j][q].stamp := by
     by_cases e0 : q = 0
     ·subst e0; exact Int.le_refl _
     ·exact List.pairwise_iff_getElem.1 (hC _ (List.getElem_mem hj)) 0 q om9 hq om9
    omega
   ·intro L hL
    rcases List.mem_or_eq_of_mem_set hL with h | h
    ·exact hC _ h
    ·subst h; exact List.Pairwise.sublist (List.drop_sublist _ _) (hC _ (List.getElem_mem _))
theorem clips_wst {s : Span} {A : List Msg} (h : Wst A) : Wst (clips s A) := by
 unfold Wst clips
 rw [List.pairwise_filterMap]
 refine List.Pairwise.imp (fun {a b} hab x hx y hy => ?_) h
 split at hx
 ·split at hy
  ·rename_i h1 h2
   cases hx; cases hy
   rw [clip_stamp h1, clip_stamp h2]; exact hab
  ·cases hy
 ·cases hx
theorem wst_eq : ∀ {A B : List Msg}, Wst A → Rst B → A.Perm B → A = B
 | [], B, _, _, h => h.symm.eq_nil.symm ▸ rfl
 | a :: A, [], _, _, h => absurd h.length_eq (by simp)
 | a :: A, b :: B, ha, hb, h => by
  have h1 := List.pairwise_cons.1 ha
  have h2 := List.pairwise_cons.1 hb
  have e : a = b := by
   have m1 : a ∈ b :: B := h.mem_iff.1 (by simp)
   have m2 : b ∈ a :: A := h.mem_iff.2 (by simp)
   rcases List.mem_cons.1 m1 with e | m1
   ·exact e
   ·rcases List.mem_cons.1 m2 with e | m2
    ·exact e.symm
    ·have := h2.1 a m1; have := h1.1 b m2; omega
  subst e
  rw [wst_eq h1.2 h2.2 (List.Perm.cons_inv h)]
theorem on_clip {m : Msg} {s : Span} {k : Str} (hk : s.has k = true) : (m.clip s).2 = true → (m.clip s).1.on k = m.on k := fun h => by
 by_cases h4 : m.kind = 4
 ·have h5 := clip_span h h4
  have k2 : (m.clip s).1.kind = 4 := by rw [(clip_of h).2, if_pos h4]; exact h4
  unfold Msg.on
  rw [h5, meet_has, hk, Bool.and_true, k2, h4]; rfl
 ·rw [(clip_of h).2, if_neg h4]
theorem ons_clips {s : Span} {k : Str} (hk : s.has k = true) : ∀ (A : List Msg) (o : Option Str), (clips s A).foldl (fun o m => (m.on k).apply o) o = A.foldl (fun o m => (m.on k).apply o) o
 | [], o => rfl
 | m :: A, o => by
  rw [clips_cons, List.foldl_cons]
  cases h : (m.clip s).2
  ·rw [if_neg (by simp), ons_clips hk A]
   have := empty_iff.1 (clip_no.1 h) k
   rw [meet_has, hk, Bool.and_true] at this
   have e : m.on k = Eff.zero := by unfold Msg.on; rw [if_pos (.inl this)]
   rw [e]; rfl
  ·rw [if_pos rfl, List.foldl_cons, on_clip hk h, ons_clips hk A]
theorem ons_clips' {s : Span} {k : Str} (hk : s.has k = true) (A : List Msg) (o : Option Str) : (onsN (clips s A) k).apply o = (onsN A k).apply o := by
 rw [onsN_apply, onsN_apply, ons_clips hk]
def ptS (k : Str) : Span := ⟨k, k.next, false⟩
theorem pt_in {k : Str} (hk : k.b.size < 140737488355328) {s : Span} (h : s.has k = true) : ∀ q, (ptS k).has q = true → s.has q = true := fun q hq => by
 rw [show (ptS k).has q = decide (q = k) from point_has hk] at hq
 rw [of_decide_eq_true hq]; exact h
structure Gp (l : List Nd) (ss : List Seat) (k : Str) (x : Seat) (W : List Msg) : Prop where
 mem : x ∈ ss
 has : x.s.has k = true
 wst : Wst W
 eq : clips (ptS k) W = clips (ptS k) x.ms
 fit : ∀ m ∈ W, m.R
 len : W.length ≤ 1024 * ((rootS l 0).n.level - x.n.level).toNat
theorem Gp.init (t : Tree c l ss) (k : Str) : Gp l ss k (rootS l 0) [] := ⟨t.root, all_has k, List.Pairwise.nil, rfl, (fun m hm => by cases hm), Nat.zero_le _⟩
theorem Gp.next (t : Tree c l ss) {k : Str} (hk : k.b.size < 140737488355328) {x : Seat} {W : List Msg} (g : Gp l ss k x W) (h0 : ¬ x.n.level ≤ 0) : Gp l ss k (kidSt l x (routeN x.n.pivots k)) (mergeN [x.n.msgs, W]) := by
 have h3 := t.right g.mem h0
 have hj := t.route g.mem h0 k
 have ha := t.at g.mem om9 hj
 have hh : (kidSt l x (routeN x.n.pivots k)).s.has k = true := by rw [kidSt_has h3 hj, g.has]; simp
 have hp := merge_perm _ [x.n.msgs, W] rfl
 have hf : [x.n.msgs, W].flatten = x.n.msgs ++ W := by simp
 rw [hf] at hp
 obtain ⟨q1, q2, q3⟩ := t.msgs g.mem
 have hms := t.kid_ms g.mem (t.rst x g.mem) (routeN x.n.pivots k)
 refine ⟨ha.1, hh, merge_wst _ _ rfl ?_, ?_, fun m hm => ?_, ?_⟩
 ·intro L hL
  simp only [List.mem_cons, List.not_mem_nil, or_false] at hL
  rcases hL with rfl | rfl
  ·exact q1.wst
  ·exact g.wst
 ·have e1 : clips (ptS k) (kidSt l x (routeN x.n.pivots k)).ms = clips (ptS k) (x.n.msgs ++ W) := by
   rw [hms.1, clips_append, clips_append, clips_clips (pt_in hk hh), clips_clips (pt_in hk hh), g.eq]
  refine (wst_eq (clips_wst (merge_wst _ _ rfl ?_)) (clips_rst hms.2) ((clips_perm hp).trans (List.Perm.of_eq e1.symm)))
  intro L hL
  simp only [List.mem_cons, List.not_mem_nil, or_false] at hL
  rcases hL with rfl | rfl
  ·exact q1.wst
  ·exact g.wst
 ·rcases List.mem_append.1 (hp.mem_iff.1 hm) with h | h
  ·exact q2 m h
  ·exact g.fit m h
 ·have h1 := hp.length_eq
  rw [List.length_append] at h1
  have h2 := t.msgs_len g.mem
  have h4 := g.len
  have h5 := t.ms_small x g.mem
  have : ((rootS l 0).n.level - (kidSt l x (routeN x.n.pivots k)).n.level).toNat = ((rootS l 0).n.level - x.n.level).toNat + 1 := om9
  rw [this]; omega
theorem Gp.get (t : Tree c l ss) {k : Str} (hk : k.b.size < 140737488355328) {x : Seat} {W : List Msg} (g : Gp l ss k x W) (h0 : x.n.level = 0) : Eff.apply (onsN W k) (getN x.n.rows k) = getN (mapN l) k := by
 have e := t.leaf_eq g.mem g.has h0
 rw [← t.lookup k, ← e]
 have h : (ptS k).has k = true := (point_has hk).trans (decide_eq_true rfl)
 rw [← ons_clips' h W, ← ons_clips' h x.ms, g.eq]
def WayC (G : GH) (cs : List Value) (s : Span) (ms : List Msg) : Prop := ∃ v, cs = [.string s.lo.b, .string s.hi.b, .bool s.opn, v] ∧ SlR eMsg G v ms
theorem WayC.mono {G G' : GH} {cs : List Value} {s : Span} {ms : List Msg} (hl : Le G G') (h : WayC G cs s ms) : WayC G' cs s ms := by
 obtain ⟨v, h1, h2⟩ := h
 exact ⟨v, h1, h2.mono hl⟩
section
variable {α : Type} {E : Env} {f : Fr} {G : GH} {M Mk Ms Mr : MH} {ops rest : List Oper} {q : Bool} {K : Kt} {d : Nat} {ty : TypeId} {pos : String} {aft : Array Edge} {t et : TypeId} {x y kk : Operand} {b : Nat} {k : Int} {m : List (Int × α)} {V : VEnc α}
theorem W.lookS {z0 mv : Value} {z a : α} (hs : getM m k = some a) (ht : mapIK E.P t = some et) (hz : zvK E.P et = some z0) (hzz : V.R G z0 z) (hm : MpG V G mv m) (hx : ev f x = mv) (hk : ev f kk = .int .i64 k)
  (h : ∀ v, V.R G v a → W E ops.toArray q rest (upd f d (.tuple #[v, .bool true])) G M K) (hd : Nat.blt d E.n = true := by rfl) :
  W E ops.toArray q (⟨some d, .lookup t x kk true, ty, pos, aft, none⟩ :: rest) f G M K := by
 refine W.lookG ht hz hzz hm hx hk (fun v hv => ?_) hd
 rw [hs] at hv ⊢
 exact h v hv
theorem WD.lookS {ops : Array Oper} {fuel : Nat} {listed : Array Bool} (i : Nat) {z0 mv : Value} {z a : α} (hs : getM m k = some a) (ho : ops[i]? = some ⟨some d, .lookup t x kk true, ty, pos, aft, none⟩) (hns : Region.noSelect ops = true) (hf : Region.free .any ops listed i = true)
  (hr : (Region.ready .any ops listed).contains i = true) (ht : mapIK E.P t = some et) (hz : zvK E.P et = some z0) (hzz : V.R G z0 z) (hm : MpG V G mv m) (hx : ev f x = mv) (hk : ev f kk = .int .i64 k)
  (h : ∀ v, V.R G v a → WD E ops fuel (listed.setIfInBounds i true) (upd f d (.tuple #[v, .bool true])) G M Mk K) (hd : Nat.blt d E.n = true := by rfl) : WD E ops (fuel + 1) listed f G M Mk K := by
 obtain ⟨v, h1, h2⟩ := look_gh (E := E) (f := f) (M := Mk) (d := d) (ty := ty) (pos := pos) (aft := aft) (ok := true) ht hz hzz hm hx hk
 rw [hs] at h1 h2
 exact WD.take i ho rfl rfl hns hf hr h2 (h v h1) hd
end
end Go.Fw
