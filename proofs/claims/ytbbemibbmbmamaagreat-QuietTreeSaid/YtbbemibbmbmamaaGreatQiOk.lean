/- Messages that are moved on from a node to its kid. Plain Lean; nothing of the program is named here. No condition. -/
import Derived.Test.YtbbemibbmbmamaaGreatQiNm
set_option linter.unusedVariables false
set_option linter.unusedSimpArgs false
set_option linter.unnecessarySimpa false

namespace Go.Fw
open Go Go.RowKit
def isW (m : Msg) : Bool := decide (m.kind = 4)
def Zk (l : List Msg) : List Msg := if Yf isW l = -1 then l else if Yf isW l = 0 then l.take 1 else l.take (Yf isW l).toNat
def XL (P : List Str) (i : Int) (m : Msg) : Option Msg := if ((Ze P m.key : Nat) : Int) = i ∧ (m.clip (Zf P i)).2 = true then some (m.clip (Zf P i)).1 else none
def Zd (P : List Str) (l : List Msg) (i : Int) : List Msg := (Zk l).filterMap (XL P i)
def Msg.zero : Msg := ⟨0, 0, Str.nil, Str.nil, false, Str.nil⟩
def ZC (m : Msg) (s : Span) : Msg × Bool := if s.opn = true then (Msg.zero, false) else m.clip ⟨s.hi, Str.nil, true⟩
def Xb (P : List Str) (i : Int) (T : List Msg) (m : Msg) : Option Msg :=
 if m.stamp ∈ T.map Msg.stamp then (if m.kind = 4 ∧ (ZC m (Zf P i)).2 = true then some (ZC m (Zf P i)).1 else none) else some m
def ZJ (P : List Str) (i : Int) (T : List Msg) (l : List Msg) : List Msg := l.filterMap (Xb P i T)
theorem Zjz (P : List Str) (i : Int) (T A B : List Msg) : ZJ P i T (A ++ B) = ZJ P i T A ++ ZJ P i T B := List.filterMap_append
theorem ZdW {P : List Str} {i : Int} {T : List Msg} : ∀ {l : List Msg}, (∀ m ∈ l, ¬ m.stamp ∈ T.map Msg.stamp) → ZJ P i T l = l
 | [], _ => rfl
 | m :: l, h => by
  have ih := ZdW (P := P) (i := i) (T := T) (l := l) fun x hx => h x (List.mem_cons_of_mem _ hx)
  unfold ZJ at ih ⊢
  rw [List.filterMap_cons, show Xb P i T m = some m from if_neg (h m (by simp)), ih]
theorem ZfO (P : List Str) (i : Int) (l : List Msg) : ZJ P i [] l = l := ZdW fun m _ h => by cases h
theorem ZpA {m : Msg} {s t : Span} (hst : ∀ k, m.span.has k = true → s.has k = true → t.has k = true) : (if (m.clip t).2 = true then (m.clip t).1.clip s else (⟨0, 0, Str.nil, Str.nil, false, Str.nil⟩, false)) = m.clip s := by
 cases h : (m.clip t).2
 ·rw [if_neg (by simp)]
  have h1 := Jv.1 h
  have h2 : (m.span.meet s).empty = true := YN.2 fun k => by
   have := YN.1 h1 k
   rw [ZH] at this ⊢
   cases hm : m.span.has k
   ·rfl
   ·rw [hm, Bool.true_and] at this
    cases hs : s.has k
    ·rfl
    ·rw [hst k hm hs] at this; cases this
  rw [Zae h2]
 ·rw [if_pos rfl]
  by_cases k : m.kind = 4
  ·have hs := ZbQ h k
   have k2 : (m.clip t).1.kind = 4 := by rw [(Xo h).2, if_pos k]; exact k
   have e : (m.span.meet t).meet s = m.span.meet s := Zfm fun q => by
    rw [ZH]
    cases hm : m.span.has q
    ·simp
    ·cases hs : s.has q
     ·simp
     ·rw [hst q hm hs]; simp
   cases he : (m.span.meet s).empty
   ·rw [Zaf (by rw [hs, e]; exact he) k2, Zaf he k, hs, e, (Xo h).2, if_pos k]
   ·rw [Zae (by rw [hs, e]; exact he), Zae he]
  ·rw [(Xo h).2, if_neg k]
theorem ZpB {m : Msg} {s t : Span} (h : ∀ k, m.span.has k = true → s.has k = t.has k) : m.clip s = m.clip t := by
 have e : m.span.meet s = m.span.meet t := Zfm fun k => by
  cases hm : m.span.has k
  ·rfl
  ·rw [h k hm]
 unfold Msg.clip
 rw [e]
theorem ZjA {s : Span} : ∀ {l : List Msg}, (∀ m ∈ l, ∀ k, m.span.has k = true → s.has k = false) → Zc s l = []
 | [], _ => rfl
 | m :: l, h => by
  rw [Xp, if_neg, ZjA fun x hx => h x (List.mem_cons_of_mem _ hx)]
  rw [Jv.2 (YN.2 fun k => by
   rw [ZH]
   cases hm : m.span.has k
   ·rfl
   ·rw [h m (by simp) k hm]; rfl)]
  simp
theorem ZfP {m : Msg} (hR : m.R) (h : ¬ m.kind = 4) (k : Str) : m.span.has k = decide (k = m.key) := by
 have : m.span = ⟨m.key, m.key.next, false⟩ := by unfold Msg.span; rw [if_neg h]
 rw [this, Zag (by have := hR.1.2.1; omega)]
theorem ZfQ {m : Msg} (hR : m.R) (h : ¬ m.kind = 4) (s : Span) : (m.clip s).2 = s.has m.key ∧ ((m.clip s).2 = true → (m.clip s).1 = m) := by
 refine ⟨?_, fun h2 => by rw [(Xo h2).2, if_neg h]⟩
 cases h2 : (m.clip s).2
 ·have := YN.1 (Jv.1 h2) m.key
  rw [ZH, ZfP hR h, decide_eq_true rfl, Bool.true_and] at this
  exact this.symm
 ·cases h3 : s.has m.key
  ·exfalso
   have : (m.clip s).2 = false := Jv.2 (YN.2 fun k => by
    rw [ZH, ZfP hR h]
    by_cases e : k = m.key
    ·rw [e, h3]; simp
    ·simp [e])
   rw [this] at h2; cases h2
  ·rfl
theorem ZfR {α : Type} (g : α → Bool) : ∀ (F : List α) (n : Nat), ∃ q, (F.take q).filter g = (F.filter g).take n
 | [], n => ⟨0, by simp⟩
 | a :: F, 0 => ⟨0, by simp⟩
 | a :: F, n + 1 => by
  cases h : g a
  ·obtain ⟨q, hq⟩ := ZfR g F (n + 1)
   exact ⟨q + 1, by rw [List.take_succ_cons, List.filter_cons_of_neg (by simp [h]), List.filter_cons_of_neg (by simp [h]), hq]⟩
  ·obtain ⟨q, hq⟩ := ZfR g F n
   exact ⟨q + 1, by rw [List.take_succ_cons, List.filter_cons_of_pos h, List.filter_cons_of_pos h, hq, List.take_succ_cons]⟩
theorem ZpC (l : List Msg) : (∃ w R, l = w :: R ∧ w.kind = 4 ∧ Zk l = [w]) ∨ ∃ F R, l = F ++ R ∧ Zk l = F ∧ ∀ m ∈ F, ¬ m.kind = 4 := by
 rcases ZbO isW l with ⟨h, h2⟩ | ⟨k, hk, h, h2, h3⟩
 ·refine .inr ⟨l, [], by simp, by unfold Zk; rw [if_pos h], fun m hm e => ?_⟩
  have := h2 m hm
  simp [isW, e] at this
 ·cases k with
  | zero =>
   left
   match l, hk with
   | w :: R, _ => exact ⟨w, R, rfl, by simpa [isW] using h2, by unfold Zk; rw [if_neg (by rw [h]; decide), if_pos (by rw [h]; rfl)]; rfl⟩
  | succ k =>
   right
   refine ⟨l.take (k + 1), l.drop (k + 1), (List.take_append_drop _ _).symm, by unfold Zk; rw [if_neg (by rw [h]; omega), if_neg (by rw [h]; omega), h]; rfl, fun m hm e => ?_⟩
   obtain ⟨j, hj, rfl⟩ := List.getElem_of_mem hm
   rw [List.length_take] at hj
   rw [List.getElem_take] at e
   have := h3 j om9 om9
   simp [isW, e] at this
theorem ZdX {l : List Msg} (h : MsgsR l) : Rst l := (MsgsR.iff.1 h).2
inductive Moved (P : List Str) (i : Nat) (l T : List Msg) : Prop
 | none (hT : T = []) : Moved P i l T
 | wipe (w : Msg) (R : List Msg) (hl : l = w :: R) (hk : w.kind = 4) (hr : Ze P w.key = i) (hc : (w.clip (Zf P i)).2 = true) (hT : T = [(w.clip (Zf P i)).1])
   (hA : ZJ P i T l = (if (ZC w (Zf P i)).2 = true then [(ZC w (Zf P i)).1] else []) ++ R) : Moved P i l T
 | points (F R : List Msg) (hl : l = F ++ R) (hF : ∀ m ∈ F, ¬ m.kind = 4) (hT : T = F.filter fun m => decide (Ze P m.key = i)) (hA : ZJ P i T l = (F.filter fun m => !decide (Ze P m.key = i)) ++ R) : Moved P i l T
theorem ZaX {A B : List Msg} (h : Rst (A ++ B)) : Rst A ∧ Rst B ∧ ∀ a ∈ A, ∀ b ∈ B, a.stamp < b.stamp := List.pairwise_append.1 h
theorem ZjB : ∀ {l : List Msg}, Rst l → ∀ {a b : Msg}, a ∈ l → b ∈ l → a.stamp = b.stamp → a = b
 | [], _, _, _, ha, _, _ => by cases ha
 | x :: l, h, a, b, ha, hb, e => by
  obtain ⟨h1, h2⟩ := List.pairwise_cons.1 h
  rcases List.mem_cons.1 ha with ea | ha2
  ·rcases List.mem_cons.1 hb with eb | hb2
   ·rw [ea, eb]
   ·have := h1 b hb2; rw [ea] at e; omega
  ·rcases List.mem_cons.1 hb with eb | hb2
   ·have := h1 a ha2; rw [eb] at e; omega
   ·exact ZjB h2 ha2 hb2 e
theorem ZjC {P : List Str} {i : Nat} {l : List Msg} (hP : ZZ P = true) (hi : i ≤ P.length) (hm : MsgsR l) (n : Nat) : Moved P i l ((Zd P l i).take n) := by
 have hR := (MsgsR.iff.1 hm).1
 have hs := ZdX hm
 rcases ZpC l with ⟨w, R, rfl, hk, hf⟩ | ⟨F, R, rfl, hf, hF⟩
 ·by_cases hT : (Zd P (w :: R) i).take n = []
  ·exact .none hT
  ·have e0 : Zd P (w :: R) i = (XL P i w).toList := by unfold Zd; rw [hf]; cases h : XL P i w <;> simp [h]
   have hw : (Ze P w.key = i) ∧ (w.clip (Zf P i)).2 = true := by
    by_cases h : ((Ze P w.key : Nat) : Int) = i ∧ (w.clip (Zf P i)).2 = true
    ·exact ⟨om9, h.2⟩
    ·exact absurd (by rw [e0, show XL P i w = none from if_neg h]; simp) hT
   have e1 : Zd P (w :: R) i = [(w.clip (Zf P i)).1] := by rw [e0, show XL P i w = some _ from if_pos ⟨om9, hw.2⟩]; rfl
   have e2 : (Zd P (w :: R) i).take n = [(w.clip (Zf P i)).1] := by
    rw [e1] at hT ⊢
    cases n with
    | zero => exact absurd rfl hT
    | succ n => rw [List.take_succ_cons, List.take_nil]
   refine .wipe w R rfl hk hw.1 hw.2 e2 ?_
   rw [e2]
   have hst : (w.clip (Zf P i)).1.stamp = w.stamp := Jh hw.2
   rw [show w :: R = [w] ++ R from rfl, Zjz, ZdW (l := R) fun m hm h => ?_]
   ·congr 1
    unfold ZJ Xb
    by_cases h : (ZC w (Zf P i)).2 = true
    ·rw [if_pos h]; simp [hst, hk, h]
    ·rw [if_neg h]; simp [hst, hk, h]
   ·have := (List.pairwise_cons.1 hs).1 m hm
    simp [hst] at h
    omega
 ·obtain ⟨q, hq⟩ := ZfR (fun m : Msg => decide (Ze P m.key = i)) F n
  have hRF : ∀ m ∈ F, m.R := fun m h => hR m (List.mem_append_left _ h)
  have hfor : ∀ (G : List Msg), (∀ m ∈ G, m ∈ F) → G.filterMap (XL P i) = G.filter fun m => decide (Ze P m.key = i) := fun G => by
   induction G with
   | nil => intro _; rfl
   | cons m G ih =>
    intro hG
    have hmF := hG m (by simp)
    have hc := ZfQ (hRF m hmF) (hF m hmF) (Zf P i)
    rw [Xz hP _ hi] at hc
    rw [List.filterMap_cons, ih fun x hx => hG x (List.mem_cons_of_mem _ hx)]
    by_cases e : Ze P m.key = i
    ·have h2 : (m.clip (Zf P i)).2 = true := by rw [hc.1, decide_eq_true e.symm]
     rw [show XL P i m = some m from (if_pos ⟨om9, h2⟩).trans (congrArg some (hc.2 h2)), List.filter_cons_of_pos (by simp [e])]
    ·rw [show XL P i m = none from if_neg fun h => e om9, List.filter_cons_of_neg (by simp [e])]
  have hT : (Zd P (F ++ R) i).take n = (F.take q).filter fun m => decide (Ze P m.key = i) := by
   unfold Zd
   rw [hf, hfor F (fun m h => h), hq]
  refine .points (F.take q) (F.drop q ++ R) (by rw [← List.append_assoc, List.take_append_drop]) (fun m hm => hF m (List.mem_of_mem_take hm)) hT ?_
  rw [hT]
  have hl : F ++ R = F.take q ++ (F.drop q ++ R) := by rw [← List.append_assoc, List.take_append_drop]
  rw [hl] at hs ⊢
  obtain ⟨s1, s2, s3⟩ := ZaX hs
  rw [Zjz, ZdW (l := F.drop q ++ R) fun m hm h => ?_]
  ·congr 1
   generalize hFq : F.take q = G at *
   have hGF : ∀ m ∈ G, ¬ m.kind = 4 := fun m hm => hF m (by rw [← hFq] at hm; exact List.mem_of_mem_take hm)
   have key : ∀ (H : List Msg), (∀ m ∈ H, m ∈ G) → ZJ P i (G.filter fun m => decide (Ze P m.key = i)) H = H.filter fun m => !decide (Ze P m.key = i) := fun H => by
    induction H with
    | nil => intro _; rfl
    | cons m H ih =>
     intro hH
     have hmG := hH m (by simp)
     have ih := ih fun x hx => hH x (List.mem_cons_of_mem _ hx)
     unfold ZJ at ih ⊢
     rw [List.filterMap_cons, ih]
     by_cases e : Ze P m.key = i
     ·have : m.stamp ∈ (G.filter fun m => decide (Ze P m.key = i)).map Msg.stamp := List.mem_map.2 ⟨m, List.mem_filter.2 ⟨hmG, by simp [e]⟩, rfl⟩
      rw [show Xb P i (G.filter fun m => decide (Ze P m.key = i)) m = none from (if_pos this).trans (if_neg fun h => hGF m hmG h.1), List.filter_cons_of_neg (by simp [e])]
     ·have : ¬ m.stamp ∈ (G.filter fun m => decide (Ze P m.key = i)).map Msg.stamp := fun h => by
       obtain ⟨x, hx, hxs⟩ := List.mem_map.1 h
       obtain ⟨hx1, hx2⟩ := List.mem_filter.1 hx
       rw [ZjB s1 hx1 hmG hxs] at hx2
       simp [e] at hx2
      rw [show Xb P i (G.filter fun m => decide (Ze P m.key = i)) m = some m from if_neg this, List.filter_cons_of_pos (by simp [e])]
   exact key G fun m h => h
  ·obtain ⟨x, hx, hxs⟩ := List.mem_map.1 h
   have := s3 x (List.mem_filter.1 hx).1 m hm
   omega
section
variable {P : List Str} {i : Nat} {l T : List Msg} (hP : ZZ P = true) (hi : i ≤ P.length) (hm : MsgsR l) (h : Moved P i l T)
include hP hi hm h
theorem Moved.clips_in {s : Span} (hs : ∀ k, s.has k = true → (Zf P i).has k = true) (hS : ∀ m ∈ l, ∀ k, m.span.has k = true → (Zf P i).has k = true → s.has k = true) : Zc s l = T ++ Zc s (ZJ P i T l) := by
 have hR := (MsgsR.iff.1 hm).1
 cases h with
 | none hT => rw [hT, ZfO]; rfl
 | wipe w R hl hk hr hc hT hA =>
  subst hl
  have e1 : w.clip s = w.clip (Zf P i) := ZpB fun k hk => by
   cases h1 : (Zf P i).has k
   ·cases h2 : s.has k
    ·rfl
    ·rw [hs k h2] at h1; cases h1
   ·exact hS w (by simp) k hk h1
  have e2 : Zc s (if (ZC w (Zf P i)).2 = true then [(ZC w (Zf P i)).1] else []) = [] := by
   by_cases h2 : (ZC w (Zf P i)).2 = true
   ·rw [if_pos h2]
    unfold ZC at h2 ⊢
    by_cases ho : (Zf P i).opn = true
    ·rw [if_pos ho] at h2; cases h2
    ·rw [if_neg ho] at h2 ⊢
     refine ZjA fun m hm k hk2 => ?_
     rw [List.mem_singleton] at hm
     subst hm
     rw [ZbQ h2 hk, ZH, Bool.and_eq_true] at hk2
     cases h3 : s.has k
     ·rfl
     ·have a1 := (Yk.1 (hs k h3)).2
      have a2 := (Yk.1 hk2.2).1
      rcases a1 with a1 | a1
      ·exact absurd a1 ho
      ·rw [show (⟨(Zf P i).hi, Str.nil, true⟩ : Span).lo = (Zf P i).hi from rfl, a1] at a2; cases a2
   ·rw [if_neg h2]; rfl
  rw [hA, Jk, e2, Xp, e1, if_pos hc, hT]; rfl
 | points F R hl hF hT hA =>
  subst hl
  have hRF : ∀ m ∈ F, m.R := fun m h => hR m (List.mem_append_left _ h)
  have key : ∀ (G : List Msg), (∀ m ∈ G, m ∈ F) → Zc s G = G.filter (fun m => decide (Ze P m.key = i)) ∧ Zc s (G.filter fun m => !decide (Ze P m.key = i)) = [] := fun G => by
   induction G with
   | nil => intro _; exact ⟨rfl, rfl⟩
   | cons m G ih =>
    intro hG
    have hmF := hG m (by simp)
    obtain ⟨i1, i2⟩ := ih fun x hx => hG x (List.mem_cons_of_mem _ hx)
    have hc := ZfQ (hRF m hmF) (hF m hmF) s
    have hk : m.span.has m.key = true := by rw [ZfP (hRF m hmF) (hF m hmF)]; simp
    have hrg := Xz hP m.key hi
    by_cases e : Ze P m.key = i
    ·have h1 : s.has m.key = true := hS m (List.mem_append_left _ hmF) m.key hk (by rw [hrg, decide_eq_true e.symm])
     rw [h1] at hc
     refine ⟨?_, by rw [List.filter_cons_of_neg (by simp [e])]; exact i2⟩
     rw [Xp, if_pos hc.1, hc.2 hc.1, i1, List.filter_cons_of_pos (by simp [e])]
    ·have h1 : s.has m.key = false := by
      cases h1 : s.has m.key
      ·rfl
      ·have := hs _ h1; rw [hrg, decide_eq_true_eq] at this; exact absurd this.symm e
     rw [h1] at hc
     refine ⟨?_, ?_⟩
     ·rw [Xp, if_neg (by simp [hc.1]), i1, List.filter_cons_of_neg (by simp [e])]
     ·rw [List.filter_cons_of_pos (by simp [e]), Xp, if_neg (by simp [hc.1]), i2]
  obtain ⟨k1, k2⟩ := key F fun m h => h
  rw [hA, Jk, Jk, k1, k2, hT]; rfl
theorem Moved.clips_out {t : Span} (ht : ∀ k, t.has k = true → (Zf P i).has k = false) : Zc t (ZJ P i T l) = Zc t l := by
 have hR := (MsgsR.iff.1 hm).1
 cases h with
 | none hT => rw [hT, ZfO]
 | wipe w R hl hk hr hc hT hA =>
  subst hl
  rw [hA, Jk, Xp]
  have hwk : (Zf P i).has w.key = true := by rw [Xz hP _ hi, decide_eq_true hr.symm]
  have hlo : ∀ k, w.span.has k = true → k.lt (Zf P i).lo = false := fun k h1 => by
   have hsp : w.span = ⟨w.key, w.hi, w.opn⟩ := by unfold Msg.span; rw [if_pos hk]
   rw [hsp] at h1
   have a1 := (Yk.1 h1).1
   have a2 := (Yk.1 hwk).1
   exact Str.le_trans a2 a1
  have e2 : Zc t (if (ZC w (Zf P i)).2 = true then [(ZC w (Zf P i)).1] else []) = if (w.clip t).2 = true then [(w.clip t).1] else [] := by
   unfold ZC
   by_cases ho : (Zf P i).opn = true
   ·rw [if_pos ho, if_neg (by simp), if_neg]
    ·rfl
    ·rw [Jv.2 (YN.2 fun k => by
      rw [ZH]
      cases h1 : w.span.has k
      ·rfl
      ·cases h2 : t.has k
       ·rfl
       ·have := ht k h2
        rw [Yk.2 ⟨hlo k h1, .inl ho⟩] at this; cases this)]
     simp
   ·rw [if_neg ho]
    have e := ZpA (m := w) (s := t) (t := ⟨(Zf P i).hi, Str.nil, true⟩) fun k h1 h2 => by
     refine Yk.2 ⟨?_, .inl rfl⟩
     show k.lt (Zf P i).hi = false
     cases h3 : k.lt (Zf P i).hi
     ·rfl
     ·have := ht k h2
      rw [Yk.2 ⟨hlo k h1, .inr h3⟩] at this; cases this
    cases h2 : (w.clip ⟨(Zf P i).hi, Str.nil, true⟩).2
    ·rw [h2, if_neg (by simp)] at e
     rw [← e, if_neg (by simp), if_neg (by simp)]; rfl
    ·rw [h2, if_pos rfl] at e
     rw [if_pos rfl, Xp, e]; rfl
  rw [e2]
  by_cases h2 : (w.clip t).2 = true
  ·rw [if_pos h2, if_pos h2]; rfl
  ·rw [if_neg h2, if_neg h2]; rfl
 | points F R hl hF hT hA =>
  subst hl
  have hRF : ∀ m ∈ F, m.R := fun m h => hR m (List.mem_append_left _ h)
  rw [hA, Jk, Jk]
  congr 1
  have key : ∀ (G : List Msg), (∀ m ∈ G, m ∈ F) → Zc t (G.filter fun m => !decide (Ze P m.key = i)) = Zc t G := fun G => by
   induction G with
   | nil => intro _; rfl
   | cons m G ih =>
    intro hG
    have hmF := hG m (by simp)
    have ih := ih fun x hx => hG x (List.mem_cons_of_mem _ hx)
    have hc := ZfQ (hRF m hmF) (hF m hmF) t
    by_cases e : Ze P m.key = i
    ·have h1 : t.has m.key = false := by
      cases h1 : t.has m.key
      ·rfl
      ·have := ht _ h1; rw [Xz hP _ hi, decide_eq_false_iff_not] at this; exact absurd e.symm this
     rw [h1] at hc
     rw [List.filter_cons_of_neg (by simp [e]), ih, Xp, if_neg (by simp [hc.1])]
    ·rw [List.filter_cons_of_pos (by simp [e]), Xp, Xp, ih]
  exact key F fun m h => h
end
variable {c : Cfg} {l : List Nd} {ss : List Seat}
def Wst (l : List Msg) : Prop := l.Pairwise fun a b => a.stamp ≤ b.stamp
theorem Rst.wst {l : List Msg} (h : Rst l) : Wst l := h.imp fun h => Int.le_of_lt h
theorem ZpD {m : Msg} {s : Span} {k : Str} (hk : s.has k = true) : (m.clip s).2 = true → (m.clip s).1.on k = m.on k := fun h => by
 by_cases h4 : m.kind = 4
 ·have h5 := ZbQ h h4
  have k2 : (m.clip s).1.kind = 4 := by rw [(Xo h).2, if_pos h4]; exact h4
  unfold Msg.on
  rw [h5, ZH, hk, Bool.and_true, k2, h4]; rfl
 ·rw [(Xo h).2, if_neg h4]
theorem ZfS {s : Span} {k : Str} (hk : s.has k = true) : ∀ (A : List Msg) (o : Option Str), (Zc s A).foldl (fun o m => (m.on k).apply o) o = A.foldl (fun o m => (m.on k).apply o) o
 | [], o => rfl
 | m :: A, o => by
  rw [Xp, List.foldl_cons]
  cases h : (m.clip s).2
  ·rw [if_neg (by simp), ZfS hk A]
   have := YN.1 (Jv.1 h) k
   rw [ZH, hk, Bool.and_true] at this
   have e : m.on k = Eff.zero := by unfold Msg.on; rw [if_pos (.inl this)]
   rw [e]; rfl
  ·rw [if_pos rfl, List.foldl_cons, ZpD hk h, ZfS hk A]
def ptS (k : Str) : Span := ⟨k, k.next, false⟩
structure Gp (l : List Nd) (ss : List Seat) (k : Str) (x : Seat) (W : List Msg) : Prop where
 mem : x ∈ ss
 has : x.s.has k = true
 wst : Wst W
 eq : Zc (ptS k) W = Zc (ptS k) x.ms
 fit : ∀ m ∈ W, m.R
 len : W.length ≤ 1024 * ((Zg l 0).n.level - x.n.level).toNat
section
variable {α : Type} {E : Env} {f : Fr} {G : GH} {M Mk Ms Mr : MH} {ops rest : List Oper} {q : Bool} {K : Kt} {d : Nat} {ty : TypeId} {pos : String} {aft : Array Edge} {t et : TypeId} {x y kk : Operand} {b : Nat} {k : Int} {m : List (Int × α)} {V : VEnc α}
theorem W.lookS {z0 mv : Value} {z a : α} (hs : ZP m k = some a) (ht : J4 E.P t = some et) (hz : zvK E.P et = some z0) (hzz : V.R G z0 z) (hm : MpG V G mv m) (hx : ev f x = mv) (hk : ev f kk = .int .i64 k)
  (h : ∀ v, V.R G v a → W E ops.toArray q rest (upd f d (.tuple #[v, .bool true])) G M K) (hd : Nat.blt d E.n = true := by rfl) :
  W E ops.toArray q (⟨some d, .lookup t x kk true, ty, pos, aft, none⟩ :: rest) f G M K := by
 refine W.lookG ht hz hzz hm hx hk (fun v hv => ?_) hd
 rw [hs] at hv ⊢
 exact h v hv
end
def Yo (bud : Int) (ms : List Msg) (m : Msg) : Bool := decide (m.size ≤ bud - Zz ms) && (ms.getLast?.all fun x => decide (x.stamp < m.stamp))
def Xl (bud : Int) : List Msg → List Msg → Nat
 | _, [] => 0
 | ms, m :: l => if Yo bud ms m = true then Xl bud (ms ++ [m]) l + 1 else 0
def Zr (leaf bud : Int) (k : Nd) (l : List Msg) : Nd × Nat :=
 if k.level = 0 then ({ k with rows := (Yc leaf k.rows l).1 }, (Yc leaf k.rows l).2) else ({ k with msgs := k.msgs ++ l.take (Xl bud k.msgs l) }, Xl bud k.msgs l)
def KidOf (p k : Nd) (i : Int) : Prop := 1 ≤ p.level ∧ k.level = p.level - 1 ∧ 0 ≤ i ∧ i < (p.kids.length : Int)
instance (p k : Nd) (i : Int) : Decidable (KidOf p k i) := by unfold KidOf; infer_instance
noncomputable def ZS (leaf bud : Int) (p k : Nd) (i : Int) : Nat := if KidOf p k i then (Zr leaf bud k (Zd p.pivots p.msgs i)).2 else 0
noncomputable def ZW (leaf bud : Int) (p k : Nd) (i : Int) : Nd × Nd × Nat :=
 if ZS leaf bud p k i = 0 then (p, k, 0)
 else ({ p with msgs := ZJ p.pivots i ((Zd p.pivots p.msgs i).take (ZS leaf bud p k i)) p.msgs },
  { (Zr leaf bud k (Zd p.pivots p.msgs i)).1 with seen := (((Zd p.pivots p.msgs i).take (ZS leaf bud p k i)).getLast?.getD Msg.zero).stamp }, ZS leaf bud p k i)
theorem ZjD (bud : Int) : ∀ (l ms : List Msg), Xl bud ms l ≤ l.length
 | [], _ => Nat.le_refl _
 | m :: l, ms => by
  unfold Xl
  split
  ·have := ZjD bud l (ms ++ [m]); simp; omega
  ·omega
theorem ZjE (leaf bud : Int) (k : Nd) (l : List Msg) : (Zr leaf bud k l).2 ≤ l.length := by
 unfold Zr
 split
 ·exact Zfh _ _ _
 ·exact ZjD _ _ _
theorem ZdY (A B : List Msg) : Zz (A ++ B) = Zz A + Zz B := by simp [Zz]
theorem ZjF (bud : Int) : ∀ (l ms : List Msg), Zz ms ≤ bud → Zz (ms ++ l.take (Xl bud ms l)) ≤ bud
 | [], ms, h => by simpa using h
 | m :: l, ms, h => by
  unfold Xl
  split
  ·rename_i hr
   have hr2 : m.size ≤ bud - Zz ms := by unfold Yo at hr; rw [Bool.and_eq_true, decide_eq_true_eq] at hr; exact hr.1
   have := ZjF bud l (ms ++ [m]) (by rw [ZdY]; show _ + (m.size + 0) ≤ _; omega)
   rw [List.append_assoc] at this
   exact this
  ·simpa using h
def Nd.spanN (n : Nd) : Span := if n.top = true then Span.all else Span.norm ⟨Str.nil, n.high, false⟩
theorem ZpE (n : Nd) (k : Str) : n.spanN.has k = n.has k := by
 unfold Nd.spanN Nd.has
 cases n.top
 ·rw [if_neg (by simp), ZaP]
  unfold Span.has
  simp [Str.nil_le]
 ·rw [if_pos rfl, ZaF]; rfl
def YK (p : Nd) (i : Int) : Span := p.spanN.meet (Zf p.pivots i)
def MayP (c : Cfg) (p k : Nd) (i : Int) : Prop := (p.R c.fan c.leaf c.bud ∧ k.R c.fan c.leaf c.bud ∧ KidOf p k i) ∧ (k.top = (YK p i).opn ∧ k.high = (YK p i).hi) ∧ ∀ j (h : j < p.msgs.length), (p.msgs[j].span.meet (YK p i)).empty = false → k.seen < p.msgs[j].stamp
instance (c : Cfg) (p k : Nd) (i : Int) : Decidable (MayP c p k i) := by unfold MayP; infer_instance
theorem ZdZ {n : Nd} {m : Msg} (hm : m.R) : (n.top = true ∨ (m.span.opn = false ∧ n.high.lt m.span.hi = false)) ↔ ∀ k, m.span.has k = true → n.has k = true := by
 have hne : m.span.empty = false := by
  cases h : m.span.empty
  ·rfl
  ·have := YN.1 h m.key; rw [Msg.has_key hm] at this; cases this
 have hlo : m.span.opn = true ∨ m.span.lo.lt m.span.hi = true := by
  have := hne; unfold Span.empty at this
  cases h : m.span.opn
  ·right; simpa [h] using this
  ·exact .inl rfl
 constructor
 ·rintro (h | ⟨h1, h2⟩) k hk
  ·unfold Nd.has; rw [h]; rfl
  ·have := (Yk.1 hk).2
   rcases this with h3 | h3
   ·rw [h1] at h3; cases h3
   ·unfold Nd.has; rw [Str.lt_of_lt_of_le h3 h2]; simp
 ·intro h
  cases ht : n.top
  ·right
   have key : ∀ q, m.span.has q = true → q.lt n.high = true := fun q hq => by
    have := h q hq; unfold Nd.has at this; rw [ht] at this; simpa using this
   -- the greater one of two texts
   have mx : m.span.has (if m.span.lo.lt n.high = true then n.high else m.span.lo) = true → False := fun hq => by
    have := key _ hq
    split at this
    ·rw [Str.lt_irrefl] at this; cases this
    ·rename_i h1; exact h1 this
   have hmx : (if m.span.lo.lt n.high = true then n.high else m.span.lo).lt m.span.lo = false := by
    split
    ·rename_i h1; exact Str.lt_asymm h1
    ·exact Str.lt_irrefl _
   cases ho : m.span.opn
   ·refine ⟨rfl, ?_⟩
    cases h2 : n.high.lt m.span.hi
    ·rfl
    ·exfalso
     refine mx (Yk.2 ⟨hmx, .inr ?_⟩)
     split
     ·exact h2
     ·rcases hlo with h3 | h3
      ·rw [ho] at h3; cases h3
      ·exact h3
   ·exact absurd (Yk.2 ⟨hmx, .inl ho⟩) (fun hq => mx hq)
  ·exact .inl rfl
theorem ZjG {P : List Str} {i : Int} {T : List Msg} {m m' : Msg} (h : Xb P i T m = some m') : m' = m ∨ ((Zf P i).opn = false ∧ (m.clip ⟨(Zf P i).hi, Str.nil, true⟩).2 = true ∧ m' = (m.clip ⟨(Zf P i).hi, Str.nil, true⟩).1) := by
 unfold Xb at h
 split at h
 ·split at h
  ·rename_i h2
   cases h
   right
   have h3 := h2.2
   unfold ZC at h3 ⊢
   split at h3
   ·cases h3
   ·rename_i h4
    rw [if_neg h4]
    exact ⟨by simpa using h4, h3, rfl⟩
  ·cases h
 ·cases h; exact .inl rfl
theorem ZfT {P : List Str} {i : Int} {T : List Msg} {m m' : Msg} (h : Xb P i T m = some m') : m'.stamp = m.stamp ∧ m'.size = m.size := by
 rcases ZjG h with rfl | ⟨_, h2, rfl⟩
 ·exact ⟨rfl, rfl⟩
 ·exact ⟨Jh h2, Zhq h2⟩
theorem ZpF {P : List Str} {i : Int} {T l : List Msg} {m' : Msg} (h : m' ∈ ZJ P i T l) : ∃ m ∈ l, Xb P i T m = some m' := List.mem_filterMap.1 h
theorem ZpG {P : List Str} {i : Int} {T l : List Msg} (h : Rst l) : Rst (ZJ P i T l) := by
 unfold Rst ZJ
 rw [List.pairwise_filterMap]
 refine List.Pairwise.imp (fun {a b} hab x hx y hy => ?_) h
 have := (ZfT hx).1
 have := (ZfT hy).1
 omega
theorem ZjH (m : Msg) : 0 ≤ m.size := by unfold Msg.size; split <;> omega
theorem ZjI (P : List Str) (i : Int) (T : List Msg) : ∀ (l : List Msg), Zz (ZJ P i T l) ≤ Zz l
 | [] => Int.le_refl _
 | m :: l => by
  have ih := ZjI P i T l
  have hp := ZjH m
  unfold ZJ at ih ⊢
  rw [List.filterMap_cons]
  have e : Zz (m :: l) = m.size + Zz l := by simp [Zz]
  split
  ·omega
  ·rename_i m' h
   have := (ZfT h).2
   have e2 : ∀ L, Zz (m' :: L) = m'.size + Zz L := fun L => by simp [Zz]
   rw [e2]; omega
theorem ZfU {P : List Str} {i : Int} {T l : List Msg} (hP : ∀ k ∈ P, k.b.size ≤ 16) (hl : ∀ m ∈ l, m.R) {m' : Msg} (h : m' ∈ ZJ P i T l) : m'.R ∧ ∃ m ∈ l, m'.stamp = m.stamp ∧ ∀ q, m'.span.has q = true → m.span.has q = true := by
 obtain ⟨m, hm, h2⟩ := ZpF h
 rcases ZjG h2 with rfl | ⟨_, h3, rfl⟩
 ·exact ⟨hl _ hm, m', hm, rfl, fun q hq => hq⟩
 ·have hr := Zcx (p := P) (i := i) (n := 16) hP
  exact ⟨Za9 (hl m hm) hr.2 (by show Str.nil.b.size ≤ 16; decide) h3, m, hm, Jh h3, fun q hq => (ZcD (hl m hm) h3 hq).1⟩
theorem ZpH {l : List Msg} {n : Nat} (h : 0 < n) (hl : n ≤ l.length) : ∃ x ∈ l.take n, (l.take n).getLast?.getD Msg.zero = x ∧ ∀ y ∈ l.take n, Rst l → y.stamp ≤ x.stamp := by
 obtain ⟨j, rfl⟩ : ∃ j, n = j + 1 := ⟨n - 1, om9⟩
 have e : l.take (j + 1) = l.take j ++ [l[j]] := List.take_succ_eq_append_getElem om9
 refine ⟨l[j], by rw [e]; exact List.mem_append_right _ (List.mem_singleton.2 rfl), by rw [e, List.getLast?_concat]; rfl, fun y hy hr => ?_⟩
 rw [e, List.mem_append, List.mem_singleton] at hy
 rcases hy with hy | rfl
 ·obtain ⟨q, hq, rfl⟩ := List.getElem_of_mem hy
  rw [List.length_take] at hq
  rw [List.getElem_take]
  have := List.pairwise_iff_getElem.1 hr q j om9 om9 om9
  omega
 ·omega
structure Poured (c : Cfg) (p k : Nd) (i : Int) (a b : Nd) (T : List Msg) : Prop where
 ne : 0 < T.length
 ea : a = { p with msgs := ZJ p.pivots i T p.msgs }
 eb : b = { k with rows := b.rows, msgs := b.msgs, seen := b.seen }
 leaf : k.level = 0 → b.msgs = k.msgs ∧ b.rows = Zt k.rows T ∧ (PairsR k.rows → (∀ m ∈ Zd p.pivots p.msgs i, m.R) → (k.rows.length : Int) ≤ c.leaf → (b.rows.length : Int) ≤ c.leaf)
 inner : ¬ k.level = 0 → b.rows = k.rows ∧ b.msgs = k.msgs ++ T ∧ (Zz k.msgs ≤ c.bud → Zz b.msgs ≤ c.bud)
 seen : b.seen = (T.getLast?.getD Msg.zero).stamp
 take : ∃ n, 0 < n ∧ n ≤ (Zd p.pivots p.msgs i).length ∧ T = (Zd p.pivots p.msgs i).take n
theorem ZpI (c : Cfg) (p k : Nd) (i : Int) : (ZW c.leaf c.bud p k i = (p, k, 0)) ∨ (KidOf p k i ∧ ∃ T, Poured c p k i (ZW c.leaf c.bud p k i).1 (ZW c.leaf c.bud p k i).2.1 T ∧ (ZW c.leaf c.bud p k i).2.2 = T.length) := by
 by_cases h : ZS c.leaf c.bud p k i = 0
 ·left; unfold ZW; rw [if_pos h]
 ·right
  have hk : KidOf p k i := by
   unfold ZS at h
   by_cases hk : KidOf p k i
   ·exact hk
   ·rw [if_neg hk] at h; exact absurd rfl h
  have hc : ZS c.leaf c.bud p k i = (Zr c.leaf c.bud k (Zd p.pivots p.msgs i)).2 := if_pos hk
  have hle := ZjE c.leaf c.bud k (Zd p.pivots p.msgs i)
  rw [← hc] at hle
  refine ⟨hk, (Zd p.pivots p.msgs i).take (ZS c.leaf c.bud p k i), ?_, by unfold ZW; rw [if_neg h, List.length_take]; show ZS c.leaf c.bud p k i = _; omega⟩
  unfold ZW
  rw [if_neg h]
  refine ⟨by rw [List.length_take]; omega, rfl, ?_, fun h0 => ?_, fun h0 => ?_, rfl, _, om9, hle, rfl⟩
  ·dsimp only
   unfold Zr
   split <;> rfl
  ·have hm : Zr c.leaf c.bud k (Zd p.pivots p.msgs i) = ({ k with rows := (Yc c.leaf k.rows (Zd p.pivots p.msgs i)).1 }, (Yc c.leaf k.rows (Zd p.pivots p.msgs i)).2) := if_pos h0
   rw [hc, hm]
   dsimp only
   refine ⟨rfl, Zit _ _ _, fun h1 h2 hl => ?_⟩
   have := Zfi c.leaf (Zd p.pivots p.msgs i) k.rows h1 h2
   omega
  ·have hm : Zr c.leaf c.bud k (Zd p.pivots p.msgs i) = ({ k with msgs := k.msgs ++ (Zd p.pivots p.msgs i).take (Xl c.bud k.msgs (Zd p.pivots p.msgs i)) }, Xl c.bud k.msgs (Zd p.pivots p.msgs i)) := if_neg h0
   rw [hc, hm]
   exact ⟨rfl, rfl, ZjF _ _ _⟩
theorem ZjJ {P : List Str} {l : List Msg} {i : Int} {m : Msg} (h : m ∈ Zd P l i) : ∃ a ∈ l, (a.clip (Zf P i)).2 = true ∧ (a.clip (Zf P i)).1 = m := by
 obtain ⟨a, ha, h2⟩ := List.mem_filterMap.1 h
 unfold XL at h2
 split at h2
 ·rename_i h3
  cases h2
  refine ⟨a, ?_, h3.2, rfl⟩
  unfold Zk at ha
  split at ha
  ·exact ha
  ·split at ha
   ·exact List.mem_of_mem_take ha
   ·exact List.mem_of_mem_take ha
 ·cases h2
theorem ZbX {c : Cfg} {n : Nd} (h : n.R c.fan c.leaf c.bud) : ∀ k ∈ n.pivots, k.b.size ≤ 16 := fun k hk => by
 have h4 := h.2.2.2
 by_cases h0 : n.level = 0
 ·rw [if_pos h0] at h4
  have := h4.1
  have e : n.pivots = [] := List.eq_nil_of_length_eq_zero om9
  rw [e] at hk; cases hk
 ·rw [if_neg h0] at h4
  obtain ⟨j, hj, rfl⟩ := List.getElem_of_mem hk
  exact (h4.2.2.2.2.2.1 j hj).2.1
theorem ZpJ {c : Cfg} {n : Nd} (h : n.R c.fan c.leaf c.bud) : n.high.b.size ≤ 16 := by
 cases ht : n.top
 ·exact (h.2.2.1 ht).2.1
 ·rw [(h.2.1 ht).1]; decide
theorem ZpK {c : Cfg} {n : Nd} (h : n.R c.fan c.leaf c.bud) : n.spanN.lo.b.size ≤ 16 ∧ n.spanN.hi.b.size ≤ 16 := by
 have h1 := ZpJ h
 unfold Nd.spanN
 split
 ·exact ⟨by decide, by decide⟩
 ·unfold Span.norm
  split
  ·exact ⟨by decide, by decide⟩
  ·split
   ·exact ⟨by show Str.nil.b.size ≤ 16; decide, by show Str.nil.b.size ≤ 16; decide⟩
   ·exact ⟨by show Str.nil.b.size ≤ 16; decide, h1⟩
theorem Zd0 (p : Nd) (i : Int) (k : Str) : (YK p i).has k = (p.has k && (Zf p.pivots i).has k) := by unfold YK; rw [ZH, ZpE]
structure Takes (c : Cfg) (p k : Nd) (i : Int) (T : List Msg) : Prop where
 R : ∀ m ∈ T, m.R
 up : ∀ m ∈ T, k.seen < m.stamp
 sp : ∀ m ∈ T, ∀ q, m.span.has q = true → (YK p i).has q = true
 rst : Rst T
 late : ∀ m ∈ ZJ p.pivots i T p.msgs, (m.span.meet (YK p i)).empty = false → ∀ x ∈ T, x.stamp < m.stamp
 clip : Zc (YK p i) p.msgs = T ++ Zc (YK p i) (ZJ p.pivots i T p.msgs)
theorem ZcF {c : Cfg} {p k : Nd} {i : Int} {a b : Nd} {T : List Msg} (h : MayP c p k i) (hp : Poured c p k i a b T) : Takes c p k i T := by
 obtain ⟨⟨hpR, hkR, hk⟩, hsp, hst⟩ := h
 obtain ⟨k1, k2, k3, k4⟩ := hk
 have hin : p.innerR c.fan c.bud := by have := hpR.2.2.2; rwa [if_neg om9] at this
 obtain ⟨j, rfl⟩ : ∃ j : Nat, i = j := ⟨i.toNat, om9⟩
 obtain ⟨hr1, hr2⟩ := YM hin.2.1
 have hj : j ≤ p.pivots.length := om9
 have hm := hin.2.2.1
 have hmR := (MsgsR.iff.1 hm).1
 obtain ⟨n, n1, n2, rfl⟩ := hp.take
 have mv := ZjC (P := p.pivots) hr1 hj hm n
 have hs : ∀ q, (YK p j).has q = true → (Zf p.pivots j).has q = true := fun q hq => by rw [Zd0, Bool.and_eq_true] at hq; exact hq.2
 have hfit : ∀ m ∈ p.msgs, ∀ q, m.span.has q = true → p.has q = true := fun m hm' => by
  obtain ⟨x, hx, rfl⟩ := List.getElem_of_mem hm'
  exact (ZdZ (hmR _ hm')).1 (hin.2.2.2.2.2.2 x hx).2
 have hcl := mv.clips_in hr1 hj hm hs fun m hm' q h1 h2 => by rw [Zd0, hfit m hm' q h1, h2]; rfl
 have hmem : ∀ m ∈ (Zd p.pivots p.msgs (j : Int)).take n, ∃ a ∈ p.msgs, (a.clip (YK p j)).2 = true ∧ (a.clip (YK p j)).1 = m := fun m hm' => Zax (by rw [hcl]; exact List.mem_append_left _ hm')
 have hsz := Zdx (ZpK hpR) (Zcx (p := p.pivots) (i := (j : Int)) (ZbX hpR))
 have hrst := Jw (s := YK p j) (ZdX hm)
 rw [hcl] at hrst
 refine ⟨fun m h => ?_, fun m h => ?_, fun m h q hq => ?_, (ZaX hrst).1, fun m h he x hx => ?_, hcl⟩
 ·obtain ⟨a, ha, h1, rfl⟩ := hmem m h
  exact Za9 (hmR a ha) hsz.1 hsz.2 h1
 ·obtain ⟨a, ha, h1, rfl⟩ := hmem m h
  rw [Jh h1]
  obtain ⟨x, hx, rfl⟩ := List.getElem_of_mem ha
  exact hst x hx (Xo h1).1
 ·obtain ⟨a, ha, h1, rfl⟩ := hmem m h
  exact (ZcD (hmR a ha) h1 hq).2
 ·have h1 : (m.clip (YK p j)).2 = true := by
   cases h2 : (m.clip (YK p j)).2
   ·rw [Jv.1 h2] at he; cases he
   ·rfl
  have := (ZaX hrst).2.2 x hx (m.clip (YK p j)).1 (List.mem_filterMap.2 ⟨m, h, if_pos h1⟩)
  rwa [Jh h1] at this
theorem Zd1 {T : List Msg} (hr : Rst T) (hn : 0 < T.length) : (∃ x ∈ T, T.getLast?.getD Msg.zero = x) ∧ ∀ y ∈ T, y.stamp ≤ (T.getLast?.getD Msg.zero).stamp := by
 obtain ⟨x, h1, h2, h3⟩ := ZpH (l := T) hn (Nat.le_refl _)
 rw [List.take_length] at h1 h2 h3
 rw [h2]
 exact ⟨⟨x, h1, rfl⟩, fun y hy => h3 y hy hr⟩
theorem ZjK {X : Span} {l : List Pair} {T : List Msg} (hl : PairsR l) (hT : ∀ m ∈ T, m.R) (h1 : ∀ p ∈ l, X.has p.key = true) (h2 : ∀ m ∈ T, ∀ q, m.span.has q = true → X.has q = true) : ∀ p ∈ Zt l T, X.has p.key = true := by
 induction T generalizing l with
 | nil => exact h1
 | cons m T ih =>
  have hR := hT m (by simp)
  have hR' := hR
  unfold Msg.R at hR'
  refine ih (l := takeN l m) (hl.takeM hR'.1.2.1 hR'.1.2.2.1) (fun x hx => hT x (List.mem_cons_of_mem _ hx)) (fun p hp => ?_) fun x hx => h2 x (List.mem_cons_of_mem _ hx)
  unfold takeN at hp
  split at hp
  ·exact h1 p ((List.mem_filter.1 hp).1)
  ·rw [Zcq, List.mem_append, List.mem_append] at hp
   rcases hp with (hp | hp) | hp
   ·exact h1 p ((List.mem_filter.1 hp).1)
   ·unfold Zay at hp
    split at hp
    ·rw [List.mem_singleton] at hp
     subst hp
     exact h2 m (by simp) _ (Msg.has_key hR)
    ·cases hp
   ·exact h1 p ((List.mem_filter.1 hp).1)
theorem ZfV {c : Cfg} {p k : Nd} {i : Int} {a b : Nd} {T : List Msg} (h : MayP c p k i) (hp : Poured c p k i a b T) : MayP c a b i ∧ k.seen < b.seen := by
 have tk := ZcF h hp
 obtain ⟨⟨hpR, hkR, hk⟩, hsp, hst⟩ := h
 obtain ⟨⟨xl, hxl, exl⟩, hlast⟩ := Zd1 tk.rst hp.ne
 have hseen : k.seen < b.seen := by rw [hp.seen, exl]; exact tk.up xl hxl
 have hin : p.innerR c.fan c.bud := by have h9 := hk.1; have := hpR.2.2.2; rwa [if_neg om9] at this
 have hmR := (MsgsR.iff.1 hin.2.2.1).1
 have aR : a.R c.fan c.leaf c.bud := by
  rw [hp.ea]
  refine ⟨hpR.1, hpR.2.1, hpR.2.2.1, ?_⟩
  rw [if_neg (show ¬ p.level = 0 by have := hk.1; omega)]
  obtain ⟨h1, h2, h3, h4, h5, h6, h7⟩ := hin
  refine ⟨h1, h2, MsgsR.iff.2 ⟨fun m hm => (ZfU (ZbX hpR) hmR hm).1, ZpG (ZdX h3)⟩, Int.le_trans (ZjI _ _ _ _) h4, h5, h6, fun j hj => ?_⟩
  have hm := List.getElem_mem hj
  obtain ⟨r1, m, hm2, r2, r3⟩ := ZfU (ZbX hpR) hmR hm
  obtain ⟨x, hx, rfl⟩ := List.getElem_of_mem hm2
  have f := h7 x hx
  exact ⟨by show _ ≤ p.seen; rw [r2]; exact f.1, (ZdZ (n := { p with msgs := ZJ p.pivots i T p.msgs }) r1).2 fun q hq => (ZdZ (hmR _ hm2)).1 f.2 q (r3 q hq)⟩
 have hsame : YK a i = YK p i := by rw [hp.ea]; rfl
 have hb : b.top = k.top ∧ b.high = k.high ∧ b.level = k.level ∧ b.slot = k.slot ∧ b.right = k.right ∧ b.kids = k.kids ∧ b.pivots = k.pivots := by rw [hp.eb]; exact ⟨rfl, rfl, rfl, rfl, rfl, rfl, rfl⟩
 obtain ⟨b1, b2, b3, b4, b5, b6, b7⟩ := hb
 have kin : ∀ q, (YK p i).has q = true → k.has q = true := fun q hq => by
  have := (Yk.1 hq).2
  unfold Nd.has
  rw [hsp.1, hsp.2]
  rcases this with h | h <;> simp [h]
 have bR : b.R c.fan c.leaf c.bud := by
  refine ⟨by rw [b3, b4]; have := hkR.1; omega, by rw [b1, b2, b5]; exact hkR.2.1, by rw [b1, b2, b5]; exact hkR.2.2.1, ?_⟩
  have h4 := hkR.2.2.2
  rw [b3]
  by_cases h0 : k.level = 0
  ·rw [if_pos h0] at h4 ⊢
   obtain ⟨e1, e2, e3⟩ := hp.leaf h0
   obtain ⟨l1, l2, l3, l4⟩ := h4
   have hrows : ∀ p ∈ b.rows, (Span.mk Str.nil k.high k.top).has p.key = true := by
    rw [e2]
    refine ZjK l3 tk.R (fun x hx => ?_) fun m hm q hq => ?_
    ·obtain ⟨j, hj, rfl⟩ := List.getElem_of_mem hx
     have := l4 j hj
     unfold Nd.has at this
     unfold Span.has
     simp [Str.nil_le] at this ⊢
     exact this
    ·have := kin q (tk.sp m hm q hq)
     unfold Nd.has at this
     unfold Span.has
     simp [Str.nil_le] at this ⊢
     exact this
   refine ⟨by rw [b7, b6, e1]; exact l1, e3 l3 (fun m hm => ?_) l2, by rw [e2]; exact PairsR.fold l3 fun m hm => Ziu (tk.R m hm), fun j hj => ?_⟩
   ·obtain ⟨x, hx, h2, rfl⟩ := ZjJ hm
    have hr := Zcx (p := p.pivots) (i := i) (ZbX hpR)
    exact Za9 (hmR x hx) hr.1 hr.2 h2
   ·have := hrows _ (List.getElem_mem hj)
    unfold Span.has at this
    unfold Nd.has
    rw [b1, b2]
    simp [Str.nil_le] at this ⊢
    exact this
  ·rw [if_neg h0] at h4 ⊢
   obtain ⟨e1, e2, e3⟩ := hp.inner h0
   obtain ⟨l1, l2, l3, l4, l5, l6, l7⟩ := h4
   have hkm := (MsgsR.iff.1 l3).1
   have hold : ∀ m ∈ k.msgs, m.stamp ≤ k.seen := fun m hm => by
    obtain ⟨x, hx, rfl⟩ := List.getElem_of_mem hm
    exact (l7 x hx).1
   refine ⟨by rw [e1, b6]; exact l1, by rw [b6, b7]; exact l2, ?_, e3 l4, by rw [b6]; exact l5, fun j hj => ?_, fun j hj => ?_⟩
   ·rw [e2]
    refine MsgsR.iff.2 ⟨fun m hm => ?_, List.pairwise_append.2 ⟨ZdX l3, tk.rst, fun x hx y hy => ?_⟩⟩
    ·rcases List.mem_append.1 hm with hm | hm
     ·exact hkm m hm
     ·exact tk.R m hm
    ·have := hold x hx
     have := tk.up y hy
     omega
   ·have hh : b.has b.pivots[j] = k.has b.pivots[j] := by unfold Nd.has; rw [b1, b2]
    obtain ⟨q1, q2, q3⟩ := l6 j (by rw [← b7]; exact hj)
    have eb : b.pivots[j] = k.pivots[j]'(by rw [← b7]; exact hj) := by simp only [b7]
    exact ⟨by rw [eb]; exact q1, by rw [eb]; exact q2, by rw [hh, eb]; exact q3⟩
   ·have hm := List.getElem_mem hj
    have hbm : ∀ m ∈ b.msgs, b.fits m := fun m hm => by
     rw [e2] at hm
     rcases List.mem_append.1 hm with hm | hm
     ·obtain ⟨x, hx, rfl⟩ := List.getElem_of_mem hm
      have f := l7 x hx
      exact ⟨by have := f.1; omega, by rw [b1, b2]; exact f.2⟩
     ·refine ⟨by rw [hp.seen]; exact hlast m hm, ?_⟩
      rw [b1, b2]
      exact (ZdZ (n := k) (tk.R m hm)).2 fun q hq => kin q (tk.sp m hm q hq)
    exact hbm _ hm
 refine ⟨⟨⟨aR, bR, by rw [hp.ea]; unfold KidOf; rw [b3]; exact hk⟩, ⟨by rw [hsame, b1]; exact hsp.1, by rw [hsame, b2]; exact hsp.2⟩, fun j hj he => ?_⟩, hseen⟩
 rw [hsame] at he
 have e : a.msgs = ZJ p.pivots i T p.msgs := by rw [hp.ea]
 have hm : a.msgs[j] ∈ ZJ p.pivots i T p.msgs := by rw [← e]; exact List.getElem_mem hj
 rw [hp.seen, exl]
 exact tk.late _ hm he xl hxl
variable {c : Cfg} {l : List Nd} {ss : List Seat}
structure Halves (n a b : Nd) (k : Str) (h : Nat) : Prop where
 la : a.level = n.level
 lb : b.level = n.level
 aend : a.high = k ∧ a.top = false
 bend : b.high = n.high ∧ b.top = n.top ∧ b.right = n.right
 aright : a.right = b.slot
 leaf : n.level = 0 → 1 ≤ h ∧ h < n.rows.length ∧ a.rows = n.rows.take h ∧ b.rows = n.rows.drop h ∧ a.pivots = n.pivots ∧ b.pivots = n.pivots ∧ (∀ i (hi : i < n.rows.length), i < h → n.rows[i].key.lt k = true) ∧ ∀ i (hi : i < n.rows.length), h ≤ i → n.rows[i].key.lt k = false
 inner : ¬ n.level = 0 → a.rows = n.rows ∧ b.rows = n.rows ∧ ∃ hh : h < n.pivots.length, k = n.pivots[h] ∧ a.pivots = n.pivots.take h ∧ a.kids = n.kids.take (h + 1) ∧ b.pivots = n.pivots.drop (h + 1) ∧ b.kids = n.kids.drop (h + 1)
 size : k ≠ Str.nil ∧ k.b.size ≤ 16
theorem Zd2 {n : Nd} {fan leaf bud y : Int} (hR : n.R fan leaf bud) (hok : (Zo n y).2.2.2 = true) :
  ∃ a b k h, Zo n y = (a, b, k, true) ∧ Halves n a b k h ∧ a.slot = n.slot ∧ b.slot = y ∧ a.seen = n.seen ∧ b.seen = n.seen ∧ (n.level = 0 → a.msgs = n.msgs ∧ b.msgs = n.msgs) ∧
   (¬ n.level = 0 → a.msgs = Zc ⟨Str.nil, k, false⟩ n.msgs ∧ b.msgs = Zc ⟨k, Str.nil, true⟩ n.msgs) ∧ n.has k = true := by
 obtain ⟨⟨q1, q2, q3⟩, q4, q5, q6⟩ := hR
 by_cases h0 : n.level = 0
 ·rw [if_pos h0] at q6
  obtain ⟨r1, r2, r3, r4⟩ := q6
  by_cases hl : n.rows.length < 2
  ·rw [Zhl h0 hl] at hok; cases hok
  ·have hlt := PairsR.lt r3 ((n.rows.length + 1) / 2) ((n.rows.length + 1) / 2 - 1) om9 om9
   obtain ⟨b1, b2, b3, b4⟩ := Zht hlt (r3 ((n.rows.length + 1) / 2) om9).1.1
   refine ⟨_, _, _, (n.rows.length + 1) / 2, Zhm h0 hl, ⟨rfl, rfl, ⟨rfl, rfl⟩, ⟨rfl, rfl, rfl⟩, rfl, fun _ => ⟨om9, om9, rfl, rfl, rfl, rfl, ?_, ?_⟩, fun h => absurd h0 h, b1, b2⟩, rfl, rfl, rfl, rfl, fun _ => ⟨rfl, rfl⟩, fun h => absurd h0 h, ?_⟩
   ·intro i hi hih
    by_cases e : i = (n.rows.length + 1) / 2 - 1
    ·subst e; exact b3
    ·exact Str.lt_trans (PairsR.lt r3 ((n.rows.length + 1) / 2 - 1) i om9 om9) b3
   ·intro i hi hih
    by_cases e : i = (n.rows.length + 1) / 2
    ·subst e; exact b4
    ·cases h9 : n.rows[i].key.lt (Jr (n.rows[(n.rows.length + 1) / 2 - 1]'om9).key (n.rows[(n.rows.length + 1) / 2]'om9).key).1
     ·rfl
     ·have := Str.lt_trans (PairsR.lt r3 i ((n.rows.length + 1) / 2) om9 hi) h9
      rw [b4] at this; cases this
   ·have h5 := r4 ((n.rows.length + 1) / 2) om9
    unfold Nd.has at h5 ⊢
    rw [Bool.or_eq_true] at h5 ⊢
    rcases h5 with h5 | h5
    ·exact .inl h5
    ·exact .inr (Str.lt_of_le_of_lt b4 h5)
 ·rw [if_neg h0] at q6
  obtain ⟨⟨r1, r2, r3⟩, r4, r5, r6, r7, r8, r9⟩ := q6
  by_cases hl : n.kids.length < 4
  ·rw [Zhn h0 (.inl hl)] at hok; cases hok
  ·obtain ⟨hr, hc⟩ := YM r4
   have hk := r8 ((n.kids.length + 1) / 2 - 1) om9
   have e9 : (n.kids.length + 1) / 2 - 1 + 1 = (n.kids.length + 1) / 2 := om9
   refine ⟨_, _, _, (n.kids.length + 1) / 2 - 1, Zho h0 hl r4 hc, ⟨rfl, rfl, ⟨rfl, rfl⟩, ⟨rfl, rfl, rfl⟩, rfl, fun h => absurd h h0, fun _ => ⟨rfl, rfl, om9, rfl, rfl, ?_, ?_, ?_⟩, hk.1, hk.2.1⟩, rfl, rfl, rfl, rfl, fun h => absurd h h0, fun _ => ⟨rfl, rfl⟩, hk.2.2⟩
   ·rw [e9]
   ·rw [e9]
   ·rw [e9]
theorem ZbY {l : List Nd} (hs : SlotsP l) {x : Nd} (hx : 0 ≤ x.slot ∧ x.slot < l.length) (hseen : x.seen ≤ 1099511627776) : SlotsP (l.set x.slot.toNat x) := fun i h => by
 rw [List.length_set] at h
 rw [List.getElem_set]
 split
 ·exact ⟨om9, hseen⟩
 ·exact hs i h
theorem ZfW {l : List Nd} (hs : SlotsP l) {x : Nd} (hx : x.slot = l.length) (hseen : x.seen ≤ 1099511627776) : SlotsP (l ++ [x]) := fun i h => by
 rw [List.length_append] at h
 by_cases e : i < l.length
 ·rw [List.getElem_append_left e]; exact hs i e
 ·rw [List.getElem_append_right om9]
  have : i = l.length := by simp at h; omega
  subst this
  simp [hx, hseen]
theorem ZaK {l : List Nd} {x : Nd} (hx : 0 ≤ x.slot ∧ x.slot < l.length) (i : Int) : Za (l.set x.slot.toNat x) i = if i = x.slot then x else Za l i := by
 by_cases e : i = x.slot
 ·rw [if_pos e, e]
  have := Ju (l := l.set x.slot.toNat x) (k := x.slot.toNat) (by rw [List.length_set]; omega)
  rw [show ((x.slot.toNat : Nat) : Int) = x.slot by omega] at this
  rw [this, List.getElem_set_self]
 ·rw [if_neg e]
  unfold Za
  split
  ·rw [List.getD_eq_getElem?_getD, List.getD_eq_getElem?_getD, List.getElem?_set_ne om9]
  ·rfl
theorem ZcG {l : List Nd} {x : Nd} (i : Int) : Za (l ++ [x]) i = if i = l.length then x else Za l i := by
 by_cases e : i = l.length
 ·rw [if_pos e, e, Ju (by simp)]
  simp
 ·rw [if_neg e]
  unfold Za
  split
  ·rename_i h0
   rw [List.getD_eq_getElem?_getD, List.getD_eq_getElem?_getD]
   by_cases h1 : i.toNat < l.length
   ·rw [List.getElem?_append_left h1]
   ·rw [List.getElem?_eq_none (by simp; omega), List.getElem?_eq_none om9]
  ·rfl
structure HSeat (K A B : Seat) (k : Str) (h : Nat) : Prop where
 hv : Halves K.n A.n B.n k h
 ha : ∀ q, A.s.has q = (K.s.has q && q.lt k)
 hb : ∀ q, B.s.has q = (K.s.has q && !q.lt k)
 na : A.s.norm = A.s
 nb : B.s.norm = B.s
 ma : ∀ s : Span, (∀ q, s.has q = true → A.s.has q = true) → ZO [Zc s A.n.msgs, Zc s A.ms] = ZO [Zc s K.n.msgs, Zc s K.ms]
 mb : ∀ s : Span, (∀ q, s.has q = true → B.s.has q = true) → ZO [Zc s B.n.msgs, Zc s B.ms] = ZO [Zc s K.n.msgs, Zc s K.ms]
theorem Tree.k_in (t : Tree c l ss) {K : Seat} (hK : K ∈ ss) {a b : Nd} {k : Str} {h : Nat} (hv : Halves K.n a b k h) (hk : K.n.has k = true) : K.s.has k = true ∧ k ≠ K.s.lo := by
 obtain ⟨⟨p1, p2⟩, p3, p4, p5⟩ := (t.seat hK).2.1
 have hend : K.s.opn = true ∨ k.lt K.s.hi = true := by
  unfold Nd.has at hk
  rw [p1, p2, Bool.or_eq_true] at hk
  exact hk
 by_cases h0 : K.n.level = 0
 ·obtain ⟨g1, g2, _, _, _, _, g3, g4⟩ := hv.leaf h0
  have e1 := (Yk.1 (p3 (h - 1) om9)).1
  have e2 := Str.lt_of_le_of_lt e1 (g3 (h - 1) om9 om9)
  exact ⟨Yk.2 ⟨Str.lt_asymm e2, hend⟩, fun e => by rw [← e, Str.lt_irrefl] at e2; cases e2⟩
 ·obtain ⟨_, _, hh, e, _⟩ := hv.inner h0
  have := p4 h hh
  rw [← e] at this
  exact this
theorem HSeat.placedA (t : Tree c l ss) {K A B : Seat} {k : Str} {h : Nat} (hK : K ∈ ss) (H : HSeat K A B k h) (hs : K.s.norm = K.s) (hk : K.n.has k = true)
  (hm : ∀ m ∈ A.n.msgs, ∃ m' ∈ K.n.msgs, (m'.clip ⟨Str.nil, k, false⟩).2 = true ∧ (m'.clip ⟨Str.nil, k, false⟩).1 = m) : PlacedP A := by
 obtain ⟨⟨p1, p2⟩, p3, p4, p5⟩ := (t.seat hK).2.1
 obtain ⟨k1, k2⟩ := t.k_in hK H.hv hk
 obtain ⟨e, hlo⟩ := ZoZ hs H.na k1 k2 H.ha
 have eo : A.s.opn = false := by rw [e]
 have eh : A.s.hi = k := by rw [e]
 have el : A.s.lo = K.s.lo := by rw [e]
 refine ⟨⟨by rw [eo]; exact H.hv.aend.2, by rw [eh]; exact H.hv.aend.1⟩, fun i hi => ?_, fun i hi => ?_, fun i hi => ?_⟩
 ·by_cases h0 : K.n.level = 0
  ·obtain ⟨g1, g2, ga, _, _, _, g3, g4⟩ := H.hv.leaf h0
   have hi2 := hi
   rw [ga, List.length_take] at hi2
   simp only [ga, List.getElem_take]
   rw [H.ha, p3 i om9, g3 i om9 om9]; rfl
  ·have ga := (H.hv.inner h0).1
   have gb := (t.inner hK h0).1.1
   rw [ga] at hi
   exact absurd hi om9
 ·by_cases h0 : K.n.level = 0
  ·have ga := (H.hv.leaf h0).2.2.2.2.1
   have gb := (t.leaf hK h0).1
   rw [ga] at hi
   exact absurd hi om9
  ·obtain ⟨_, _, hh, ek, ga, _, _, _⟩ := H.hv.inner h0
   have hi2 := hi
   rw [ga, List.length_take] at hi2
   simp only [ga, List.getElem_take]
   have hr := (YM (Z5 (t.kids hK) h0).2.2.1).1
   have := p4 i om9
   refine ⟨?_, by rw [el]; exact this.2⟩
   rw [H.ha, this.1, ek, Zad hr h i om9 hh]; rfl
 ·obtain ⟨m', hm', hc, e9⟩ := hm _ (List.getElem_mem hi)
  obtain ⟨j, hj, rfl⟩ := List.getElem_of_mem hm'
  refine Zi7 fun q hq => ?_
  rw [← e9] at hq
  have g := ZcD ((t.msgs hK).2.1 _ (List.getElem_mem hj)) hc hq
  rw [H.ha, Zi8 (p5 j hj) g.1]
  have := (Yk.1 g.2).2
  rcases this with h | h
  ·cases h
  ·rw [show q.lt k = true from h]; rfl
theorem HSeat.placedB (t : Tree c l ss) {K A B : Seat} {k : Str} {h : Nat} (hK : K ∈ ss) (H : HSeat K A B k h) (hs : K.s.norm = K.s) (hk : K.n.has k = true)
  (hm : ∀ m ∈ B.n.msgs, ∃ m' ∈ K.n.msgs, (m'.clip ⟨k, Str.nil, true⟩).2 = true ∧ (m'.clip ⟨k, Str.nil, true⟩).1 = m) : PlacedP B := by
 obtain ⟨⟨p1, p2⟩, p3, p4, p5⟩ := (t.seat hK).2.1
 obtain ⟨k1, k2⟩ := t.k_in hK H.hv hk
 have e := Zi5 hs H.nb k1 H.hb
 have eo : B.s.opn = K.s.opn := by rw [e]
 have eh : B.s.hi = K.s.hi := by rw [e]
 have el : B.s.lo = k := by rw [e]
 refine ⟨⟨by rw [eo, H.hv.bend.2.1]; exact p1, by rw [eh, H.hv.bend.1]; exact p2⟩, fun i hi => ?_, fun i hi => ?_, fun i hi => ?_⟩
 ·by_cases h0 : K.n.level = 0
  ·obtain ⟨g1, g2, _, ga, _, _, g3, g4⟩ := H.hv.leaf h0
   have hi2 := hi
   rw [ga, List.length_drop] at hi2
   simp only [ga, List.getElem_drop]
   rw [H.hb, p3 (h + i) om9, g4 (h + i) om9 om9]; rfl
  ·have ga := (H.hv.inner h0).2.1
   have gb := (t.inner hK h0).1.1
   rw [ga] at hi
   exact absurd hi om9
 ·by_cases h0 : K.n.level = 0
  ·have ga := (H.hv.leaf h0).2.2.2.2.2.1
   have gb := (t.leaf hK h0).1
   rw [ga] at hi
   exact absurd hi om9
  ·obtain ⟨_, _, hh, ek, _, _, ga, _⟩ := H.hv.inner h0
   have hi2 := hi
   rw [ga, List.length_drop] at hi2
   simp only [ga, List.getElem_drop]
   have hr := (YM (Z5 (t.kids hK) h0).2.2.1).1
   have := p4 (h + 1 + i) om9
   have hl := Zad hr (h + 1 + i) h om9 om9
   refine ⟨?_, ?_⟩
   ·rw [H.hb, this.1, ek, Str.lt_asymm hl]; rfl
   ·rw [el, ek]
    intro e2
    rw [e2, Str.lt_irrefl] at hl; cases hl
 ·obtain ⟨m', hm', hc, e9⟩ := hm _ (List.getElem_mem hi)
  obtain ⟨j, hj, rfl⟩ := List.getElem_of_mem hm'
  refine Zi7 fun q hq => ?_
  rw [← e9] at hq
  have g := ZcD ((t.msgs hK).2.1 _ (List.getElem_mem hj)) hc hq
  rw [H.hb, Zi8 (p5 j hj) g.1]
  have := (Yk.1 g.2).1
  rw [show q.lt k = false from this]; rfl
theorem HSeat.kids (t : Tree c l ss) {K A B : Seat} {k : Str} {h : Nat} {l' : List Nd} (hK : K ∈ ss) (H : HSeat K A B k h)
  (hf : ∀ j, j < K.n.kids.length → Zq l' (K.n.kids.getD j 0) = Zq l (K.n.kids.getD j 0)) : (Z4 l' A).isSome = true ∧ (Z4 l' B).isSome = true ∧ Zj l' A ++ Zj l' B = Zj l K := by
 by_cases h0 : K.n.level = 0
 ·have ea : A.n.level = 0 := by rw [H.hv.la, h0]
  have eb : B.n.level = 0 := by rw [H.hv.lb, h0]
  rw [ZaS ea, ZaS eb, Xq ea, Xq eb, Xq h0]
  exact ⟨rfl, rfl, rfl⟩
 ·obtain ⟨_, _, hh, ek, g1, g2, g3, g4⟩ := H.hv.inner h0
  have a1 := ZoW (l' := l') (t.kids hK) h0 hh g1 g2 H.hv.la (fun q => by rw [H.ha, ek]) H.ma hf
  have b1 := ZoX (l' := l') (t.kids hK) h0 hh g3 g4 H.hv.lb (fun q => by rw [H.hb, ek]) H.mb hf
  exact ⟨a1.1, b1.1, by rw [a1.2, b1.2, List.take_append_drop]⟩
theorem HSeat.view (t : Tree c l ss) {K A B : Seat} {k : Str} {h : Nat} (hK : K ∈ ss) (H : HSeat K A B k h) (ca : K.n.level = 0 → Zc A.s A.ms = Zc A.s K.ms) (cb : K.n.level = 0 → Zc B.s B.ms = Zc B.s K.ms) :
  (ZE [A, B]).flatMap YH = (ZE [K]).flatMap YH := by
 by_cases h0 : K.n.level = 0
 ·have ea : A.n.level = 0 := by rw [H.hv.la, h0]
  have eb : B.n.level = 0 := by rw [H.hv.lb, h0]
  obtain ⟨g1, g2, ga, gb, _, _, g3, g4⟩ := H.hv.leaf h0
  have := Zo0 (t.rows hK) (t.fits K hK).2 ga gb H.ha H.hb g3 g4 (ca h0) (cb h0)
  simp only [ZE, List.filter_cons, ea, eb, h0, decide_true, if_true, List.filter_nil, List.flatMap_cons, List.flatMap_nil, List.append_nil]
  exact this
 ·have ea : ¬ A.n.level = 0 := by rw [H.hv.la]; exact h0
  have eb : ¬ B.n.level = 0 := by rw [H.hv.lb]; exact h0
  simp [ZE, List.filter_cons, ea, eb, h0]
theorem Zbm {c : Cfg} {n : Nd} (hc : CfgR c) (hR : n.R c.fan c.leaf c.bud) : NdS n := by
 obtain ⟨⟨q1, q2, q3⟩, q4, q5, q6⟩ := hR
 obtain ⟨c1, c2, c3, c4, c5⟩ := hc
 have hh : n.high.b.size ≤ 4000 := by
  cases e : n.top
  ·have := (q5 e).2.1; omega
  ·rw [(q4 e).1]; decide
 by_cases h0 : n.level = 0
 ·rw [if_pos h0] at q6
  obtain ⟨r1, r2, r3, r4⟩ := q6
  have e1 : n.msgs = [] := List.eq_nil_of_length_eq_zero om9
  have e2 : n.pivots = [] := List.eq_nil_of_length_eq_zero om9
  refine ⟨om9, om9, om9, om9, hh, (by rw [e1]; intro m hm; cases hm), (by rw [e2]; intro m hm; cases hm), fun p hp => ?_⟩
  have := (Zah.1 r3).1 p hp
  exact ⟨by have := this.1; omega, by have := this.2; omega⟩
 ·rw [if_neg h0] at q6
  obtain ⟨⟨r1, r2, r3⟩, r4, r5, r6, r7, r8, r9⟩ := q6
  have e1 : n.rows = [] := List.eq_nil_of_length_eq_zero r1
  have hp := (YM r4).2
  have hm : ∀ m ∈ n.msgs, m.R := (MsgsR.iff.1 r5).1
  have hl := Zfo hm
  refine ⟨om9, om9, om9, om9, hh, fun m h => ?_, fun p h => ?_, (by rw [e1]; intro m hm; cases hm)⟩
  ·have := (hm m h).1
   exact ⟨om9, om9, om9⟩
  ·obtain ⟨i, hi, rfl⟩ := List.getElem_of_mem h
   have := (r8 i hi).2.1; omega
theorem Zd3 {c : Cfg} {l : List Nd} (hc : CfgR c) (hl : l.length ≤ 4096) (h : ∀ n ∈ l, n.R c.fan c.leaf c.bud) : Sml l := ⟨hl, fun n hn => Zbm hc (h n hn)⟩
theorem ZaY {l : List Nd} (hs : SlotsP l) : (l.map fun n : Nd => n.slot) = (List.range l.length).map fun i : Nat => (i : Int) := by
 refine List.ext_getElem (by simp) fun i hi hj => ?_
 simp only [List.getElem_map, List.getElem_range]
 exact (hs i (by simpa using hi)).1
theorem Zd4 {f : Seat → List Seat} : ∀ {L : List Seat}, (∀ y ∈ L, f y = [y]) → L.flatMap f = L
 | [], _ => rfl
 | y :: L, h => by rw [List.flatMap_cons, h y (by simp), Zd4 fun z hz => h z (List.mem_cons_of_mem _ hz)]; rfl
theorem ZfX {f : Seat → List Seat} : ∀ {L : List Seat}, (∀ x ∈ L, (ZE (f x)).flatMap YH = (ZE [x]).flatMap YH) → (ZE (L.flatMap f)).flatMap YH = (ZE L).flatMap YH
 | [], _ => rfl
 | x :: L, h => by
  have ih := ZfX (f := f) (L := L) fun z hz => h z (List.mem_cons_of_mem _ hz)
  have e1 : ZE ((x :: L).flatMap f) = ZE (f x) ++ ZE (L.flatMap f) := by unfold ZE; rw [List.flatMap_cons, List.filter_append]
  have e2 : ZE (x :: L) = ZE [x] ++ ZE L := by unfold ZE; rw [← List.filter_append]; rfl
  rw [e1, e2, List.flatMap_append, List.flatMap_append, h x (by simp), ih]
theorem ZjL {f K K' : Seat → List Seat} : ∀ {L : List Seat}, (∀ x ∈ L, (f x).flatMap K' = (K x).flatMap f) → (L.flatMap f).flatMap K' = (L.flatMap K).flatMap f
 | [], _ => rfl
 | x :: L, h => by
  rw [List.flatMap_cons, List.flatMap_cons, List.flatMap_append, List.flatMap_append, h x (by simp), ZjL fun z hz => h z (List.mem_cons_of_mem _ hz)]
def Xc (n : Nd) (i : Nat) (k : Str) (v : Int) : Nd := { n with pivots := (n.pivots.take i ++ [k]) ++ n.pivots.drop i, kids := (n.kids.take (i + 1) ++ [v]) ++ n.kids.drop (i + 1) }
def ZT (l : List Nd) (P : Nd) (i : Nat) (a b : Nd) (k : Str) : List Nd := ((l.set a.slot.toNat a).set P.slot.toNat (Xc P i k l.length)) ++ [b]
structure PartOf (c : Cfg) (l : List Nd) (ss : List Seat) (P : Seat) (i : Nat) (a b : Nd) (k : Str) (h : Nat) : Prop where
 t : Tree c l ss
 mem : P ∈ ss
 h0 : ¬ P.n.level = 0
 hi : i < P.n.kids.length
 hv : Halves (Zb l P i).n a b k h
 sa : a.slot = (Zb l P i).n.slot
 sb : b.slot = l.length
 ea : a.seen = (Zb l P i).n.seen
 eb : b.seen = (Zb l P i).n.seen
 m0 : (Zb l P i).n.level = 0 → a.msgs = (Zb l P i).n.msgs ∧ b.msgs = (Zb l P i).n.msgs
 m1 : ¬ (Zb l P i).n.level = 0 → a.msgs = Zc ⟨Str.nil, k, false⟩ (Zb l P i).n.msgs ∧ b.msgs = Zc ⟨k, Str.nil, true⟩ (Zb l P i).n.msgs
 nk : (Zb l P i).n.has k = true
 aR : a.R c.fan c.leaf c.bud
 bR : b.R c.fan c.leaf c.bud
 kin : (Zf P.n.pivots (i : Int)).has k = true
 klo : ¬ k = (Zf P.n.pivots (i : Int)).lo
 full : (P.n.kids.length : Int) < c.fan
 room : (l.length : Int) < c.slots
 few : l.length < 4096
namespace PartOf
variable {c : Cfg} {l : List Nd} {ss : List Seat} {P : Seat} {i : Nat} {a b : Nd} {k : Str} {h : Nat}
theorem km (p : PartOf c l ss P i a b k h) : Zb l P i ∈ ss ∧ (Zb l P i).n.level = P.n.level - 1 := by
 have := p.t.at p.mem p.h0 p.hi
 exact ⟨this.1, this.2.2.2⟩
theorem ne (p : PartOf c l ss P i a b k h) {x y : Seat} (hx : x ∈ ss) (hy : y ∈ ss) (hl : x.n.level ≠ y.n.level) : x.n.slot ≠ y.n.slot := fun e => hl (by rw [p.t.uniq hx hy e])
theorem ksl (p : PartOf c l ss P i a b k h) : (Zb l P i).n.slot ≠ P.n.slot := p.ne p.km.1 p.mem (by have := p.km.2; omega)
theorem sin (p : PartOf c l ss P i a b k h) {x : Seat} (hx : x ∈ ss) : 0 ≤ x.n.slot ∧ x.n.slot < l.length := (p.t.nd hx).1
theorem lseen (p : PartOf c l ss P i a b k h) {x : Seat} (hx : x ∈ ss) : x.n.seen ≤ 1099511627776 := by
 obtain ⟨j, hj, e⟩ := List.getElem_of_mem (p.t.nd hx).2.2
 rw [← e]; exact (p.t.slot j hj).2
theorem slots (p : PartOf c l ss P i a b k h) : SlotsP (ZT l P.n i a b k) := by
 have hk := p.sin p.km.1
 have hp := p.sin p.mem
 have h1 := ZbY p.t.slot (x := a) (by rw [p.sa]; exact hk) (by rw [p.ea]; exact p.lseen p.km.1)
 have h2 := ZbY h1 (x := Xc P.n i k l.length) (by rw [List.length_set]; exact hp) (p.lseen p.mem)
 exact ZfW h2 (by rw [List.length_set, List.length_set]; exact p.sb) (by rw [p.eb]; exact p.lseen p.km.1)
theorem len (p : PartOf c l ss P i a b k h) : (ZT l P.n i a b k).length = l.length + 1 := by
 unfold ZT; rw [List.length_append, List.length_set, List.length_set]; rfl
theorem get (p : PartOf c l ss P i a b k h) (s : Int) : Za (ZT l P.n i a b k) s = if s = l.length then b else if s = P.n.slot then Xc P.n i k l.length else if s = (Zb l P i).n.slot then a else Za l s := by
 have hk := p.sin p.km.1
 have hp := p.sin p.mem
 unfold ZT
 rw [ZcG, List.length_set, List.length_set]
 split
 ·rfl
 ·have e := ZaK (l := l.set a.slot.toNat a) (x := Xc P.n i k l.length) (by rw [List.length_set]; exact hp) s
  rw [show (Xc P.n i k l.length).slot = P.n.slot from rfl] at e
  rw [e]
  split
  ·rfl
  ·rw [ZaK (by rw [p.sa]; exact hk), p.sa]
theorem find (p : PartOf c l ss P i a b k h) (s : Int) : Zq (ZT l P.n i a b k) s = (if s = l.length then b else if s = P.n.slot then Xc P.n i k l.length else if s = (Zb l P i).n.slot then a else Za l s, decide (0 ≤ s ∧ s < (l.length : Int) + 1)) := by
 rw [ZaE p.slots, p.get, p.len]
 congr 1
theorem find_x (p : PartOf c l ss P i a b k h) {x : Seat} (hx : x ∈ ss) (h1 : x.n.slot ≠ P.n.slot) (h2 : x.n.slot ≠ (Zb l P i).n.slot) : Zq (ZT l P.n i a b k) x.n.slot = Zq l x.n.slot := by
 have := p.sin hx
 rw [p.find, if_neg om9, if_neg h1, if_neg h2, ZaE p.t.slot, decide_eq_true om9, decide_eq_true om9]
theorem find_p (p : PartOf c l ss P i a b k h) : Zq (ZT l P.n i a b k) P.n.slot = (Xc P.n i k l.length, true) := by
 have := p.sin p.mem
 rw [p.find, if_neg om9, if_pos rfl, decide_eq_true om9]
theorem find_k (p : PartOf c l ss P i a b k h) : Zq (ZT l P.n i a b k) (Zb l P i).n.slot = (a, true) := by
 have := p.sin p.km.1
 rw [p.find, if_neg om9, if_neg p.ksl, if_pos rfl, decide_eq_true om9]
theorem find_y (p : PartOf c l ss P i a b k h) : Zq (ZT l P.n i a b k) (l.length : Int) = (b, true) := by
 rw [p.find, if_pos rfl, decide_eq_true om9]
noncomputable def nP (l : List Nd) (P : Seat) (i : Nat) (k : Str) : Seat := ⟨Xc P.n i k l.length, P.s, P.ms⟩
noncomputable def nA (l : List Nd) (P : Seat) (i : Nat) (a b : Nd) (k : Str) : Seat := Zb (ZT l P.n i a b k) (nP l P i k) i
noncomputable def nB (l : List Nd) (P : Seat) (i : Nat) (a b : Nd) (k : Str) : Seat := Zb (ZT l P.n i a b k) (nP l P i k) (i + 1)
theorem slot_at (p : PartOf c l ss P i a b k h) {x : Seat} (hx : x ∈ ss) (h0 : ¬ x.n.level = 0) {j : Nat} (hj : j < x.n.kids.length) : x.n.kids.getD j 0 = (Zb l x j).n.slot := by
 have e := (p.t.at hx h0 hj)
 rw [List.getD_eq_getElem?_getD, List.getElem?_eq_getElem hj, e.2.2.1, (Yv p.t.slot e.2.1).1]; rfl
theorem kid_j (p : PartOf c l ss P i a b k h) (j : Nat) : (nP l P i k).n.kids.getD j 0 = if j ≤ i then P.n.kids.getD j 0 else if j = i + 1 then (l.length : Int) else P.n.kids.getD (j - 1) 0 := by
 have hi := p.hi
 show ((P.n.kids.take (i + 1) ++ [(l.length : Int)]) ++ P.n.kids.drop (i + 1)).getD j 0 = _
 rw [List.getD_eq_getElem?_getD, List.getD_eq_getElem?_getD, List.getD_eq_getElem?_getD]
 have l1 : (P.n.kids.take (i + 1)).length = i + 1 := by rw [List.length_take]; omega
 by_cases h1 : j ≤ i
 ·rw [if_pos h1, List.getElem?_append_left (by rw [List.length_append, l1]; omega), List.getElem?_append_left om9, List.getElem?_take, if_pos om9]
 ·rw [if_neg h1]
  by_cases h2 : j = i + 1
  ·rw [if_pos h2, h2, List.getElem?_append_left (by rw [List.length_append, l1]; simp), List.getElem?_append_right om9, l1]; simp
  ·rw [if_neg h2, List.getElem?_append_right (by rw [List.length_append, l1]; simp; omega), List.getElem?_drop, List.length_append, l1]
   congr 2
   simp; omega
theorem rt (p : PartOf c l ss P i a b k h) : ZZ P.n.pivots = true ∧ P.n.kids.length = P.n.pivots.length + 1 := YM (Z5 (p.t.kids p.mem) p.h0).2.2.1
theorem rt' (p : PartOf c l ss P i a b k h) : YB (nP l P i k).n.pivots (nP l P i k).n.kids.length = true := ZoS (Z5 (p.t.kids p.mem) p.h0).2.2.1 p.hi p.kin p.klo
theorem klen (p : PartOf c l ss P i a b k h) : (nP l P i k).n.kids.length = P.n.kids.length + 1 := by
 have := p.hi
 show ((P.n.kids.take (i + 1) ++ [(l.length : Int)]) ++ P.n.kids.drop (i + 1)).length = _
 simp; omega
theorem kroute (p : PartOf c l ss P i a b k h) : Ze P.n.pivots k = i := by
 have h1 := p.rt
 have h2 := p.kin
 rw [Xz h1.1 k (by have := p.hi; omega), decide_eq_true_eq] at h2
 exact h2.symm
theorem route (p : PartOf c l ss P i a b k h) (q : Str) : (q.lt k = true → Ze (nP l P i k).n.pivots q = Ze P.n.pivots q ∧ Ze P.n.pivots q ≤ i) ∧ (q.lt k = false → Ze (nP l P i k).n.pivots q = Ze P.n.pivots q + 1 ∧ i ≤ Ze P.n.pivots q) := by
 have e := Zi1 P.n.pivots i k q
 have hk := p.kroute
 constructor
 ·intro hq
  rw [if_pos hq] at e
  have := ZcB (P := P.n.pivots) (p := k) (q := q) (Str.lt_asymm hq)
  exact ⟨by rw [← Nat.add_zero (Ze P.n.pivots q)]; exact e, om9⟩
 ·intro hq
  rw [if_neg (by simp [hq])] at e
  have := ZcB (P := P.n.pivots) (p := q) (q := k) hq
  exact ⟨e, om9⟩
theorem shas (p : PartOf c l ss P i a b k h) {j : Nat} (hj : j ≤ P.n.kids.length) (q : Str) : ((nP l P i k).s.meet (Zf (nP l P i k).n.pivots (j : Int))).has q = (P.s.has q && decide (j = Ze (nP l P i k).n.pivots q)) := by
 obtain ⟨h1, h2⟩ := YM p.rt'
 have := p.klen
 rw [ZH, Xz h1 q om9]; rfl
theorem khas (p : PartOf c l ss P i a b k h) {j : Nat} (hj : j < P.n.kids.length) (q : Str) : (Zb l P j).s.has q = (P.s.has q && decide (j = Ze P.n.pivots q)) := Zbg (Z5 (p.t.kids p.mem) p.h0).2.2.1 hj q
theorem ha (p : PartOf c l ss P i a b k h) (q : Str) : (nA l P i a b k).s.has q = ((Zb l P i).s.has q && q.lt k) := by
 have h1 := p.shas (j := i) (by have := p.hi; omega) q
 have h2 := p.khas p.hi q
 show ((nP l P i k).s.meet _).has q = _
 rw [h1, h2]
 cases hq : q.lt k
 ·have := (p.route q).2 hq
  rw [decide_eq_false om9]; simp
 ·have := (p.route q).1 hq
  rw [this.1]; simp
theorem hb (p : PartOf c l ss P i a b k h) (q : Str) : (nB l P i a b k).s.has q = ((Zb l P i).s.has q && !q.lt k) := by
 have h1 := p.shas (j := i + 1) (by have := p.hi; omega) q
 have h2 := p.khas p.hi q
 show ((nP l P i k).s.meet (Zf _ ((i + 1 : Nat) : Int))).has q = _
 rw [h1, h2]
 cases hq : q.lt k
 ·have := (p.route q).2 hq
  rw [this.1]; simp
 ·have := (p.route q).1 hq
  rw [decide_eq_false (show ¬ i + 1 = Ze (nP l P i k).n.pivots q by omega)]; simp
theorem ams (p : PartOf c l ss P i a b k h) : (nA l P i a b k).ms = Zc (nA l P i a b k).s (Zb l P i).ms := by
 have h1 := (p.t.two p.mem (nA l P i a b k).s).1
 have h2 := (p.t.kid_ms p.mem (p.t.rst P p.mem) i).1
 rw [h2, Jk, XJ (fun q hq => by rw [p.ha, Bool.and_eq_true] at hq; exact hq.1), XJ (fun q hq => by rw [p.ha, Bool.and_eq_true] at hq; exact hq.1), ← h1]
 rfl
theorem bms (p : PartOf c l ss P i a b k h) : (nB l P i a b k).ms = Zc (nB l P i a b k).s (Zb l P i).ms := by
 have h1 := (p.t.two p.mem (nB l P i a b k).s).1
 have h2 := (p.t.kid_ms p.mem (p.t.rst P p.mem) i).1
 rw [h2, Jk, XJ (fun q hq => by rw [p.hb, Bool.and_eq_true] at hq; exact hq.1), XJ (fun q hq => by rw [p.hb, Bool.and_eq_true] at hq; exact hq.1), ← h1]
 rfl
theorem an (p : PartOf c l ss P i a b k h) : (nA l P i a b k).n = a := by
 show (Zq _ ((nP l P i k).n.kids.getD i 0)).1 = a
 rw [p.kid_j, if_pos (Nat.le_refl i), p.slot_at p.mem p.h0 p.hi, p.find_k]
theorem bn (p : PartOf c l ss P i a b k h) : (nB l P i a b k).n = b := by
 show (Zq _ ((nP l P i k).n.kids.getD (i + 1) 0)).1 = b
 rw [p.kid_j, if_neg om9, if_pos rfl, p.find_y]
theorem hs (p : PartOf c l ss P i a b k h) : HSeat (Zb l P i) (nA l P i a b k) (nB l P i a b k) k h := by
 refine ⟨by rw [p.an, p.bn]; exact p.hv, p.ha, p.hb, XT _ _, XT _ _, fun s hs => ?_, fun s hs => ?_⟩
 ·rw [p.an, p.ams, XJ hs]
  by_cases h0 : (Zb l P i).n.level = 0
  ·rw [(p.m0 h0).1]
  ·rw [(p.m1 h0).1, XJ fun q hq => ?_]
   have := hs q hq
   rw [p.ha, Bool.and_eq_true] at this
   exact Yk.2 ⟨Str.nil_le q, .inr this.2⟩
 ·rw [p.bn, p.bms, XJ hs]
  by_cases h0 : (Zb l P i).n.level = 0
  ·rw [(p.m0 h0).2]
  ·rw [(p.m1 h0).2, XJ fun q hq => ?_]
   have := hs q hq
   rw [p.hb, Bool.and_eq_true] at this
   exact Yk.2 ⟨by simpa using this.2, .inl rfl⟩
end PartOf
namespace PartOf
variable {c : Cfg} {l : List Nd} {ss : List Seat} {P : Seat} {i : Nat} {a b : Nd} {k : Str} {h : Nat}
noncomputable def fP (l : List Nd) (P : Seat) (i : Nat) (a b : Nd) (k : Str) (x : Seat) : List Seat :=
 if x.n.slot = (Zb l P i).n.slot then [nA l P i a b k, nB l P i a b k] else if x.n.slot = P.n.slot then [nP l P i k] else [x]
theorem f_k : fP l P i a b k (Zb l P i) = [nA l P i a b k, nB l P i a b k] := if_pos rfl
theorem f_p (p : PartOf c l ss P i a b k h) : fP l P i a b k P = [nP l P i k] := by
 unfold fP; rw [if_neg p.ksl.symm, if_pos rfl]
theorem f_x {x : Seat} (h1 : x.n.slot ≠ P.n.slot) (h2 : x.n.slot ≠ (Zb l P i).n.slot) : fP l P i a b k x = [x] := by
 unfold fP; rw [if_neg h2, if_neg h1]
theorem fixK (p : PartOf c l ss P i a b k h) : (Z4 (ZT l P.n i a b k) (nA l P i a b k)).isSome = true ∧ (Z4 (ZT l P.n i a b k) (nB l P i a b k)).isSome = true ∧ Zj (ZT l P.n i a b k) (nA l P i a b k) ++ Zj (ZT l P.n i a b k) (nB l P i a b k) = Zj l (Zb l P i) := by
 refine HSeat.kids p.t p.km.1 p.hs fun j hj => ?_
 by_cases h0 : (Zb l P i).n.level = 0
 ·have := (p.t.leaf p.km.1 h0).1
  omega
 ·have e := p.t.at p.km.1 h0 hj
  have g := p.km.2
  rw [p.slot_at p.km.1 h0 hj]
  exact p.find_x e.1 (p.ne e.1 p.mem om9) (p.ne e.1 p.km.1 om9)
theorem e_lo (p : PartOf c l ss P i a b k h) {j : Nat} (hj : j < i) : Zq (ZT l P.n i a b k) ((nP l P i k).n.kids.getD j 0) = Zq l (P.n.kids.getD j 0) := by
 have hi := p.hi
 have e := p.t.at p.mem p.h0 (j := j) om9
 have hkl := (Z5 (p.t.kids p.mem) p.h0)
 rw [p.kid_j, if_pos om9, p.slot_at p.mem p.h0 om9]
 refine p.find_x e.1 (p.ne e.1 p.mem om9) fun e2 => ?_
 have := p.t.kid_nd p.mem (i := j) (j := i) (by rw [hkl.1, Zai]; omega) (by rw [hkl.1, Zai]; omega) (by rw [(p.t.kidsD_at p.mem p.h0).2, (p.t.kidsD_at p.mem p.h0).2]; exact e2)
 omega
theorem e_hi (p : PartOf c l ss P i a b k h) {j : Nat} (hj : i < j) (hj2 : j < P.n.kids.length) : Zq (ZT l P.n i a b k) ((nP l P i k).n.kids.getD (j + 1) 0) = Zq l (P.n.kids.getD j 0) := by
 have hi := p.hi
 have e := p.t.at p.mem p.h0 (j := j) om9
 have hkl := (Z5 (p.t.kids p.mem) p.h0)
 rw [p.kid_j, if_neg om9, if_neg om9, show j + 1 - 1 = j from rfl, p.slot_at p.mem p.h0 om9]
 refine p.find_x e.1 (p.ne e.1 p.mem om9) fun e2 => ?_
 have := p.t.kid_nd p.mem (i := j) (j := i) (by rw [hkl.1, Zai]; omega) (by rw [hkl.1, Zai]; omega) (by rw [(p.t.kidsD_at p.mem p.h0).2, (p.t.kidsD_at p.mem p.h0).2]; exact e2)
 omega
theorem k_lo (p : PartOf c l ss P i a b k h) {j : Nat} (hj : j < i) : Zb (ZT l P.n i a b k) (nP l P i k) j = Zb l P j := by
 have hi := p.hi
 refine ZbR (by rw [p.e_lo hj]) (fun q => ?_) fun s _ => rfl
 show _ = (Zb l P j).s.has q
 rw [p.shas om9, p.khas om9]
 cases hq : q.lt k
 ·have := (p.route q).2 hq
  rw [decide_eq_false (show ¬ j = Ze (nP l P i k).n.pivots q by omega), decide_eq_false (show ¬ j = Ze P.n.pivots q by omega)]
 ·rw [((p.route q).1 hq).1]
theorem k_hi (p : PartOf c l ss P i a b k h) {j : Nat} (hj : i < j) (hj2 : j < P.n.kids.length) : Zb (ZT l P.n i a b k) (nP l P i k) (j + 1) = Zb l P j := by
 refine ZbR (by rw [p.e_hi hj hj2]) (fun q => ?_) fun s _ => rfl
 show _ = (Zb l P j).s.has q
 rw [p.shas om9, p.khas om9]
 cases hq : q.lt k
 ·rw [((p.route q).2 hq).1]; simp
 ·have := (p.route q).1 hq
  rw [decide_eq_false (show ¬ j + 1 = Ze (nP l P i k).n.pivots q by omega), decide_eq_false (show ¬ j = Ze P.n.pivots q by omega)]
theorem fixP (p : PartOf c l ss P i a b k h) : (Z4 (ZT l P.n i a b k) (nP l P i k)).isSome = true ∧ Zj (ZT l P.n i a b k) (nP l P i k) = (Zj l P).flatMap (fP l P i a b k) := by
 obtain ⟨h1, h2, h3, h4⟩ := Z5 (p.t.kids p.mem) p.h0
 have hi := p.hi
 have hkl := p.klen
 have hkm := p.km.2
 obtain ⟨g1, g2⟩ := ZaV (l := ZT l P.n i a b k) (x := nP l P i k) h2 p.rt' fun j hj => by
  by_cases c1 : j < i
  ·rw [ZbS (l' := l) (y := P) (j := j) (p.e_lo c1) rfl]; exact h4 j om9
  ·by_cases c2 : j = i
   ·subst c2
    unfold XC
    rw [p.kid_j, if_pos (Nat.le_refl _), p.slot_at p.mem p.h0 p.hi, p.find_k]
    simp only [Bool.true_and, decide_eq_true_eq]
    rw [p.hv.la, hkm]; rfl
   ·by_cases c3 : j = i + 1
    ·subst c3
     unfold XC
     rw [p.kid_j, if_neg om9, if_pos rfl, p.find_y]
     simp only [Bool.true_and, decide_eq_true_eq]
     rw [p.hv.lb, hkm]; rfl
    ·obtain ⟨q, rfl⟩ : ∃ q, j = q + 1 := ⟨j - 1, om9⟩
     rw [ZbS (l' := l) (y := P) (j := q) (p.e_hi om9 om9) rfl]; exact h4 q om9
 refine ⟨g1, ?_⟩
 obtain ⟨r, hr⟩ : ∃ r, P.n.kids.length = i + (1 + r) := ⟨P.n.kids.length - (i + 1), om9⟩
 rw [g2, h1, hkl, hr, show i + (1 + r) + 1 = i + (2 + r) by omega]
 have hf : ∀ j, j < P.n.kids.length → j ≠ i → fP l P i a b k (Zb l P j) = [Zb l P j] := fun j hj hne => by
  have e := p.t.at p.mem p.h0 hj
  refine f_x (p.ne e.1 p.mem om9) fun e2 => ?_
  have := p.t.kid_nd p.mem (i := j) (j := i) (by rw [h1, Zai]; omega) (by rw [h1, Zai]; omega) (by rw [(p.t.kidsD_at p.mem p.h0).2, (p.t.kidsD_at p.mem p.h0).2]; exact e2)
  exact hne this
 unfold Y8
 rw [show List.range (i + (2 + r)) = List.range i ++ (List.range (2 + r)).map (i + ·) from List.range_add, show List.range (i + (1 + r)) = List.range i ++ (List.range (1 + r)).map (i + ·) from List.range_add, List.map_append, List.map_append, List.flatMap_append, List.map_map, List.map_map]
 congr 1
 ·rw [Zd4 fun y hy => ?_]
  ·exact List.map_congr_left fun j hj => p.k_lo (List.mem_range.1 hj)
  ·obtain ⟨j, hj, rfl⟩ := List.mem_map.1 hy
   have := List.mem_range.1 hj
   exact hf j om9 om9
 ·rw [show List.range (2 + r) = List.range 2 ++ (List.range r).map (2 + ·) from List.range_add, show List.range (1 + r) = List.range 1 ++ (List.range r).map (1 + ·) from List.range_add, List.map_append, List.map_append, List.flatMap_append, List.map_map, List.map_map]
  congr 1
  ·show [Zb (ZT l P.n i a b k) (nP l P i k) (i + 0), Zb (ZT l P.n i a b k) (nP l P i k) (i + 1)] = ([Zb l P (i + 0)]).flatMap _
   rw [List.flatMap_cons, List.flatMap_nil, List.append_nil, Nat.add_zero, f_k]; rfl
  ·rw [Zd4 fun y hy => ?_]
   ·refine List.map_congr_left fun j hj => ?_
    have := List.mem_range.1 hj
    have e := p.k_hi (j := i + (1 + j)) om9 om9
    rw [show i + (1 + j) + 1 = i + (2 + j) by omega] at e
    exact e
   ·obtain ⟨j, hj, rfl⟩ := List.mem_map.1 hy
    have := List.mem_range.1 hj
    exact hf (i + (1 + j)) om9 om9
theorem kid_in (p : PartOf c l ss P i a b k h) : Zb l P i ∈ Zj l P := by
 have h1 := (Z5 (p.t.kids p.mem) p.h0).1
 rw [h1]
 exact List.mem_map.2 ⟨i, List.mem_range.2 p.hi, rfl⟩
theorem fixX (p : PartOf c l ss P i a b k h) {x : Seat} (hx : x ∈ ss) (n1 : x.n.slot ≠ P.n.slot) : (Z4 (ZT l P.n i a b k) x).isSome = true ∧ Zj (ZT l P.n i a b k) x = (Zj l x).flatMap (fP l P i a b k) := by
 by_cases h0 : x.n.level = 0
 ·rw [ZaS h0, Xq h0, Xq h0]; exact ⟨rfl, rfl⟩
 ·obtain ⟨h1, h2, h3, h4⟩ := Z5 (p.t.kids hx) h0
  have key : ∀ j, j < x.n.kids.length → fP l P i a b k (Zb l x j) = [Zb (ZT l P.n i a b k) x j] ∧ XC (ZT l P.n i a b k) x j = true := fun j hj => by
   have e := p.t.at hx h0 hj
   have hin : Zb l x j ∈ Zj l x := by rw [h1]; exact List.mem_map.2 ⟨j, List.mem_range.2 hj, rfl⟩
   have nk : (Zb l x j).n.slot ≠ (Zb l P i).n.slot := fun e2 => n1 (by rw [p.t.parent hx p.mem hin p.kid_in e2])
   by_cases c1 : (Zb l x j).n.slot = P.n.slot
   ·have eP := p.t.uniq e.1 p.mem c1
    have ef : Zq (ZT l P.n i a b k) (x.n.kids.getD j 0) = (Xc P.n i k l.length, true) := by rw [p.slot_at hx h0 hj, c1, p.find_p]
    have ek : Zb (ZT l P.n i a b k) x j = ⟨Xc P.n i k l.length, (Zb l x j).s, (Zb l x j).ms⟩ := by
     show (⟨(Zq _ _).1, _, _⟩ : Seat) = _
     rw [ef]; rfl
    refine ⟨?_, ?_⟩
    ·rw [ek, eP, p.f_p]; rfl
    ·unfold XC
     rw [ef]
     simp only [Bool.true_and, decide_eq_true_eq]
     have := e.2.2.2
     rw [eP] at this
     exact this
   ·have ef : Zq (ZT l P.n i a b k) (x.n.kids.getD j 0) = Zq l (x.n.kids.getD j 0) := by rw [p.slot_at hx h0 hj, p.find_x e.1 c1 nk]
    refine ⟨?_, ?_⟩
    ·rw [f_x c1 nk, ZbR (l := l) (l' := ZT l P.n i a b k) (x := x) (y := x) (i := j) (j := j) (by rw [ef]) (fun _ => rfl) (fun _ _ => rfl)]
    ·rw [ZbS (l' := l) (y := x) (j := j) ef rfl]; exact h4 j hj
  obtain ⟨g1, g2⟩ := ZaV (l := ZT l P.n i a b k) (x := x) h2 h3 fun j hj => (key j hj).2
  refine ⟨g1, ?_⟩
  rw [g2, h1]
  unfold Y8
  rw [List.flatMap_map]
  have : ∀ (L : List Nat), (∀ j ∈ L, j < x.n.kids.length) → L.map (Zb (ZT l P.n i a b k) x) = L.flatMap fun j => fP l P i a b k (Zb l x j) := by
   intro L
   induction L with
   | nil => intro _; rfl
   | cons j L ih =>
    intro hL
    rw [List.map_cons, List.flatMap_cons, (key j (hL j (by simp))).1, ih fun z hz => hL z (List.mem_cons_of_mem _ hz)]; rfl
  exact this _ fun j hj => List.mem_range.1 hj
theorem froot (p : PartOf c l ss P i a b k h) : fP l P i a b k (Zg l 0) = [Zg (ZT l P.n i a b k) 0] := by
 have n2 : (Zg l 0).n.slot ≠ (Zb l P i).n.slot := (p.t.root_kid p.mem p.kid_in).symm
 have e0 := p.t.root0
 by_cases c1 : (Zg l 0).n.slot = P.n.slot
 ·have eP := p.t.uniq p.t.root p.mem c1
  have e : Zg (ZT l P.n i a b k) 0 = ⟨Xc P.n i k l.length, (Zg l 0).s, (Zg l 0).ms⟩ := by
   show (⟨(Zq _ _).1, _, _⟩ : Seat) = _
   have := p.find_p
   rw [← c1, e0] at this
   rw [this]; rfl
  rw [e, eP, p.f_p]; rfl
 ·rw [f_x c1 n2]
  have := p.find_x p.t.root c1 n2
  rw [e0] at this
  show [(⟨(Zq l 0).1, _, _⟩ : Seat)] = [⟨(Zq _ 0).1, _, _⟩]
  rw [this]
theorem each (p : PartOf c l ss P i a b k h) {x : Seat} (hx : x ∈ ss) : (∀ z ∈ fP l P i a b k x, (Z4 (ZT l P.n i a b k) z).isSome = true) ∧ (fP l P i a b k x).flatMap (Zj (ZT l P.n i a b k)) = (Zj l x).flatMap (fP l P i a b k) := by
 by_cases c1 : x.n.slot = (Zb l P i).n.slot
 ·rw [p.t.uniq hx p.km.1 c1, f_k]
  obtain ⟨g1, g2, g3⟩ := p.fixK
  refine ⟨fun z hz => ?_, ?_⟩
  ·simp only [List.mem_cons, List.not_mem_nil, or_false] at hz
   rcases hz with rfl | rfl
   ·exact g1
   ·exact g2
  ·rw [Zd4 (L := Zj l (Zb l P i)) fun y hy => ?_]
   ·simpa using g3
   ·have e := p.t.kid_lvl p.km.1 hy
    have g := p.km.2
    exact f_x (p.ne e.1 p.mem om9) (p.ne e.1 p.km.1 om9)
 ·by_cases c2 : x.n.slot = P.n.slot
  ·rw [p.t.uniq hx p.mem c2, p.f_p]
   refine ⟨fun z hz => ?_, ?_⟩
   ·rw [List.mem_singleton] at hz; rw [hz]; exact p.fixP.1
   ·rw [← p.fixP.2]; simp
  ·rw [f_x c2 c1]
   refine ⟨fun z hz => ?_, ?_⟩
   ·rw [List.mem_singleton] at hz; rw [hz]; exact (p.fixX hx c2).1
   ·rw [← (p.fixX hx c2).2]; simp
theorem fix (p : PartOf c l ss P i a b k h) : ss.flatMap (fP l P i a b k) = Zg (ZT l P.n i a b k) 0 :: (ss.flatMap (fP l P i a b k)).flatMap (Zj (ZT l P.n i a b k)) := by
 rw [ZjL fun x hx => (p.each hx).2]
 conv => lhs; rw [p.t.fix]
 rw [List.flatMap_cons, p.froot]; rfl
theorem keys_out (p : PartOf c l ss P i a b k h) : ∀ (L : List Seat), (∀ x ∈ L, x ∈ ss ∧ x.n.slot ≠ (Zb l P i).n.slot) → (L.flatMap (fP l P i a b k)).map Seat.key = L.map Seat.key
 | [], _ => rfl
 | x :: L, hL => by
  rw [List.flatMap_cons, List.map_append, p.keys_out L fun z hz => hL z (List.mem_cons_of_mem _ hz), List.map_cons]
  have g := hL x (by simp)
  by_cases c2 : x.n.slot = P.n.slot
  ·rw [p.t.uniq g.1 p.mem c2, p.f_p]; rfl
  ·rw [f_x c2 g.2]; rfl
theorem keys (p : PartOf c l ss P i a b k h) : ∃ S1 S2 : List Key9, ss.map Seat.key = S1 ++ ((Zb l P i).n.slot, (Zb l P i).n.level, (Zb l P i).n.right) :: S2 ∧
  (ss.flatMap (fP l P i a b k)).map Seat.key = S1 ++ ((Zb l P i).n.slot, (Zb l P i).n.level, (l.length : Int)) :: ((l.length : Int), (Zb l P i).n.level, (Zb l P i).n.right) :: S2 := by
 obtain ⟨A, B, e⟩ := List.append_of_mem p.km.1
 have hnd := p.t.nodup_s
 have hA : ∀ x ∈ A, x ∈ ss ∧ x.n.slot ≠ (Zb l P i).n.slot := fun x hx => by
  refine ⟨by rw [e]; exact List.mem_append_left _ hx, fun e2 => ?_⟩
  rw [e, List.map_append, List.nodup_append] at hnd
  exact hnd.2.2 _ (List.mem_map.2 ⟨x, hx, rfl⟩) _ (List.mem_map.2 ⟨Zb l P i, by simp, rfl⟩) e2
 have hB : ∀ x ∈ B, x ∈ ss ∧ x.n.slot ≠ (Zb l P i).n.slot := fun x hx => by
  refine ⟨by rw [e]; exact List.mem_append_right _ (List.mem_cons_of_mem _ hx), fun e2 => ?_⟩
  rw [e, List.map_append, List.nodup_append, List.map_cons, List.nodup_cons] at hnd
  exact hnd.2.1.1 (List.mem_map.2 ⟨x, hx, e2⟩)
 refine ⟨A.map Seat.key, B.map Seat.key, ?_, ?_⟩
 ·conv => lhs; rw [e]
  rw [List.map_append, List.map_cons]; rfl
 ·conv => lhs; rw [e]
  rw [List.flatMap_append, List.flatMap_cons, List.map_append, List.map_append, p.keys_out A hA, p.keys_out B hB, f_k]
  congr 1
  show [Seat.key (nA l P i a b k), Seat.key (nB l P i a b k)] ++ _ = _
  have k1 : Seat.key (nA l P i a b k) = ((Zb l P i).n.slot, (Zb l P i).n.level, (l.length : Int)) := by
   unfold Seat.key; rw [p.an, p.sa, p.hv.la, p.hv.aright, p.sb]
  have k2 : Seat.key (nB l P i a b k) = ((l.length : Int), (Zb l P i).n.level, (Zb l P i).n.right) := by
   unfold Seat.key; rw [p.bn, p.sb, p.hv.lb, p.hv.bend.2.2]
  rw [k1, k2]; rfl
theorem perm (p : PartOf c l ss P i a b k h) : ((ss.flatMap (fP l P i a b k)).map fun x : Seat => x.n.slot).Perm ((ZT l P.n i a b k).map fun n : Nd => n.slot) := by
 obtain ⟨S1, S2, e1, e2⟩ := p.keys
 have h1 : (ss.flatMap (fP l P i a b k)).map (fun x : Seat => x.n.slot) = ((ss.flatMap (fP l P i a b k)).map Seat.key).map (·.1) := by rw [List.map_map]; rfl
 have h2 : ss.map (fun x : Seat => x.n.slot) = (ss.map Seat.key).map (·.1) := by rw [List.map_map]; rfl
 have h3 : ((ss.flatMap (fP l P i a b k)).map fun x : Seat => x.n.slot).Perm ((ss.map fun x : Seat => x.n.slot) ++ [(l.length : Int)]) := by
  rw [h1, h2, e1, e2, List.map_append, List.map_append, List.append_assoc]
  refine List.Perm.append_left _ ?_
  simp only [List.map_cons, List.cons_append]
  exact List.Perm.cons _ (List.perm_append_singleton _ _).symm
 refine h3.trans ?_
 have h4 : ((ZT l P.n i a b k).map fun n : Nd => n.slot) = (l.map fun n : Nd => n.slot) ++ [(l.length : Int)] := by
  rw [ZaY p.slots, ZaY p.t.slot, p.len, List.range_succ, List.map_append]; rfl
 rw [h4]
 exact List.Perm.append_right _ p.t.perm_s
end PartOf
namespace PartOf
variable {c : Cfg} {l : List Nd} {ss : List Seat} {P : Seat} {i : Nat} {a b : Nd} {k : Str} {h : Nat}
theorem msA (p : PartOf c l ss P i a b k h) : ∀ m ∈ (nA l P i a b k).n.msgs, ∃ m' ∈ (Zb l P i).n.msgs, (m'.clip ⟨Str.nil, k, false⟩).2 = true ∧ (m'.clip ⟨Str.nil, k, false⟩).1 = m := fun m hm => by
 rw [p.an] at hm
 by_cases h0 : (Zb l P i).n.level = 0
 ·rw [(p.m0 h0).1, p.t.nomsgs p.km.1 h0] at hm; cases hm
 ·rw [(p.m1 h0).1] at hm; exact Zax hm
theorem msB (p : PartOf c l ss P i a b k h) : ∀ m ∈ (nB l P i a b k).n.msgs, ∃ m' ∈ (Zb l P i).n.msgs, (m'.clip ⟨k, Str.nil, true⟩).2 = true ∧ (m'.clip ⟨k, Str.nil, true⟩).1 = m := fun m hm => by
 rw [p.bn] at hm
 by_cases h0 : (Zb l P i).n.level = 0
 ·rw [(p.m0 h0).2, p.t.nomsgs p.km.1 h0] at hm; cases hm
 ·rw [(p.m1 h0).2] at hm; exact Zax hm
theorem kin9 (p : PartOf c l ss P i a b k h) : (Zb l P i).s.has k = true ∧ k ≠ (Zb l P i).s.lo := p.t.k_in p.km.1 p.hv p.nk
theorem phas (p : PartOf c l ss P i a b k h) : P.s.has k = true ∧ k ≠ P.s.lo := by
 obtain ⟨k1, k2⟩ := p.kin9
 have h1 : P.s.has k = true := Zbi (l := l) (j := i) k k1
 refine ⟨h1, fun e => ?_⟩
 have he : (Zb l P i).s.empty = false := by
  cases e9 : (Zb l P i).s.empty
  ·rfl
  ·have := YN.1 e9 k; rw [k1] at this; cases this
 have h2 := Zbi (l := l) (j := i) _ (Zi4 he)
 have h3 := (Yk.1 h2).1
 have h4 := (Yk.1 k1).1
 rw [← e] at h3
 exact k2 (Str.lt_total h4 h3)
theorem pR (p : PartOf c l ss P i a b k h) : (Xc P.n i k l.length).R c.fan c.leaf c.bud := by
 obtain ⟨q1, q4, q5, q6⟩ := (p.t.seat p.mem).1
 rw [if_neg p.h0] at q6
 obtain ⟨⟨r1, r2, r3⟩, r4, r5, r6, r7, r8, r9⟩ := q6
 obtain ⟨⟨p1, p2⟩, _⟩ := (p.t.seat p.mem).2.1
 refine ⟨q1, q4, q5, ?_⟩
 rw [if_neg (show ¬ (Xc P.n i k l.length).level = 0 from p.h0)]
 have hkl := p.klen
 have hl : (Xc P.n i k l.length).kids.length = P.n.kids.length + 1 := hkl
 have hf := p.full
 refine ⟨⟨r1, om9, om9⟩, p.rt', r5, r6, fun j hj => ?_, fun j hj => ?_, r9⟩
 ·have hm : (Xc P.n i k l.length).kids[j] ∈ (P.n.kids.take (i + 1) ++ [(l.length : Int)]) ++ P.n.kids.drop (i + 1) := List.getElem_mem hj
  have all : ∀ z ∈ P.n.kids, 0 ≤ z := fun z hz => by obtain ⟨q, hq, rfl⟩ := List.getElem_of_mem hz; exact r7 q hq
  rcases List.mem_append.1 hm with hm | hm
  ·rcases List.mem_append.1 hm with hm | hm
   ·exact all _ (List.mem_of_mem_take hm)
   ·rw [List.mem_singleton] at hm; rw [hm]; omega
  ·exact all _ (List.mem_of_mem_drop hm)
 ·have hm : (Xc P.n i k l.length).pivots[j] ∈ (P.n.pivots.take i ++ [k]) ++ P.n.pivots.drop i := List.getElem_mem hj
  have all : ∀ z ∈ P.n.pivots, P.n.parts z := fun z hz => by obtain ⟨q, hq, rfl⟩ := List.getElem_of_mem hz; exact r8 q hq
  rcases List.mem_append.1 hm with hm | hm
  ·rcases List.mem_append.1 hm with hm | hm
   ·exact all _ (List.mem_of_mem_take hm)
   ·rw [List.mem_singleton] at hm; rw [hm]
    refine ⟨p.hv.size.1, p.hv.size.2, ?_⟩
    show (P.n.top || k.lt P.n.high) = true
    rw [p1, p2, Bool.or_eq_true]
    exact (Yk.1 p.phas.1).2
  ·exact all _ (List.mem_of_mem_drop hm)
theorem pP (p : PartOf c l ss P i a b k h) : PlacedP (nP l P i k) := by
 obtain ⟨p0, p3, p4, p5⟩ := (p.t.seat p.mem).2.1
 refine ⟨p0, p3, fun j hj => ?_, p5⟩
 have hm : (nP l P i k).n.pivots[j] ∈ (P.n.pivots.take i ++ [k]) ++ P.n.pivots.drop i := List.getElem_mem hj
 have all : ∀ z ∈ P.n.pivots, P.s.has z = true ∧ z ≠ P.s.lo := fun z hz => by obtain ⟨q, hq, rfl⟩ := List.getElem_of_mem hz; exact p4 q hq
 rcases List.mem_append.1 hm with hm | hm
 ·rcases List.mem_append.1 hm with hm | hm
  ·exact all _ (List.mem_of_mem_take hm)
  ·rw [List.mem_singleton] at hm; rw [hm]; exact p.phas
 ·exact all _ (List.mem_of_mem_drop hm)
theorem seats9 (p : PartOf c l ss P i a b k h) : ∀ z ∈ ss.flatMap (fP l P i a b k), SeatP c z := fun z hz => by
 obtain ⟨x, hx, hz⟩ := List.mem_flatMap.1 hz
 have sK := p.t.seat p.km.1
 have room := p.room
 by_cases c1 : x.n.slot = (Zb l P i).n.slot
 ·rw [p.t.uniq hx p.km.1 c1, f_k] at hz
  simp only [List.mem_cons, List.not_mem_nil, or_false] at hz
  have st : ∀ {s : Span} {ms : List Msg}, ms = Zc s (Zb l P i).ms → ∀ j (hj : j < ms.length), (Zb l P i).n.seen < ms[j].stamp := fun e j hj => by
   subst e
   obtain ⟨m0, hm0, e⟩ := JL (List.getElem_mem hj)
   rw [e]
   obtain ⟨q, hq, rfl⟩ := List.getElem_of_mem hm0
   exact sK.2.2.2 q hq
  rcases hz with rfl | rfl
  ·refine ⟨by rw [p.an]; exact p.aR, HSeat.placedA p.t p.km.1 p.hs (XT _ _) p.nk p.msA, by rw [p.an, p.sa]; exact sK.2.2.1, fun j hj => ?_⟩
   rw [p.an, p.ea]; exact st p.ams j hj
  ·refine ⟨by rw [p.bn]; exact p.bR, HSeat.placedB p.t p.km.1 p.hs (XT _ _) p.nk p.msB, by rw [p.bn, p.sb]; exact room, fun j hj => ?_⟩
   rw [p.bn, p.eb]; exact st p.bms j hj
 ·by_cases c2 : x.n.slot = P.n.slot
  ·rw [p.t.uniq hx p.mem c2, p.f_p, List.mem_singleton] at hz
   rw [hz]
   have sP := p.t.seat p.mem
   exact ⟨p.pR, p.pP, sP.2.2.1, sP.2.2.2⟩
  ·rw [f_x c2 c1, List.mem_singleton] at hz
   rw [hz]; exact p.t.seat hx
theorem tree (p : PartOf c l ss P i a b k h) : Tree c (ZT l P.n i a b k) (ss.flatMap (fP l P i a b k)) := by
 have hfew := p.few
 have hroom := p.room
 refine ZdH p.t.cfg (by rw [p.len]; omega) (Zd3 p.t.cfg (by rw [p.len]; omega) fun n hn => ?_) p.slots p.fix (fun z hz => ?_) p.perm ?_ (by rw [p.len]; omega) p.seats9
 ·have old : ∀ n ∈ l, n.R c.fan c.leaf c.bud := fun n hn => by
   have := (p.t.perm.mem_iff).2 hn
   obtain ⟨x, hx, rfl⟩ := List.mem_map.1 this
   exact (p.t.seat hx).1
  unfold ZT at hn
  rcases List.mem_append.1 hn with hn | hn
  ·rcases List.mem_or_eq_of_mem_set hn with hn | rfl
   ·rcases List.mem_or_eq_of_mem_set hn with hn | rfl
    ·exact old n hn
    ·exact p.aR
   ·exact p.pR
  ·rw [List.mem_singleton] at hn; rw [hn]; exact p.bR
 ·obtain ⟨x, hx, hz⟩ := List.mem_flatMap.1 hz
  exact (p.each hx).1 z hz
 ·obtain ⟨S1, S2, e1, e2⟩ := p.keys
  rw [e2]
  have := (Zbk ss).1 p.t.q.1.2.1
  rw [e1] at this
  exact Zfv S1 S2 this
theorem map (p : PartOf c l ss P i a b k h) : Zl (ZT l P.n i a b k) = Zl l := by
 rw [Jx p.tree.sts, Jx p.t.sts]
 refine ZfX fun x hx => ?_
 by_cases c1 : x.n.slot = (Zb l P i).n.slot
 ·rw [p.t.uniq hx p.km.1 c1, f_k]
  exact HSeat.view p.t p.km.1 p.hs (fun _ => by rw [p.ams, XJ fun _ h => h]) fun _ => by rw [p.bms, XJ fun _ h => h]
 ·by_cases c2 : x.n.slot = P.n.slot
  ·rw [p.t.uniq hx p.mem c2, p.f_p]
   have e1 : ¬ P.n.level = 0 := p.h0
   have e2 : ¬ (nP l P i k).n.level = 0 := p.h0
   simp [ZE, List.filter_cons, e1, e2]
  ·rw [f_x c2 c1]
end PartOf
theorem ZpL {c : Cfg} {l : List Nd} {ss : List Seat} (t : Tree c l ss) {P : Seat} {i : Nat} (hP : P ∈ ss) (h0 : ¬ P.n.level = 0) (hi : i < P.n.kids.length) (full : (P.n.kids.length : Int) < c.fan) (room : (l.length : Int) < c.slots) (few : l.length < 4096)
  (hc : (Zo (Zb l P i).n l.length).2.2.2 = true) (ha : (Y9 P.n i (Zo (Zb l P i).n l.length).2.2.1 l.length).2 = true) :
  (Y9 P.n i (Zo (Zb l P i).n l.length).2.2.1 l.length).1 = Xc P.n i (Zo (Zb l P i).n l.length).2.2.1 l.length ∧
  ∃ h, PartOf c l ss P i (Zo (Zb l P i).n l.length).1 (Zo (Zb l P i).n l.length).2.1 (Zo (Zb l P i).n l.length).2.2.1 h := by
 have hK := (t.at hP h0 hi).1
 have hR := (t.seat hK).1
 have hRR := Zhu (slot := (l.length : Int)) hR om9 hc
 obtain ⟨a, b, k, h, e, hv, g1, g2, g3, g4, g5, g6, g7⟩ := Zd2 (y := (l.length : Int)) hR hc
 rw [e] at ha hRR ⊢
 have hb : (X6 P.n.pivots P.n.kids i k l.length).2.length ≠ 0 := fun e0 => by
  rw [Zfx (.inr e0)] at ha; cases ha
 have h3 : (Zf P.n.pivots (i : Int)).has k = true := by
  cases h3 : (Zf P.n.pivots (i : Int)).has k
  ·exact absurd (Zfz (.inr (.inl h3))) hb
  ·rfl
 have h4 : ¬ k = (Zf P.n.pivots (i : Int)).lo := fun h4 => absurd (Zfz (.inr (.inr h4))) hb
 refine ⟨?_, h, ⟨t, hP, h0, hi, hv, g1, g2, g3, g4, g5, g6, g7, hRR.1, hRR.2.1, h3, h4, full, room, few⟩⟩
 rw [ZoT h0 om9 h3 h4]; rfl
structure PourOf (c : Cfg) (l : List Nd) (ss : List Seat) (P : Seat) (i : Nat) (a b : Nd) (T : List Msg) : Prop where
 t : Tree c l ss
 mem : P ∈ ss
 h0 : ¬ P.n.level = 0
 hi : i < P.n.kids.length
 po : Poured c P.n (Zb l P i).n i a b T
def ZQ (l : List Nd) (a b : Nd) : List Nd := (l.set a.slot.toNat a).set b.slot.toNat b
namespace PourOf
variable {c : Cfg} {l : List Nd} {ss : List Seat} {P : Seat} {i : Nat} {a b : Nd} {T : List Msg}
theorem km (p : PourOf c l ss P i a b T) : Zb l P i ∈ ss ∧ (Zb l P i).n.level = P.n.level - 1 := by
 have := p.t.at p.mem p.h0 p.hi
 exact ⟨this.1, this.2.2.2⟩
theorem ne (p : PourOf c l ss P i a b T) {x y : Seat} (hx : x ∈ ss) (hy : y ∈ ss) (hl : x.n.level ≠ y.n.level) : x.n.slot ≠ y.n.slot := fun e => hl (by rw [p.t.uniq hx hy e])
theorem ksl (p : PourOf c l ss P i a b T) : (Zb l P i).n.slot ≠ P.n.slot := p.ne p.km.1 p.mem (by have := p.km.2; omega)
theorem sin (p : PourOf c l ss P i a b T) {x : Seat} (hx : x ∈ ss) : 0 ≤ x.n.slot ∧ x.n.slot < l.length := (p.t.nd hx).1
theorem lseen (p : PourOf c l ss P i a b T) {x : Seat} (hx : x ∈ ss) : x.n.seen ≤ 1099511627776 := by
 obtain ⟨j, hj, e⟩ := List.getElem_of_mem (p.t.nd hx).2.2
 rw [← e]; exact (p.t.slot j hj).2
theorem al (p : PourOf c l ss P i a b T) : a.slot = P.n.slot ∧ a.level = P.n.level ∧ a.pivots = P.n.pivots ∧ a.kids = P.n.kids ∧ a.high = P.n.high ∧ a.top = P.n.top ∧ a.right = P.n.right ∧ a.seen = P.n.seen ∧ a.rows = P.n.rows ∧ a.msgs = ZJ P.n.pivots i T P.n.msgs := by
 rw [p.po.ea]; exact ⟨rfl, rfl, rfl, rfl, rfl, rfl, rfl, rfl, rfl, rfl⟩
theorem bl (p : PourOf c l ss P i a b T) : b.slot = (Zb l P i).n.slot ∧ b.level = (Zb l P i).n.level ∧ b.pivots = (Zb l P i).n.pivots ∧ b.kids = (Zb l P i).n.kids ∧ b.high = (Zb l P i).n.high ∧ b.top = (Zb l P i).n.top ∧ b.right = (Zb l P i).n.right := by
 rw [p.po.eb]; exact ⟨rfl, rfl, rfl, rfl, rfl, rfl, rfl⟩
theorem rt (p : PourOf c l ss P i a b T) : ZZ P.n.pivots = true ∧ P.n.kids.length = P.n.pivots.length + 1 := YM (Z5 (p.t.kids p.mem) p.h0).2.2.1
theorem pin (p : PourOf c l ss P i a b T) : P.n.innerR c.fan c.bud := p.t.inner p.mem p.h0
theorem kne (p : PourOf c l ss P i a b T) : (Zb l P i).s.empty = false := by
 cases h : (Zb l P i).s.empty
 ·rfl
 ·exfalso
  have hz : (Zb l P i).s = Span.zero := by
   have := XT P.s (Zf P.n.pivots (i : Int))
   have e : (Zb l P i).s = (Zb l P i).s.norm := this.symm
   rw [e]; unfold Span.norm; rw [if_pos h]
  have sK := p.t.seat p.km.1
  obtain ⟨⟨p1, p2⟩, _⟩ := sK.2.1
  rw [hz] at p1 p2
  exact (sK.1.2.2.1 p1).1 p2
theorem sps (p : PourOf c l ss P i a b T) : (YK P.n i).opn = (Zb l P i).s.opn ∧ (YK P.n i).hi = (Zb l P i).s.hi ∧ ∀ q, (Zb l P i).s.has q = true → (YK P.n i).has q = true := by
 have hne := p.kne
 obtain ⟨⟨p1, p2⟩, _⟩ := (p.t.seat p.mem).2.1
 have hP : ∀ q, P.s.has q = (P.n.has q && !q.lt P.s.lo) := fun q => by
  unfold Nd.has Span.has
  rw [p1, p2, Bool.and_comm]
 have hA : ∀ q, (Zb l P i).s.has q = ((YK P.n i).has q && !q.lt P.s.lo) := fun q => by
  show (P.s.meet (Zf P.n.pivots (i : Int))).has q = _
  rw [ZH, Zd0, hP]
  cases P.n.has q <;> cases (Zf P.n.pivots (i : Int)).has q <;> simp
 have hlo : (Zb l P i).s.has (Zb l P i).s.lo = true := by have := Span.empty_eq (Zb l P i).s; rw [hne] at this; simpa using this
 have hlo2 : (YK P.n i).has (Zb l P i).s.lo = true := by rw [hA, Bool.and_eq_true] at hlo; exact hlo.1
 have e := Zi5 (s := YK P.n i) (a := (Zb l P i).s) (k := (Zb l P i).s.lo) (XT _ _) (XT _ _) hlo2 fun q => by
  cases h1 : (Zb l P i).s.has q
  ·symm
   cases h2 : (YK P.n i).has q
   ·rfl
   ·cases h3 : q.lt (Zb l P i).s.lo
    ·exfalso
     have h4 := hlo
     rw [hA, Bool.and_eq_true] at h4
     have h5 : q.lt P.s.lo = false := Str.le_trans (by simpa using h4.2) h3
     rw [hA, h2, h5] at h1; cases h1
    ·rfl
  ·have h2 := h1
   rw [hA, Bool.and_eq_true] at h2
   rw [h2.1, (Yk.1 h1).1]; rfl
 exact ⟨by rw [e], by rw [e], fun q hq => by rw [hA, Bool.and_eq_true] at hq; exact hq.1⟩
theorem mspan (p : PourOf c l ss P i a b T) : ∀ m ∈ P.n.msgs, ∀ q, m.span.has q = true → P.s.has q = true := fun m hm q hq => by
 obtain ⟨_, _, _, p5⟩ := (p.t.seat p.mem).2.1
 obtain ⟨j, hj, rfl⟩ := List.getElem_of_mem hm
 have := congrArg (fun s : Span => s.has q) (p5 j hj)
 rw [ZH, ZaP, hq, Bool.true_and] at this
 exact this
theorem khas (p : PourOf c l ss P i a b T) (q : Str) : (Zb l P i).s.has q = (P.s.has q && (Zf P.n.pivots (i : Int)).has q) := by
 show (P.s.meet (Zf P.n.pivots (i : Int))).has q = _
 rw [ZH]
theorem mv (p : PourOf c l ss P i a b T) : Moved P.n.pivots i P.n.msgs T := by
 obtain ⟨n, _, _, rfl⟩ := p.po.take
 exact ZjC p.rt.1 (by have := p.rt.2; have := p.hi; omega) p.pin.2.2.1 n
theorem hcl (p : PourOf c l ss P i a b T) : Zc (Zb l P i).s P.n.msgs = T ++ Zc (Zb l P i).s a.msgs := by
 rw [p.al.2.2.2.2.2.2.2.2.2]
 refine p.mv.clips_in p.rt.1 (by have := p.rt.2; have := p.hi; omega) p.pin.2.2.1 (fun q hq => ?_) fun m hm q h1 h2 => ?_
 ·rw [p.khas, Bool.and_eq_true] at hq; exact hq.2
 ·rw [p.khas, p.mspan m hm q h1, h2]; rfl
theorem hout (p : PourOf c l ss P i a b T) {t : Span} (ht : ∀ k, t.has k = true → (Zf P.n.pivots (i : Int)).has k = false) : Zc t a.msgs = Zc t P.n.msgs := by
 rw [p.al.2.2.2.2.2.2.2.2.2]
 exact p.mv.clips_out p.rt.1 (by have := p.rt.2; have := p.hi; omega) p.pin.2.2.1 ht
theorem may (p : PourOf c l ss P i a b T) : MayP c P.n (Zb l P i).n i := by
 have sK := p.t.seat p.km.1
 obtain ⟨⟨p1, p2⟩, _⟩ := sK.2.1
 have hl := p.t.lvl p.mem
 have h0 := p.h0
 have hi := p.hi
 obtain ⟨s1, s2, s3⟩ := p.sps
 refine ⟨⟨(p.t.seat p.mem).1, sK.1, om9, p.km.2, om9, om9⟩, ⟨by rw [s1]; exact p1, by rw [s2]; exact p2⟩, fun j hj he => ?_⟩
 have hm := List.getElem_mem hj
 have hsame : (P.n.msgs[j].span.meet (Zb l P i).s).empty = false := by
  cases h1 : (P.n.msgs[j].span.meet (Zb l P i).s).empty
  ·rfl
  ·have h2 : (P.n.msgs[j].span.meet (YK P.n i)).empty = true := YN.2 fun q => by
    have h3 := YN.1 h1 q
    rw [ZH] at h3 ⊢
    cases h4 : P.n.msgs[j].span.has q
    ·rfl
    ·rw [h4, Bool.true_and] at h3
     rw [Bool.true_and]
     cases h5 : (YK P.n i).has q
     ·rfl
     ·rw [Zd0, Bool.and_eq_true] at h5
      rw [p.khas, p.mspan _ hm q h4, h5.2] at h3; cases h3
   rw [h2] at he; cases he
 have hc : (P.n.msgs[j].clip (Zb l P i).s).2 = true := by
  cases h1 : (P.n.msgs[j].clip (Zb l P i).s).2
  ·rw [Jv.1 h1] at hsame; cases hsame
  ·rfl
 have hmem : (P.n.msgs[j].clip (Zb l P i).s).1 ∈ (Zb l P i).ms := by
  rw [(p.t.kid_ms p.mem (p.t.rst P p.mem) i).1]
  exact List.mem_append_left _ (List.mem_filterMap.2 ⟨_, hm, if_pos hc⟩)
 obtain ⟨q, hq, e⟩ := List.getElem_of_mem hmem
 have := sK.2.2.2 q hq
 rw [e, Jh hc] at this
 exact this
noncomputable def nP (P : Seat) (a : Nd) : Seat := ⟨a, P.s, P.ms⟩
noncomputable def nK (l : List Nd) (P : Seat) (i : Nat) (a b : Nd) : Seat := ⟨b, (Zb l P i).s, Zc (Zb l P i).s a.msgs ++ Zc (Zb l P i).s P.ms⟩
noncomputable def gP (l : List Nd) (P : Seat) (i : Nat) (a b : Nd) (x : Seat) : Seat := if x.n.slot = (Zb l P i).n.slot then nK l P i a b else if x.n.slot = P.n.slot then nP P a else x
theorem g_k : gP l P i a b (Zb l P i) = nK l P i a b := if_pos rfl
theorem g_p (p : PourOf c l ss P i a b T) : gP l P i a b P = nP P a := by unfold gP; rw [if_neg p.ksl.symm, if_pos rfl]
theorem g_x {x : Seat} (h1 : x.n.slot ≠ P.n.slot) (h2 : x.n.slot ≠ (Zb l P i).n.slot) : gP l P i a b x = x := by unfold gP; rw [if_neg h2, if_neg h1]
theorem three (p : PourOf c l ss P i a b T) {Q : Seat → Prop} (hk : Q (Zb l P i)) (hp : Q P) (hx : ∀ x ∈ ss, x.n.slot ≠ P.n.slot → x.n.slot ≠ (Zb l P i).n.slot → Q x) : ∀ x ∈ ss, Q x := fun x hm => by
 by_cases c1 : x.n.slot = (Zb l P i).n.slot
 ·rw [p.t.uniq hm p.km.1 c1]; exact hk
 ·by_cases c2 : x.n.slot = P.n.slot
  ·rw [p.t.uniq hm p.mem c2]; exact hp
  ·exact hx x hm c2 c1
theorem g_same (p : PourOf c l ss P i a b T) : ∀ x ∈ ss, (gP l P i a b x).n.slot = x.n.slot ∧ (gP l P i a b x).n.level = x.n.level ∧ (gP l P i a b x).n.right = x.n.right ∧ (gP l P i a b x).n.pivots = x.n.pivots ∧ (gP l P i a b x).n.kids = x.n.kids ∧ (gP l P i a b x).s = x.s := by
 obtain ⟨a1, a2, a3, a4, a5, a6, a7, _⟩ := p.al
 obtain ⟨b1, b2, b3, b4, b5, b6, b7⟩ := p.bl
 refine p.three ?_ ?_ fun x hx h1 h2 => ?_
 ·rw [g_k]; exact ⟨b1, b2, b7, b3, b4, rfl⟩
 ·rw [p.g_p]; exact ⟨a1, a2, a7, a3, a4, rfl⟩
 ·rw [g_x h1 h2]; exact ⟨rfl, rfl, rfl, rfl, rfl, rfl⟩
theorem slots (p : PourOf c l ss P i a b T) : SlotsP (ZQ l a b) := by
 have hk := p.sin p.km.1
 have hp := p.sin p.mem
 have tk := ZcF p.may p.po
 obtain ⟨⟨xl, hxl, exl⟩, _⟩ := Zd1 tk.rst p.po.ne
 have h1 := ZbY p.t.slot (x := a) (by rw [p.al.1]; exact hp) (by rw [p.al.2.2.2.2.2.2.2.1]; exact p.lseen p.mem)
 refine ZbY h1 (x := b) (by rw [List.length_set, p.bl.1]; exact hk) ?_
 rw [p.po.seen, exl]
 have hm : xl ∈ Zc (Zb l P i).s P.n.msgs := by rw [p.hcl]; exact List.mem_append_left _ hxl
 obtain ⟨m, hm, e⟩ := JL hm
 obtain ⟨j, hj, rfl⟩ := List.getElem_of_mem hm
 have := (p.pin.2.2.2.2.2.2 j hj).1
 have := p.lseen p.mem
 omega
theorem len (p : PourOf c l ss P i a b T) : (ZQ l a b).length = l.length := by unfold ZQ; rw [List.length_set, List.length_set]
theorem find (p : PourOf c l ss P i a b T) (s : Int) : Zq (ZQ l a b) s = (if s = (Zb l P i).n.slot then b else if s = P.n.slot then a else Za l s, decide (0 ≤ s ∧ s < (l.length : Int))) := by
 have hk := p.sin p.km.1
 have hp := p.sin p.mem
 rw [ZaE p.slots, p.len]
 congr 1
 unfold ZQ
 rw [ZaK (by rw [List.length_set, p.bl.1]; exact hk), p.bl.1, ZaK (by rw [p.al.1]; exact hp), p.al.1]
theorem find_g (p : PourOf c l ss P i a b T) {x : Seat} (hx : x ∈ ss) : Zq (ZQ l a b) x.n.slot = ((gP l P i a b x).n, true) := by
 have hs := p.sin hx
 rw [p.find, decide_eq_true ⟨hs.1, hs.2⟩]
 congr 1
 revert hs
 refine p.three (Q := fun x => 0 ≤ x.n.slot ∧ x.n.slot < (l.length : Int) → (if x.n.slot = (Zb l P i).n.slot then b else if x.n.slot = P.n.slot then a else Za l x.n.slot) = (gP l P i a b x).n) (fun hs => ?_) (fun hs => ?_) (fun x hx h1 h2 hs => ?_) x hx
 ·rw [if_pos rfl, g_k]; rfl
 ·rw [if_neg p.ksl.symm, if_pos rfl, p.g_p]; rfl
 ·rw [if_neg h2, if_neg h1, g_x h1 h2]; exact (p.t.nd hx).2.1.symm
theorem slot_at (p : PourOf c l ss P i a b T) {x : Seat} (hx : x ∈ ss) (h0 : ¬ x.n.level = 0) {j : Nat} (hj : j < x.n.kids.length) : x.n.kids.getD j 0 = (Zb l x j).n.slot := by
 have e := (p.t.at hx h0 hj)
 rw [List.getD_eq_getElem?_getD, List.getElem?_eq_getElem hj, e.2.2.1, (Yv p.t.slot e.2.1).1]; rfl
theorem kms (p : PourOf c l ss P i a b T) : (Zb l P i).ms = T ++ (Zc (Zb l P i).s a.msgs ++ Zc (Zb l P i).s P.ms) := by
 rw [(p.t.kid_ms p.mem (p.t.rst P p.mem) i).1, p.hcl, List.append_assoc]
theorem kid_g (p : PourOf c l ss P i a b T) {x : Seat} (hx : x ∈ ss) (h0 : ¬ x.n.level = 0) {j : Nat} (hj : j < x.n.kids.length) : Zb (ZQ l a b) (gP l P i a b x) j = gP l P i a b (Zb l x j) := by
 have hy := (p.t.at hx h0 hj).1
 obtain ⟨s1, s2, s3, s4, s5, s6⟩ := p.g_same x hx
 obtain ⟨y1, y2, y3, y4, y5, y6⟩ := p.g_same _ hy
 have en : (Zb (ZQ l a b) (gP l P i a b x) j).n = (gP l P i a b (Zb l x j)).n := by
  show (Zq _ ((gP l P i a b x).n.kids.getD j 0)).1 = _
  rw [s5, p.slot_at hx h0 hj, p.find_g hy]
 have es : (Zb (ZQ l a b) (gP l P i a b x) j).s = (Zb l x j).s := by
  show (gP l P i a b x).s.meet (Zf (gP l P i a b x).n.pivots (j : Int)) = _
  rw [s4, s6]; rfl
 have em : ZO [Zc (Zb l x j).s (gP l P i a b x).n.msgs, Zc (Zb l x j).s (gP l P i a b x).ms] = (gP l P i a b (Zb l x j)).ms := by
  have old : ZO [Zc (Zb l x j).s x.n.msgs, Zc (Zb l x j).s x.ms] = (Zb l x j).ms := rfl
  by_cases c1 : x.n.slot = (Zb l P i).n.slot
  ·have ex := p.t.uniq hx p.km.1 c1
   have n1 : (Zb l x j).n.slot ≠ P.n.slot := p.ne hy p.mem (by have := (p.t.at hx h0 hj).2.2.2; have := p.km.2; rw [ex] at *; omega)
   have n2 : (Zb l x j).n.slot ≠ (Zb l P i).n.slot := p.ne hy p.km.1 (by have := (p.t.at hx h0 hj).2.2.2; rw [ex] at *; omega)
   rw [g_x n1 n2, ← old, ex, g_k]
   have hI := p.po.inner (by rw [← ex]; exact h0)
   show ZO [Zc _ b.msgs, Zc _ (Zc (Zb l P i).s a.msgs ++ Zc (Zb l P i).s P.ms)] = _
   have h2 := (p.t.two p.km.1 (Zb l (Zb l P i) j).s)
   rw [h2.1]
   have h3 := h2.2
   have e1 : Zc (Zb l (Zb l P i) j).s (Zb l P i).ms = Zc (Zb l (Zb l P i) j).s T ++ Zc (Zb l (Zb l P i) j).s (Zc (Zb l P i).s a.msgs ++ Zc (Zb l P i).s P.ms) := by rw [p.kms]; exact Jk _ _ _
   have e2 : Zc (Zb l (Zb l P i) j).s b.msgs = Zc (Zb l (Zb l P i) j).s (Zb l P i).n.msgs ++ Zc (Zb l (Zb l P i) j).s T := by rw [hI.2.1]; exact Jk _ _ _
   rw [e1, ← List.append_assoc, ← e2] at h3 ⊢
   obtain ⟨r1, r2, r3⟩ := ZaX h3
   exact (ZaU r1 r2 r3).1
  ·by_cases c2 : x.n.slot = P.n.slot
   ·have ex := p.t.uniq hx p.mem c2
    subst ex
    rw [p.g_p]
    show ZO [Zc _ a.msgs, Zc _ x.ms] = _
    by_cases e : j = i
    ·subst e
     rw [g_k]
     have h3 := (p.t.two p.mem (Zb l x j).s).2
     rw [p.hcl, List.append_assoc] at h3
     obtain ⟨r1, r2, r3⟩ := ZaX (ZaX h3).2.1
     exact (ZaU r1 r2 r3).1
    ·have hne : (Zb l x j).n.slot ≠ (Zb l x i).n.slot := fun e2 => e (by
      have hkl := (Z5 (p.t.kids p.mem) p.h0)
      exact p.t.kid_nd p.mem (i := j) (j := i) (by rw [hkl.1, Zai]; exact hj) (by rw [hkl.1, Zai]; exact p.hi) (by rw [(p.t.kidsD_at p.mem p.h0).2, (p.t.kidsD_at p.mem p.h0).2]; exact e2))
     have n1 : (Zb l x j).n.slot ≠ x.n.slot := p.ne hy hx (by have := (p.t.at hx h0 hj).2.2.2; omega)
     rw [g_x n1 hne, ← old, p.hout fun q hq => ?_]
     have h1 := Zbg (l := l) (Z5 (p.t.kids p.mem) p.h0).2.2.1 hj q
     rw [hq] at h1
     have h2 := h1.symm
     rw [Bool.and_eq_true, decide_eq_true_eq] at h2
     rw [Xz p.rt.1 q (by have := p.rt.2; have := p.hi; omega), decide_eq_false om9]
   ·rw [g_x c2 c1, old]
    have hin : Zb l x j ∈ Zj l x := by rw [(Z5 (p.t.kids hx) h0).1]; exact List.mem_map.2 ⟨j, List.mem_range.2 hj, rfl⟩
    have hkin : Zb l P i ∈ Zj l P := by rw [(Z5 (p.t.kids p.mem) p.h0).1]; exact List.mem_map.2 ⟨i, List.mem_range.2 p.hi, rfl⟩
    have n2 : (Zb l x j).n.slot ≠ (Zb l P i).n.slot := fun e => c2 (by rw [p.t.parent hx p.mem hin hkin e])
    by_cases c3 : (Zb l x j).n.slot = P.n.slot
    ·rw [p.t.uniq hy p.mem c3, p.g_p]; rfl
    ·rw [g_x c3 n2]
 have e3 : (Zb (ZQ l a b) (gP l P i a b x) j).ms = ZO [Zc (Zb (ZQ l a b) (gP l P i a b x) j).s (gP l P i a b x).n.msgs, Zc (Zb (ZQ l a b) (gP l P i a b x) j).s (gP l P i a b x).ms] := rfl
 rw [es, em] at e3
 cases hA : Zb (ZQ l a b) (gP l P i a b x) j
 cases hB : gP l P i a b (Zb l x j)
 rw [hA] at en es e3
 rw [hB] at en e3 y6
 simp only at en es e3 y6
 rw [en, es, e3, y6]
theorem each (p : PourOf c l ss P i a b T) {x : Seat} (hx : x ∈ ss) : (Z4 (ZQ l a b) (gP l P i a b x)).isSome = true ∧ Zj (ZQ l a b) (gP l P i a b x) = (Zj l x).map (gP l P i a b) := by
 obtain ⟨s1, s2, s3, s4, s5, s6⟩ := p.g_same x hx
 by_cases h0 : x.n.level = 0
 ·rw [ZaS (by rw [s2]; exact h0), Xq (by rw [s2]; exact h0), Xq h0]; exact ⟨rfl, rfl⟩
 ·obtain ⟨h1, h2, h3, h4⟩ := Z5 (p.t.kids hx) h0
  obtain ⟨g1, g2⟩ := ZaV (l := ZQ l a b) (x := gP l P i a b x) (by rw [s2]; exact h2) (by rw [s4, s5]; exact h3) fun j hj => by
   rw [s5] at hj
   have e := p.t.at hx h0 hj
   unfold XC
   rw [s5, p.slot_at hx h0 hj, p.find_g e.1]
   simp only [Bool.true_and, decide_eq_true_eq]
   rw [(p.g_same _ e.1).2.1, s2]; exact e.2.2.2
  refine ⟨g1, ?_⟩
  rw [g2, h1, s5]
  unfold Y8
  rw [List.map_map]
  exact List.map_congr_left fun j hj => p.kid_g hx h0 (List.mem_range.1 hj)
theorem froot (p : PourOf c l ss P i a b T) : gP l P i a b (Zg l 0) = Zg (ZQ l a b) 0 := by
 have e0 := p.t.root0
 have hkin : Zb l P i ∈ Zj l P := by rw [(Z5 (p.t.kids p.mem) p.h0).1]; exact List.mem_map.2 ⟨i, List.mem_range.2 p.hi, rfl⟩
 have n2 : (Zg l 0).n.slot ≠ (Zb l P i).n.slot := (p.t.root_kid p.mem hkin).symm
 have hf := p.find_g p.t.root
 rw [e0] at hf
 by_cases c1 : (Zg l 0).n.slot = P.n.slot
 ·have eP := p.t.uniq p.t.root p.mem c1
  have : Zg (ZQ l a b) 0 = ⟨(gP l P i a b (Zg l 0)).n, Span.all, []⟩ := by unfold Zg at hf ⊢; rw [hf]
  rw [this, eP, p.g_p, ← eP]; rfl
 ·rw [g_x c1 n2] at hf ⊢
  show (⟨(Zq l 0).1, _, _⟩ : Seat) = ⟨(Zq _ 0).1, _, _⟩
  rw [hf]; rfl
theorem flat_map {g : Seat → Seat} {K K' : Seat → List Seat} : ∀ {L : List Seat}, (∀ x ∈ L, K' (g x) = (K x).map g) → (L.map g).flatMap K' = (L.flatMap K).map g
 | [], _ => rfl
 | x :: L, h => by
  rw [List.map_cons, List.flatMap_cons, List.flatMap_cons, List.map_append, h x (by simp), flat_map fun z hz => h z (List.mem_cons_of_mem _ hz)]
theorem fix (p : PourOf c l ss P i a b T) : ss.map (gP l P i a b) = Zg (ZQ l a b) 0 :: (ss.map (gP l P i a b)).flatMap (Zj (ZQ l a b)) := by
 rw [flat_map fun x hx => (p.each hx).2]
 conv => lhs; rw [p.t.fix]
 rw [List.map_cons, p.froot]
theorem keys (p : PourOf c l ss P i a b T) : (ss.map (gP l P i a b)).map Seat.key = ss.map Seat.key := by
 rw [List.map_map]
 refine List.map_congr_left fun x hx => ?_
 obtain ⟨s1, s2, s3, _⟩ := p.g_same x hx
 show ((gP l P i a b x).n.slot, (gP l P i a b x).n.level, (gP l P i a b x).n.right) = _
 rw [s1, s2, s3]; rfl
theorem perm (p : PourOf c l ss P i a b T) : ((ss.map (gP l P i a b)).map fun x : Seat => x.n.slot).Perm ((ZQ l a b).map fun n : Nd => n.slot) := by
 have h1 : (ss.map (gP l P i a b)).map (fun x : Seat => x.n.slot) = ss.map (fun x : Seat => x.n.slot) := by
  rw [List.map_map]
  exact List.map_congr_left fun x hx => (p.g_same x hx).1
 rw [h1]
 have h4 : ((ZQ l a b).map fun n : Nd => n.slot) = (l.map fun n : Nd => n.slot) := by rw [ZaY p.slots, ZaY p.t.slot, p.len]
 rw [h4]; exact p.t.perm_s
theorem tin (p : PourOf c l ss P i a b T) : ∀ m ∈ T, ∀ q, m.span.has q = true → (Zb l P i).s.has q = true := fun m hm q hq => by
 have hmR := (MsgsR.iff.1 p.pin.2.2.1).1
 obtain ⟨x, hx, h1, rfl⟩ := Zax (show m ∈ Zc (Zb l P i).s P.n.msgs by rw [p.hcl]; exact List.mem_append_left _ hm)
 exact (ZcD (hmR x hx) h1 hq).2
theorem norm_of {m : Msg} {s : Span} (h : ∀ q, m.span.has q = true → s.has q = true) : m.span.meet s = m.span.norm := by
 rw [← XT]
 exact Zbh fun q => by
  rw [ZH]
  cases hq : m.span.has q
  ·rfl
  ·rw [h q hq]; rfl
theorem seats9 (p : PourOf c l ss P i a b T) : ∀ x ∈ ss, SeatP c (gP l P i a b x) := by
 have hm := (ZfV p.may p.po).1
 have sK := p.t.seat p.km.1
 have sP := p.t.seat p.mem
 have tk := ZcF p.may p.po
 obtain ⟨⟨xl, hxl, exl⟩, _⟩ := Zd1 tk.rst p.po.ne
 obtain ⟨a1, a2, a3, a4, a5, a6, a7, a8, a9, a10⟩ := p.al
 obtain ⟨b1, b2, b3, b4, b5, b6, b7⟩ := p.bl
 have hpR := (MsgsR.iff.1 p.pin.2.2.1).1
 refine p.three ?_ ?_ fun x hx h1 h2 => ?_
 ·rw [g_k]
  refine ⟨hm.1.2.1, ⟨⟨by show b.top = _; rw [b6]; exact sK.2.1.1.1, by show b.high = _; rw [b5]; exact sK.2.1.1.2⟩, fun j hj => ?_, fun j hj => ?_, fun j hj => ?_⟩, by show b.slot < _; rw [b1]; exact sK.2.2.1, fun j hj => ?_⟩
  ·have hmem := List.getElem_mem hj
   have all : ∀ y ∈ b.rows, (Zb l P i).s.has y.key = true := by
    have old : ∀ y ∈ (Zb l P i).n.rows, (Zb l P i).s.has y.key = true := fun y hy => by obtain ⟨q, hq, rfl⟩ := List.getElem_of_mem hy; exact sK.2.1.2.1 q hq
    by_cases h0 : (Zb l P i).n.level = 0
    ·rw [(p.po.leaf h0).2.1]
     exact ZjK (p.t.leaf p.km.1 h0).2.2.1 tk.R old p.tin
    ·rw [(p.po.inner h0).1]; exact old
   exact all _ hmem
  ·have all : ∀ y ∈ b.pivots, (Zb l P i).s.has y = true ∧ y ≠ (Zb l P i).s.lo := fun y hy => by
    rw [b3] at hy
    obtain ⟨q, hq, rfl⟩ := List.getElem_of_mem hy
    exact sK.2.1.2.2.1 q hq
   exact all _ (List.getElem_mem hj)
  ·have old : ∀ y ∈ (Zb l P i).n.msgs, y.span.meet (Zb l P i).s = y.span.norm := fun y hy => by obtain ⟨q, hq, rfl⟩ := List.getElem_of_mem hy; exact sK.2.1.2.2.2 q hq
   have all : ∀ y ∈ b.msgs, y.span.meet (Zb l P i).s = y.span.norm := fun y hy => by
    by_cases h0 : (Zb l P i).n.level = 0
    ·rw [(p.po.leaf h0).1] at hy; exact old y hy
    ·rw [(p.po.inner h0).2.1] at hy
     rcases List.mem_append.1 hy with hy | hy
     ·exact old y hy
     ·exact norm_of (p.tin y hy)
   exact all _ (List.getElem_mem hj)
  ·show b.seen < _
   rw [p.po.seen, exl]
   have hr := p.t.rst _ p.km.1
   rw [p.kms] at hr
   exact (ZaX hr).2.2 xl hxl _ (List.getElem_mem hj)
 ·rw [p.g_p]
  refine ⟨hm.1.1, ⟨⟨by show a.top = _; rw [a6]; exact sP.2.1.1.1, by show a.high = _; rw [a5]; exact sP.2.1.1.2⟩, fun j hj => ?_, fun j hj => ?_, fun j hj => ?_⟩, by show a.slot < _; rw [a1]; exact sP.2.2.1, fun j hj => ?_⟩
  ·have all : ∀ y ∈ a.rows, P.s.has y.key = true := fun y hy => by
    rw [a9] at hy
    obtain ⟨q, hq, rfl⟩ := List.getElem_of_mem hy
    exact sP.2.1.2.1 q hq
   exact all _ (List.getElem_mem hj)
  ·have all : ∀ y ∈ a.pivots, P.s.has y = true ∧ y ≠ P.s.lo := fun y hy => by
    rw [a3] at hy
    obtain ⟨q, hq, rfl⟩ := List.getElem_of_mem hy
    exact sP.2.1.2.2.1 q hq
   exact all _ (List.getElem_mem hj)
  ·have all : ∀ y ∈ a.msgs, y.span.meet P.s = y.span.norm := fun y hy => by
    rw [a10] at hy
    obtain ⟨_, m, hm, _, h3⟩ := ZfU (ZbX sP.1) hpR hy
    exact norm_of fun q hq => p.mspan m hm q (h3 q hq)
   exact all _ (List.getElem_mem hj)
  ·show a.seen < _
   rw [a8]; exact sP.2.2.2 j hj
 ·rw [g_x h1 h2]; exact p.t.seat hx
theorem tree (p : PourOf c l ss P i a b T) : Tree c (ZQ l a b) (ss.map (gP l P i a b)) := by
 have hsm := p.t.sml
 have hm := (ZfV p.may p.po).1
 refine ZdH p.t.cfg (by rw [p.len]; exact p.t.pos) (Zd3 p.t.cfg (by rw [p.len]; exact hsm.1) fun n hn => ?_) p.slots p.fix (fun z hz => ?_) p.perm ?_ (by rw [p.len]; exact p.t.q.1.2.2) fun z hz => ?_
 ·have old : ∀ n ∈ l, n.R c.fan c.leaf c.bud := fun n hn => by
   have := (p.t.perm.mem_iff).2 hn
   obtain ⟨x, hx, rfl⟩ := List.mem_map.1 this
   exact (p.t.seat hx).1
  unfold ZQ at hn
  rcases List.mem_or_eq_of_mem_set hn with hn | rfl
  ·rcases List.mem_or_eq_of_mem_set hn with hn | rfl
   ·exact old n hn
   ·exact hm.1.1
  ·exact hm.1.2.1
 ·obtain ⟨x, hx, rfl⟩ := List.mem_map.1 hz
  exact (p.each hx).1
 ·rw [p.keys]; exact (Zbk ss).1 p.t.q.1.2.1
 ·obtain ⟨x, hx, rfl⟩ := List.mem_map.1 hz
  exact p.seats9 x hx
theorem view (p : PourOf c l ss P i a b T) (h0 : (Zb l P i).n.level = 0) : YH (nK l P i a b) = YH (Zb l P i) := by
 have hR := p.t.rows p.km.1
 have tk := ZcF p.may p.po
 unfold YH
 show Zt (b.rows.filter fun p => (Zb l P i).s.has p.key) (Zc (Zb l P i).s (Zc (Zb l P i).s a.msgs ++ Zc (Zb l P i).s P.ms)) = _
 rw [(p.po.leaf h0).2.1, ← Zbe hR.srt fun m hm => by have := (tk.R m hm).1.2.1; omega]
 conv => rhs; rw [p.kms, Jk]
 unfold Zt
 rw [List.foldl_append]
theorem map (p : PourOf c l ss P i a b T) : Zl (ZQ l a b) = Zl l := by
 rw [Jx p.tree.sts, Jx p.t.sts]
 rw [show ss.map (gP l P i a b) = ss.flatMap fun x => [gP l P i a b x] from List.map_eq_flatMap]
 refine ZfX (p.three ?_ ?_ fun x hx h1 h2 => ?_)
 ·rw [g_k]
  by_cases h0 : (Zb l P i).n.level = 0
  ·have h1 : (nK l P i a b).n.level = 0 := by show b.level = 0; rw [p.bl.2.1]; exact h0
   simp [ZE, List.filter_cons, h0, h1, p.view h0]
  ·have h1 : ¬ (nK l P i a b).n.level = 0 := by show ¬ b.level = 0; rw [p.bl.2.1]; exact h0
   simp [ZE, List.filter_cons, h0, h1]
 ·rw [p.g_p]
  have h0 := p.h0
  have h1 : ¬ (nP P a).n.level = 0 := by show ¬ a.level = 0; rw [p.al.2.1]; exact h0
  simp [ZE, List.filter_cons, h0, h1]
 ·rw [g_x h1 h2]
end PourOf
structure Opr where
 kind : Int
 key : Str
 hi : Str
 opn : Bool
 val : Str
 lim : Int
 deriving DecidableEq
instance : Inhabited Opr := ⟨⟨0, Str.nil, Str.nil, false, Str.nil, 0⟩⟩
def Opr.Ok (o : Opr) : Prop := i64 o.kind ∧ i64 o.lim
def eOp : Enc Opr where
 k := 6
 w := 72
 R := fun _ cs o => cs = [.int .i64 o.kind, .string o.key.b, .string o.hi.b, .bool o.opn, .string o.val.b, .int .i64 o.lim] ∧ o.Ok
 mono := fun _ h => h
 len := fun h => by rw [h.1]; rfl
 one := fun h u hu => by rw [h.1] at hu; simp at hu; rcases hu with rfl | rfl | rfl | rfl | rfl | rfl <;> rfl
theorem ZpM {P : Program} {t i s b : TypeId} (ht : Zbx P t = some [(i, 0, 1), (s, 1, 1), (s, 2, 1), (b, 3, 1), (s, 4, 1), (i, 5, 1)]) (hi : P.underlying i = some (.int .i64)) (hs : P.underlying s = some .string) (hb : P.underlying b = some .bool) (hc : P.cellsOf t = 6) : Dec P t eOp := by
 intro H enc w fuel cs x h hw
 obtain ⟨hl, hf⟩ := Zg7 ht h hw
 obtain ⟨y0, n0, t0, w0⟩ := hf 0 _ _ _ rfl
 obtain ⟨y1, n1, t1, w1⟩ := hf 1 _ _ _ rfl
 obtain ⟨y2, n2, t2, w2⟩ := hf 2 _ _ _ rfl
 obtain ⟨y3, n3, t3, w3⟩ := hf 3 _ _ _ rfl
 obtain ⟨y4, n4, t4, w4⟩ := hf 4 _ _ _ rfl
 obtain ⟨y5, n5, t5, w5⟩ := hf 5 _ _ _ rfl
 obtain ⟨a0, e0, q0⟩ := Za5 hi t0 w0
 obtain ⟨a1, e1⟩ := Zg9 hs t1 w1
 obtain ⟨a2, e2⟩ := Zg9 hs t2 w2
 obtain ⟨a3, e3⟩ := Zvj hb t3
 obtain ⟨a4, e4⟩ := Zg9 hs t4 w4
 obtain ⟨a5, e5, q5⟩ := Za5 hi t5 w5
 rw [hc] at hl
 match cs, hl with
 | [_, _, _, _, _, _], _ =>
  simp at e0 e1 e2 e3 e4 e5
  subst e0 e1 e2 e3 e4 e5
  exact ⟨⟨a0, a1, a2, a3, a4, a5⟩, rfl, q0, q5⟩
def Opr.span (o : Opr) : Span := if o.kind = 4 ∨ o.kind = 6 then ⟨o.key, o.hi, o.opn⟩ else ⟨o.key, o.key.next, false⟩
def Opr.R (o : Opr) : Prop := (1 ≤ o.kind ∧ o.kind ≤ 6 ∧ o.key.b.size ≤ 16 ∧ o.hi.b.size ≤ 16 ∧ o.val.b.size ≤ 16) ∧
 (2 < o.kind → o.val = Str.nil) ∧ (o.kind ≠ 6 → o.lim = 0) ∧ (o.kind = 6 → 1 ≤ o.lim ∧ o.lim ≤ 64) ∧
 if o.kind = 4 ∨ o.kind = 6 then o.span.empty = false ∧ (o.opn = false ∨ o.hi = Str.nil) else o.hi = Str.nil ∧ o.opn = false
instance (o : Opr) : Decidable o.R := by unfold Opr.R; infer_instance
def Opr.msg (o : Opr) (s : Int) : Msg := ⟨s, o.kind, o.key, o.hi, o.opn, o.val⟩
theorem Opr.R.fit {o : Opr} (h : o.R) (s : Int) : (o.msg s).fit := Zcz ⟨h.1.2.2.1, h.1.2.2.2.2⟩
structure Ans where
 err : Int
 has : Bool
 val : Str
 rows : List Pair
 deriving DecidableEq
instance : Inhabited Ans := ⟨⟨0, false, Str.nil, []⟩⟩
def AnsC (G : GH) (cs : List Value) (a : Ans) : Prop :=
 ∃ p c, cs = [.int .i64 a.err, .bool a.has, .string a.val.b, .slice p a.rows.length c] ∧ SlR Zp G (.slice p a.rows.length c) a.rows ∧ i64 a.err
structure Drow where
 key : Str
 a : Str
 b : Str
 inA : Bool
 inB : Bool
 deriving DecidableEq
instance : Inhabited Drow := ⟨⟨Str.nil, Str.nil, Str.nil, false, false⟩⟩
def doN (l : List Pair) (o : Opr) : List Pair × Ans :=
 if ¬ o.R then (l, ⟨3, false, Str.nil, []⟩)
 else if o.kind = 5 then (l, ⟨0, (Zi l o.key).isSome, (Zi l o.key).getD Str.nil, []⟩)
 else if o.kind = 6 then (l, ⟨0, false, Str.nil, Ji l o.span o.lim⟩)
 else (takeN l (o.msg 1), ⟨0, false, Str.nil, []⟩)
theorem ZpN {l : List Pair} {o : Opr} (h : ¬ o.R) : doN l o = (l, ⟨3, false, Str.nil, []⟩) := if_pos h
theorem ZpO {l : List Pair} {o : Opr} (h : o.R) (h5 : o.kind = 5) : doN l o = (l, ⟨0, (Zi l o.key).isSome, (Zi l o.key).getD Str.nil, []⟩) := by rw [doN, if_neg (by simpa using h), if_pos h5]
theorem ZpP {l : List Pair} {o : Opr} (h : o.R) (h6 : o.kind = 6) : doN l o = (l, ⟨0, false, Str.nil, Ji l o.span o.lim⟩) := by rw [doN, if_neg (by simpa using h), if_neg om9, if_pos h6]
theorem ZpQ {l : List Pair} {o : Opr} (h : o.R) (h5 : ¬ o.kind = 5) (h6 : ¬ o.kind = 6) : doN l o = (takeN l (o.msg 1), ⟨0, false, Str.nil, []⟩) := by rw [doN, if_neg (by simpa using h), if_neg h5, if_neg h6]
def Drow.same (r : Drow) : Bool := r.inA && r.inB && decide (r.a = r.b)
theorem ZjM {l : List Pair} {k : Str} (h : ∀ p ∈ l, p.key ≠ k) : Zi l k = none := by
 induction l with
 | nil => rfl
 | cons p l ih => rw [XA, if_neg (h p (by simp))]; exact ih fun p hp => h p (by simp [hp])
end Go.Fw

namespace Go.Fw
def Rise (l : List Str) : Prop := l.Pairwise fun a b => a.lt b = true
theorem Rise.ext : ∀ {a b : List Str}, Rise a → Rise b → (∀ k, k ∈ a ↔ k ∈ b) → a = b
 | [], [], _, _, _ => rfl
 | [], y :: b, _, _, h => by have := (h y).2 (by simp); cases this
 | x :: a, [], _, _, h => by have := (h x).1 (by simp); cases this
 | x :: a, y :: b, ha, hb, h => by
  obtain ⟨ha1, ha2⟩ := List.pairwise_cons.1 ha
  obtain ⟨hb1, hb2⟩ := List.pairwise_cons.1 hb
  have hxy : x = y := by
   rcases List.mem_cons.1 ((h x).1 (by simp)) with e | hx
   ·exact e
   ·rcases List.mem_cons.1 ((h y).2 (by simp)) with e | hy
    ·exact e.symm
    ·have := Str.lt_trans (hb1 x hx) (ha1 y hy); rw [Str.lt_irrefl] at this; cases this
  subst hxy
  refine congrArg (x :: ·) (Rise.ext ha2 hb2 fun k => ⟨fun hk => ?_, fun hk => ?_⟩)
  ·rcases List.mem_cons.1 ((h k).1 (by simp [hk])) with e | hk2
   ·subst e; have := ha1 k hk; rw [Str.lt_irrefl] at this; cases this
   ·exact hk2
  ·rcases List.mem_cons.1 ((h k).2 (by simp [hk])) with e | hk2
   ·subst e; have := hb1 k hk; rw [Str.lt_irrefl] at this; cases this
   ·exact hk2
end Go.Fw

namespace Go.Fw
theorem ZjN {l : List Pair} {k : Str} : (Zi l k).isSome = true ↔ k ∈ l.map (·.key) := by
 induction l with
 | nil => simp [Zi]
 | cons p l ih =>
  rw [XA]
  by_cases h : p.key = k
  ·rw [if_pos h]; simp [h]
  ·rw [if_neg h, ih]; simp [Ne.symm h]
theorem ZjO : ∀ {a b : List Pair}, Srt a → Srt b → (∀ k, Zi a k = Zi b k) → a = b
 | [], [], _, _, _ => rfl
 | [], y :: b, _, _, h => by have := h y.key; rw [XA, if_pos rfl] at this; cases this
 | x :: a, [], _, _, h => by have := h x.key; rw [XA, if_pos rfl] at this; cases this
 | x :: a, y :: b, ha, hb, h => by
  obtain ⟨ha1, ha2⟩ := List.pairwise_cons.1 ha
  obtain ⟨hb1, hb2⟩ := List.pairwise_cons.1 hb
  have mx : y.key ∈ (x :: a).map (·.key) := ZjN.1 (by rw [h, XA, if_pos rfl]; rfl)
  have my : x.key ∈ (y :: b).map (·.key) := ZjN.1 (by rw [← h, XA, if_pos rfl]; rfl)
  have hk : x.key = y.key := by
   rw [List.map_cons] at mx my
   rcases List.mem_cons.1 mx with e | mx
   ·exact e.symm
   ·rcases List.mem_cons.1 my with e | my
    ·exact e
    ·obtain ⟨p, hp, ep⟩ := List.mem_map.1 mx
     obtain ⟨q, hq, eq⟩ := List.mem_map.1 my
     have h1 := ha1 p hp
     have h2 := hb1 q hq
     rw [ep] at h1; rw [eq] at h2
     have := Str.lt_trans h1 h2
     rw [Str.lt_irrefl] at this; cases this
  have hv : x.val = y.val := by
   have := h x.key
   rw [XA, if_pos rfl, XA, if_pos hk.symm] at this
   exact Option.some.inj this
  have hxy : x = y := by cases x; cases y; simp_all
  subst hxy
  refine congrArg (x :: ·) (ZjO ha2 hb2 fun k => ?_)
  have h3 := h k
  rw [XA, XA] at h3
  by_cases hkx : x.key = k
  ·rw [ZjM fun p hp e => ?_, ZjM fun p hp e => ?_]
   ·have := hb1 p hp; rw [hkx, e, Str.lt_irrefl] at this; cases this
   ·have := ha1 p hp; rw [hkx, e, Str.lt_irrefl] at this; cases this
  ·rwa [if_neg hkx, if_neg hkx] at h3
end Go.Fw
namespace Go.Fw
open Go Go.RowKit
def Yg (n : Nd) (m : Msg) : Nd := { n with msgs := n.msgs ++ [m], seen := m.stamp }
structure InjOf (c : Cfg) (l : List Nd) (ss : List Seat) (m : Msg) : Prop where
  t : Tree c l ss
  h0 : ¬ (Za l 0).level = 0
  mR : m.R
  st : m.stamp = (Za l 0).seen + 1
  le : m.stamp ≤ 1099511627776
  sn : ∀ n ∈ l, n.seen ≤ (Za l 0).seen
  fit : m.size ≤ c.bud - Zz (Za l 0).msgs
def Z9 (l : List Nd) (r : Nd) : List Nd := l.set 0 r
namespace InjOf
variable {c : Cfg} {l : List Nd} {ss : List Seat} {m : Msg}
theorem pos (p : InjOf c l ss m) : 0 < l.length := p.t.pos
theorem gx (p : InjOf c l ss m) : (Zg l 0).n = Za l 0 := p.t.rootn
theorem rsl (p : InjOf c l ss m) : (Za l 0).slot = 0 ∧ Za l 0 ∈ l := Yv p.t.slot ⟨Int.le_refl _, by have := p.pos; omega⟩
theorem rseat (p : InjOf c l ss m) : SeatP c (Zg l 0) := p.t.seat p.t.root
theorem rR (p : InjOf c l ss m) : (Za l 0).R c.fan c.leaf c.bud := by have := p.rseat.1; rwa [p.gx] at this
theorem rin (p : InjOf c l ss m) : (Za l 0).innerR c.fan c.bud := by have h := p.rR.2.2.2; rwa [if_neg p.h0] at h
theorem rtop (p : InjOf c l ss m) : (Za l 0).top = true := by
  have := p.rseat.2.1.1.1
  rw [p.gx] at this
  exact this
theorem old (p : InjOf c l ss m) : ∀ x ∈ ss, ∀ y ∈ x.ms, y.stamp < m.stamp := by
  have hroot : ∀ y ∈ (Za l 0).msgs, y.stamp < m.stamp := fun y hy => by
    obtain ⟨j, hj, rfl⟩ := List.getElem_of_mem hy
    have := (p.rin.2.2.2.2.2.2 j hj).1
    have := p.st
    omega
  have key : ∀ x ∈ ss, (∀ y ∈ x.ms, y.stamp < m.stamp) ∧ ∀ y ∈ x.n.msgs, y.stamp < m.stamp := by
    refine p.t.ind ⟨fun y hy => (by cases hy), fun y hy => hroot y (by rw [p.gx] at hy; exact hy)⟩ fun x hx h0 ⟨h1, h2⟩ j hj => ?_
    have hk := p.t.kid_ms hx (p.t.rst x hx) j
    have hms : ∀ y ∈ (Zb l x j).ms, y.stamp < m.stamp := fun y hy => by
      rw [hk.1] at hy
      rcases List.mem_append.1 hy with hy | hy
      · obtain ⟨z, hz, e⟩ := JL hy; rw [e]; exact h2 z hz
      · obtain ⟨z, hz, e⟩ := JL hy; rw [e]; exact h1 z hz
    refine ⟨hms, fun y hy => ?_⟩
    have hK := p.t.at hx h0 hj
    by_cases hl : (Zb l x j).n.level = 0
    · rw [p.t.nomsgs hK.1 hl] at hy; cases hy
    · have hI := (p.t.msgs hK.1).2.2 y hy
      have hs := p.sn _ (p.t.nd hK.1).2.2
      have := p.st
      omega
  exact fun x hx => (key x hx).1
noncomputable def gI (l : List Nd) (m : Msg) (x : Seat) : Seat := if x.n.slot = 0 then ⟨Yg (Za l 0) m, Span.all, []⟩ else ⟨x.n, x.s, x.ms ++ Zc x.s [m]⟩
theorem root_of (p : InjOf c l ss m) {x : Seat} (hx : x ∈ ss) (e : x.n.slot = 0) : x = Zg l 0 := p.t.uniq hx p.t.root (by rw [e]; exact p.t.root0.symm)
theorem g_r (p : InjOf c l ss m) : gI l m (Zg l 0) = ⟨Yg (Za l 0) m, Span.all, []⟩ := if_pos p.t.root0
theorem g_x {x : Seat} (h : x.n.slot ≠ 0) : gI l m x = ⟨x.n, x.s, x.ms ++ Zc x.s [m]⟩ := if_neg h
theorem two (p : InjOf c l ss m) {Q : Seat → Prop} (hr : Q (Zg l 0)) (hx : ∀ x ∈ ss, x.n.slot ≠ 0 → Q x) : ∀ x ∈ ss, Q x := fun x hm => by
  by_cases e : x.n.slot = 0
  · rw [p.root_of hm e]; exact hr
  · exact hx x hm e
theorem g_same (p : InjOf c l ss m) : ∀ x ∈ ss, (gI l m x).n.slot = x.n.slot ∧ (gI l m x).n.level = x.n.level ∧ (gI l m x).n.right = x.n.right ∧ (gI l m x).n.pivots = x.n.pivots ∧ (gI l m x).n.kids = x.n.kids ∧ (gI l m x).s = x.s ∧ (gI l m x).n.rows = x.n.rows := by
  refine p.two ?_ fun x hx h => ?_
  · rw [p.g_r, p.gx]; exact ⟨rfl, rfl, rfl, rfl, rfl, rfl, rfl⟩
  · rw [g_x h]; exact ⟨rfl, rfl, rfl, rfl, rfl, rfl, rfl⟩
theorem slots (p : InjOf c l ss m) : SlotsP (Z9 l (Yg (Za l 0) m)) := by
  have h := ZbY p.t.slot (x := Yg (Za l 0) m) (by show 0 ≤ (Za l 0).slot ∧ (Za l 0).slot < _; rw [p.rsl.1]; have := p.pos; omega) p.le
  have e : (Yg (Za l 0) m).slot.toNat = 0 := by show (Za l 0).slot.toNat = 0; rw [p.rsl.1]; rfl
  rw [e] at h; exact h
theorem len (p : InjOf c l ss m) : (Z9 l (Yg (Za l 0) m)).length = l.length := by unfold Z9; rw [List.length_set]
theorem find (p : InjOf c l ss m) (s : Int) : Zq (Z9 l (Yg (Za l 0) m)) s = (if s = 0 then Yg (Za l 0) m else Za l s, decide (0 ≤ s ∧ s < (l.length : Int))) := by
  rw [ZaE p.slots, p.len]
  congr 1
  have e : (Yg (Za l 0) m).slot = 0 := p.rsl.1
  have h := ZaK (l := l) (x := Yg (Za l 0) m) (by rw [e]; have := p.pos; omega) (i := s)
  rw [e] at h
  exact h
theorem find_g (p : InjOf c l ss m) {x : Seat} (hx : x ∈ ss) : Zq (Z9 l (Yg (Za l 0) m)) x.n.slot = ((gI l m x).n, true) := by
  have hs := (p.t.nd hx).1
  rw [p.find, decide_eq_true ⟨hs.1, hs.2⟩]
  congr 1
  revert hs
  refine p.two (Q := fun x => 0 ≤ x.n.slot ∧ x.n.slot < (l.length : Int) → (if x.n.slot = 0 then Yg (Za l 0) m else Za l x.n.slot) = (gI l m x).n) (fun hs => ?_) (fun x hx h hs => ?_) x hx
  · rw [if_pos p.t.root0, p.g_r]
  · rw [if_neg h, g_x h]; exact (p.t.nd hx).2.1.symm
theorem slot_at (p : InjOf c l ss m) {x : Seat} (hx : x ∈ ss) (h0 : ¬ x.n.level = 0) {j : Nat} (hj : j < x.n.kids.length) : x.n.kids.getD j 0 = (Zb l x j).n.slot := by
  have e := (p.t.at hx h0 hj)
  rw [List.getD_eq_getElem?_getD, List.getElem?_eq_getElem hj, e.2.2.1, (Yv p.t.slot e.2.1).1]; rfl
theorem kid_ne (p : InjOf c l ss m) {x : Seat} (hx : x ∈ ss) (h0 : ¬ x.n.level = 0) {j : Nat} (hj : j < x.n.kids.length) : (Zb l x j).n.slot ≠ 0 := by
  have hin : Zb l x j ∈ Zj l x := by rw [(Z5 (p.t.kids hx) h0).1]; exact List.mem_map.2 ⟨j, List.mem_range.2 hj, rfl⟩
  have := p.t.root_kid hx hin
  rwa [p.t.root0] at this
theorem rst9 (p : InjOf c l ss m) {x : Seat} (hx : x ∈ ss) (s : Span) : Rst (x.ms ++ Zc s [m]) := by
  refine List.pairwise_append.2 ⟨p.t.rst x hx, Jw (by simp [Rst]), fun a ha b hb => ?_⟩
  obtain ⟨z, hz, e⟩ := JL hb
  simp at hz
  subst hz
  rw [e]; exact p.old x hx a ha
theorem kid_g (p : InjOf c l ss m) {x : Seat} (hx : x ∈ ss) (h0 : ¬ x.n.level = 0) {j : Nat} (hj : j < x.n.kids.length) : Zb (Z9 l (Yg (Za l 0) m)) (gI l m x) j = gI l m (Zb l x j) := by
  have hy := (p.t.at hx h0 hj).1
  have hn0 := p.kid_ne hx h0 hj
  obtain ⟨s1, s2, s3, s4, s5, s6, s7⟩ := p.g_same x hx
  have en : (Zb (Z9 l (Yg (Za l 0) m)) (gI l m x) j).n = (Zb l x j).n := by
    show (Zq _ ((gI l m x).n.kids.getD j 0)).1 = _
    rw [s5, p.slot_at hx h0 hj, p.find_g hy, g_x hn0]
  have es : (Zb (Z9 l (Yg (Za l 0) m)) (gI l m x) j).s = (Zb l x j).s := by
    show (gI l m x).s.meet (Zf (gI l m x).n.pivots (j : Int)) = _
    rw [s4, s6]; rfl
  have hr := p.rst9 hy (Zb l x j).s
  have em : ZO [Zc (Zb l x j).s (gI l m x).n.msgs, Zc (Zb l x j).s (gI l m x).ms] = (Zb l x j).ms ++ Zc (Zb l x j).s [m] := by
    have hk := (p.t.kid_ms hx (p.t.rst x hx) j).1
    by_cases e : x.n.slot = 0
    · obtain rfl := p.root_of hx e
      rw [p.g_r]
      show ZO [Zc _ ((Za l 0).msgs ++ [m]), Zc _ []] = _
      have e0 : Zc (Zb l (Zg l 0) j).s (Zg l 0).ms = [] := rfl
      rw [e0, List.append_nil, p.gx] at hk
      rw [Jk, ← hk]
      exact (ZaU hr List.Pairwise.nil fun a ha b hb => by cases hb).1.trans (List.append_nil _)
    · rw [g_x e]
      show ZO [Zc _ x.n.msgs, Zc _ (x.ms ++ Zc x.s [m])] = _
      rw [Jk, XJ fun k hk => Zbi k hk]
      rw [hk] at hr ⊢
      rw [List.append_assoc] at hr ⊢
      obtain ⟨r1, r2, r3⟩ := ZaX hr
      exact (ZaU r1 r2 r3).1
  have e3 : (Zb (Z9 l (Yg (Za l 0) m)) (gI l m x) j).ms = ZO [Zc (Zb (Z9 l (Yg (Za l 0) m)) (gI l m x) j).s (gI l m x).n.msgs, Zc (Zb (Z9 l (Yg (Za l 0) m)) (gI l m x) j).s (gI l m x).ms] := rfl
  rw [es, em] at e3
  rw [g_x hn0]
  cases hA : Zb (Z9 l (Yg (Za l 0) m)) (gI l m x) j
  rw [hA] at en es e3
  simp only at en es e3
  rw [en, es, e3]
theorem each (p : InjOf c l ss m) {x : Seat} (hx : x ∈ ss) : (Z4 (Z9 l (Yg (Za l 0) m)) (gI l m x)).isSome = true ∧ Zj (Z9 l (Yg (Za l 0) m)) (gI l m x) = (Zj l x).map (gI l m) := by
  obtain ⟨s1, s2, s3, s4, s5, s6, s7⟩ := p.g_same x hx
  by_cases h0 : x.n.level = 0
  · rw [ZaS (by rw [s2]; exact h0), Xq (by rw [s2]; exact h0), Xq h0]; exact ⟨rfl, rfl⟩
  · obtain ⟨h1, h2, h3, h4⟩ := Z5 (p.t.kids hx) h0
    obtain ⟨g1, g2⟩ := ZaV (l := Z9 l (Yg (Za l 0) m)) (x := gI l m x) (by rw [s2]; exact h2) (by rw [s4, s5]; exact h3) fun j hj => by
      rw [s5] at hj
      have e := p.t.at hx h0 hj
      unfold XC
      rw [s5, p.slot_at hx h0 hj, p.find_g e.1]
      simp only [Bool.true_and, decide_eq_true_eq]
      rw [(p.g_same _ e.1).2.1, s2]; exact e.2.2.2
    refine ⟨g1, ?_⟩
    rw [g2, h1, s5]
    unfold Y8
    rw [List.map_map]
    exact List.map_congr_left fun j hj => p.kid_g hx h0 (List.mem_range.1 hj)
theorem froot (p : InjOf c l ss m) : gI l m (Zg l 0) = Zg (Z9 l (Yg (Za l 0) m)) 0 := by
  have hf := p.find_g p.t.root
  rw [p.t.root0, p.g_r] at hf
  rw [p.g_r]
  unfold Zg
  rw [hf]
theorem fix (p : InjOf c l ss m) : ss.map (gI l m) = Zg (Z9 l (Yg (Za l 0) m)) 0 :: (ss.map (gI l m)).flatMap (Zj (Z9 l (Yg (Za l 0) m))) := by
  rw [PourOf.flat_map fun x hx => (p.each hx).2]
  conv => lhs; rw [p.t.fix]
  rw [List.map_cons, p.froot]
theorem keys (p : InjOf c l ss m) : (ss.map (gI l m)).map Seat.key = ss.map Seat.key := by
  rw [List.map_map]
  refine List.map_congr_left fun x hx => ?_
  obtain ⟨s1, s2, s3, _⟩ := p.g_same x hx
  show ((gI l m x).n.slot, (gI l m x).n.level, (gI l m x).n.right) = _
  rw [s1, s2, s3]; rfl
theorem perm (p : InjOf c l ss m) : ((ss.map (gI l m)).map fun x : Seat => x.n.slot).Perm ((Z9 l (Yg (Za l 0) m)).map fun n : Nd => n.slot) := by
  have h1 : (ss.map (gI l m)).map (fun x : Seat => x.n.slot) = ss.map (fun x : Seat => x.n.slot) := by
    rw [List.map_map]
    exact List.map_congr_left fun x hx => (p.g_same x hx).1
  rw [h1]
  have h4 : ((Z9 l (Yg (Za l 0) m)).map fun n : Nd => n.slot) = (l.map fun n : Nd => n.slot) := by rw [ZaY p.slots, ZaY p.t.slot, p.len]
  rw [h4]; exact p.t.perm_s
theorem nR (p : InjOf c l ss m) : (Yg (Za l 0) m).R c.fan c.leaf c.bud := by
  obtain ⟨⟨r1, r2, r3⟩, r4, r5, _⟩ := p.rR
  obtain ⟨i1, i2, i3, i4, i5, i6, i7⟩ := p.rin
  have hst := p.st
  have hfit := p.fit
  refine ⟨⟨r1, r2, by show 0 ≤ m.stamp; omega⟩, r4, r5, ?_⟩
  rw [if_neg (show ¬ (Yg (Za l 0) m).level = 0 from p.h0)]
  refine ⟨i1, i2, ?_, ?_, i5, i6, fun j hj => ?_⟩
  · refine MsgsR.iff.2 ⟨fun x hx => ?_, ?_⟩
    · rcases List.mem_append.1 hx with hx | hx
      · exact (MsgsR.iff.1 i3).1 x hx
      · simp at hx; subst hx; exact p.mR
    · refine List.pairwise_append.2 ⟨(MsgsR.iff.1 i3).2, by simp, fun a ha b hb => ?_⟩
      simp at hb; subst hb
      obtain ⟨q, hq, rfl⟩ := List.getElem_of_mem ha
      have := (i7 q hq).1
      omega
  · show Zz ((Za l 0).msgs ++ [m]) ≤ _
    rw [ZdY]
    have : Zz [m] = m.size := by simp [Zz]
    omega
  · refine ⟨?_, .inl p.rtop⟩
    have hj2 : j < ((Za l 0).msgs ++ [m]).length := hj
    show (((Za l 0).msgs ++ [m])[j]).stamp ≤ m.stamp
    rw [List.getElem_append]
    split
    · rename_i h
      have := (i7 j h).1
      omega
    · simp
theorem seats9 (p : InjOf c l ss m) : ∀ x ∈ ss, SeatP c (gI l m x) := by
  refine p.two ?_ fun x hx h => ?_
  · rw [p.g_r]
    have sR := p.rseat
    have e := p.gx
    obtain ⟨q1, ⟨⟨q2, q3⟩, q4, q5, q6⟩, q7, q8⟩ := sR
    rw [e] at q2 q3 q7
    refine ⟨p.nR, ⟨⟨q2, q3⟩, fun j hj => (ZaF _), fun j hj => ?_, fun j hj => ?_⟩, q7, fun j hj => absurd hj (Nat.not_lt_zero j)⟩
    · have := q5 j (by rw [e]; exact hj)
      simp only [e] at this
      exact this
    · refine PourOf.norm_of fun q _ => ZaF q
  · rw [g_x h]
    obtain ⟨q1, q2, q7, q8⟩ := p.t.seat hx
    refine ⟨q1, q2, q7, fun j hj => ?_⟩
    have hmem : (x.ms ++ Zc x.s [m])[j] ∈ x.ms ++ Zc x.s [m] := List.getElem_mem hj
    show x.n.seen < ((x.ms ++ Zc x.s [m])[j]).stamp
    rcases List.mem_append.1 hmem with hm | hm
    · obtain ⟨q, hq, e⟩ := List.getElem_of_mem hm
      rw [← e]; exact q8 q hq
    · obtain ⟨z, hz, e⟩ := JL hm
      simp at hz; subst hz
      rw [e]
      have := p.sn _ (p.t.nd hx).2.2
      have := p.st
      omega
theorem tree (p : InjOf c l ss m) : Tree c (Z9 l (Yg (Za l 0) m)) (ss.map (gI l m)) := by
  have hsm := p.t.sml
  refine ZdH p.t.cfg (by rw [p.len]; exact p.t.pos) (Zd3 p.t.cfg (by rw [p.len]; exact hsm.1) fun n hn => ?_) p.slots p.fix (fun z hz => ?_) p.perm ?_ (by rw [p.len]; exact p.t.q.1.2.2) fun z hz => ?_
  · have old : ∀ n ∈ l, n.R c.fan c.leaf c.bud := fun n hn => by
      have := (p.t.perm.mem_iff).2 hn
      obtain ⟨x, hx, rfl⟩ := List.mem_map.1 this
      exact (p.t.seat hx).1
    rcases List.mem_or_eq_of_mem_set hn with hn | rfl
    · exact old n hn
    · exact p.nR
  · obtain ⟨x, hx, rfl⟩ := List.mem_map.1 hz
    exact (p.each hx).1
  · rw [p.keys]; exact (Zbk ss).1 p.t.q.1.2.1
  · obtain ⟨x, hx, rfl⟩ := List.mem_map.1 hz
    exact p.seats9 x hx
theorem map (p : InjOf c l ss m) : Zl (Z9 l (Yg (Za l 0) m)) = takeN (Zl l) m := by
  have t' := p.tree
  have hk : m.key.b.size < 140737488355328 := by have := p.mR.1.2.1; omega
  have hkd : 1 ≤ m.kind ∧ m.kind ≤ 4 := by
    have h := p.mR.2
    split at h
    · omega
    · rcases h.2.2 with h | h | h <;> omega
  refine ZjO t'.srt (Zah.1 (p.t.mapFits.takeM p.mR.1.2.1 p.mR.1.2.2.1)).2 fun k => ?_
  rw [Zhx hk hkd.1 hkd.2, ← p.t.lookup k, ← t'.lookup k]
  have hL := p.t.leafOk k
  have hne : (Zn l k).n.slot ≠ 0 := fun e => p.h0 (by rw [← p.gx, ← p.root_of hL.mem e]; exact hL.lvl)
  have e : gI l m (Zn l k) = Zn (Z9 l (Yg (Za l 0) m)) k := by
    refine t'.leaf_eq (List.mem_map.2 ⟨_, hL.mem, rfl⟩) ?_ ?_
    · rw [(p.g_same _ hL.mem).2.2.2.2.2.1]; exact hL.has
    · rw [(p.g_same _ hL.mem).2.1]; exact hL.lvl
  rw [← e, g_x hne]
  show Eff.apply (YF ((Zn l k).ms ++ Zc (Zn l k).s [m]) k) _ = _
  rw [ZeT, ZeT, List.foldl_append, ZfS hL.has]
  rfl
end InjOf
theorem Zd5 {l : List Msg} {m : Msg} (h : m ∈ Zk l) : m ∈ l := by
 unfold Zk at h
 split at h
 ·exact h
 ·split at h
  ·exact List.mem_of_mem_take h
  ·exact List.mem_of_mem_take h
theorem ZfY (l : List Msg) : (Zk l).length ≤ l.length := by
 unfold Zk
 split
 ·exact Nat.le_refl _
 ·split
  ·rw [List.length_take]; omega
  ·rw [List.length_take]; omega
theorem ZpR {l : List Msg} (h : Yf isW l = -1) : l = Zk l := by unfold Zk; rw [if_pos h]
theorem ZpS {l : List Msg} (h : ¬ Yf isW l = -1) (h2 : Yf isW l = 0) : (l.take 1).drop 0 = Zk l := by unfold Zk; rw [if_neg h, if_pos h2, List.drop_zero]
theorem ZpT {l : List Msg} (h : ¬ Yf isW l = -1) (h2 : ¬ Yf isW l = 0) : (l.take (Yf isW l).toNat).drop 0 = Zk l := by unfold Zk; rw [if_neg h, if_neg h2, List.drop_zero]
theorem ZjP {α β : Type} {f : α → Option β} {l : List α} {k : Nat} (hk : k < l.length) : (l.take (k + 1)).filterMap f = (l.take k).filterMap f ++ (f l[k]).toList := by
 rw [List.take_succ_eq_append_getElem hk, List.filterMap_append]
 cases h : f l[k] <;> simp [h]
theorem ZjQ {α β : Type} {f : α → Option β} {l : List α} {k : Nat} {b : β} (hk : k < l.length) (h : f l[k] = some b) : (l.take (k + 1)).filterMap f = (l.take k).filterMap f ++ [b] := by rw [ZjP hk, h]; rfl
theorem ZjR {α β : Type} {f : α → Option β} {l : List α} {k : Nat} (hk : k < l.length) (h : f l[k] = none) : (l.take (k + 1)).filterMap f = (l.take k).filterMap f := by rw [ZjP hk, h]; simp
theorem ZjS {α β : Type} (f : α → Option β) (l : List α) (k : Nat) : ((l.take k).filterMap f).length ≤ k := by
 have := List.length_filterMap_le f (l.take k)
 rw [List.length_take] at this
 omega
theorem ZpU {P : List Str} {i : Int} {F : List Msg} {k : Nat} (hk : k < F.length) (h1 : ((Ze P F[k].key : Nat) : Int) = i) (h2 : (F[k].clip (Zf P i)).2 = true) : (F.take (k + 1)).filterMap (XL P i) = (F.take k).filterMap (XL P i) ++ [(F[k].clip (Zf P i)).1] := ZjQ hk (if_pos ⟨h1, h2⟩)
theorem ZjT {P : List Str} {i : Int} {F : List Msg} {k : Nat} (hk : k < F.length) (h : ¬ (((Ze P F[k].key : Nat) : Int) = i ∧ (F[k].clip (Zf P i)).2 = true)) : (F.take (k + 1)).filterMap (XL P i) = (F.take k).filterMap (XL P i) := ZjR hk (if_neg h)
def JN (bud : Int) (ms : List Msg) (m : Msg) : List Msg × Bool := if Yo bud ms m = true then (ms ++ [m], true) else ([], false)
theorem ZbZ {bud : Int} {ms : List Msg} {m : Msg} (h : Yo bud ms m = true) : JN bud ms m = (ms ++ [m], true) := if_pos h
theorem ZjU {bud : Int} {ms : List Msg} {m : Msg} (h : Yo bud ms m = false) : JN bud ms m = ([], false) := if_neg (by simp [h])
theorem Zb0 {bud : Int} {ms : List Msg} {m : Msg} : Yo bud ms m = true ↔ m.size ≤ bud - Zz ms ∧ ∀ h : 0 < ms.length, (ms[ms.length - 1]'om9).stamp < m.stamp := by
 unfold Yo
 rw [Bool.and_eq_true, decide_eq_true_eq]
 refine and_congr Iff.rfl ?_
 cases h : ms.getLast? with
 | none =>
  rw [List.getLast?_eq_none_iff] at h
  subst h
  simp
 | some x =>
  rw [List.getLast?_eq_getElem?] at h
  obtain ⟨h1, h2⟩ := List.getElem?_eq_some_iff.1 h
  simp only [Option.all_some, decide_eq_true_eq]
  exact ⟨fun h3 _ => by rw [h2]; exact h3, fun h3 => by have := h3 om9; rw [h2] at this; exact this⟩
theorem ZpV {bud : Int} {ms : List Msg} {m : Msg} (h : ¬ m.size ≤ bud - Zz ms) : Yo bud ms m = false := by
 cases hr : Yo bud ms m
 ·rfl
 ·exact absurd (Zb0.1 hr).1 h
theorem ZpW {bud : Int} {ms : List Msg} {m : Msg} (h : 0 < ms.length) (h2 : m.stamp ≤ (ms[ms.length - 1]'om9).stamp) : Yo bud ms m = false := by
 cases hr : Yo bud ms m
 ·rfl
 ·have := (Zb0.1 hr).2 h; omega
theorem ZpX {bud : Int} {ms l : List Msg} {k : Nat} (hk : k < l.length) (h : Yo bud ms l[k] = false) : Xl bud ms (l.drop k) = 0 := by
 rw [List.drop_eq_getElem_cons hk]
 unfold Xl
 rw [if_neg (by simp [h])]
theorem ZpY {bud : Int} {ms l : List Msg} {k : Nat} (hk : k < l.length) (h : Yo bud ms l[k] = true) : Xl bud ms (l.drop k) = Xl bud (ms ++ [l[k]]) (l.drop (k + 1)) + 1 := by
 rw [List.drop_eq_getElem_cons hk]
 conv => lhs; unfold Xl
 rw [if_pos h]
def AddsAt (bud : Int) (ms l : List Msg) (k : Nat) : Prop := Xl bud ms l = k + Xl bud (ms ++ l.take k) (l.drop k)
theorem AddsAt.zero (bud : Int) (ms l : List Msg) : AddsAt bud ms l 0 := by unfold AddsAt; simp
theorem AddsAt.succ {bud : Int} {ms l : List Msg} {k : Nat} (h : AddsAt bud ms l k) (hk : k < l.length) (hr : Yo bud (ms ++ l.take k) l[k] = true) : AddsAt bud ms l (k + 1) := by
 unfold AddsAt at h ⊢
 rw [h, ZpY hk hr, List.take_succ_eq_append_getElem hk, List.append_assoc]
 omega
theorem AddsAt.stop {bud : Int} {ms l : List Msg} {k : Nat} (h : AddsAt bud ms l k) (hk : k < l.length) (hr : Yo bud (ms ++ l.take k) l[k] = false) : Xl bud ms l = k := by
 unfold AddsAt at h
 rw [h, ZpX hk hr]
 omega
theorem AddsAt.all {bud : Int} {ms l : List Msg} {k : Nat} (h : AddsAt bud ms l k) (hk : l.length ≤ k) : Xl bud ms l = k := by
 unfold AddsAt at h
 rw [h, List.drop_eq_nil_of_le hk]
 rfl
theorem ZfZ {leaf bud : Int} {k : Nd} {l : List Msg} (h : k.level = 0) : Zr leaf bud k l = ({ k with rows := (Yc leaf k.rows l).1 }, (Yc leaf k.rows l).2) := if_pos h
theorem Zf0 {leaf bud : Int} {k : Nd} {l : List Msg} {j : Nat} (h : ¬ k.level = 0) (hj : Xl bud k.msgs l = j) : Zr leaf bud k l = ({ k with msgs := k.msgs ++ l.take j }, j) := by unfold Zr; rw [if_neg h, hj]
theorem Zbn {leaf bud : Int} {p k : Nd} {i : Int} (h : KidOf p k i) : ZS leaf bud p k i = (Zr leaf bud k (Zd p.pivots p.msgs i)).2 := if_pos h
theorem ZjV {leaf bud : Int} {p k : Nd} {i : Int} (h : ¬ KidOf p k i) : ZS leaf bud p k i = 0 := if_neg h
theorem Zd6 : ∀ {l : List Msg}, (∀ m ∈ l, m.key.b.size ≤ 16 ∧ m.val.b.size ≤ 16) → 0 ≤ Zz l ∧ Zz l ≤ 36 * l.length
 | [], _ => ⟨by simp [Zz], by simp [Zz]⟩
 | m :: l, h => by
  have ih := Zd6 (l := l) fun x hx => h x (List.mem_cons_of_mem _ hx)
  have := Zdf (h m (by simp))
  have e : Zz (m :: l) = m.size + Zz l := by simp [Zz]
  rw [e]
  simp only [List.length_cons]
  omega
def Zb1 (T : List Msg) : List (Int × Bool) := T.foldl (fun m x => XS m x.stamp true) []
theorem ZpZ {T : List Msg} {k : Nat} (hk : k < T.length) : Zb1 (T.take (k + 1)) = XS (Zb1 (T.take k)) T[k].stamp true := by
 unfold Zb1
 rw [List.take_succ_eq_append_getElem hk, List.foldl_append]; rfl
theorem ZjW (s : Int) : ∀ (T : List Msg) (m : List (Int × Bool)), (ZP (T.foldl (fun m x => XS m x.stamp true) m) s).getD false = (decide (s ∈ T.map Msg.stamp) || (ZP m s).getD false)
 | [], m => by simp
 | x :: T, m => by
  rw [List.foldl_cons, ZjW s T, Ze9]
  by_cases h : s = x.stamp
  ·rw [if_pos h]
   simp [h]
  ·rw [if_neg h]
   simp [h]
theorem ZjX (T : List Msg) (s : Int) : (ZP (Zb1 T) s).getD false = decide (s ∈ T.map Msg.stamp) := by
 unfold Zb1
 rw [ZjW]
 simp [ZP]
theorem Zf1 (bud : Int) (ms : List Msg) (m : Msg) : (JN bud ms m).2 = Yo bud ms m := by
 unfold JN
 cases h : Yo bud ms m
 ·rw [if_neg (by simp)]
 ·rw [if_pos rfl]
theorem Zf2 (leaf bud : Int) (k : Nd) (L : List Msg) : (L.take (Zr leaf bud k L).2).length = (Zr leaf bud k L).2 := by
 have := ZjE leaf bud k L
 rw [List.length_take]; omega
theorem Zp0 {leaf bud : Int} {p k : Nd} {i : Int} (h : ¬ KidOf p k i) : ZW leaf bud p k i = (p, k, 0) := by unfold ZW; rw [if_pos (ZjV h)]
theorem Zp1 {leaf bud : Int} {p k : Nd} {i : Int} (hk : KidOf p k i) (h : ((Zd p.pivots p.msgs i).take (Zr leaf bud k (Zd p.pivots p.msgs i)).2).length = 0) : ZW leaf bud p k i = (p, k, 0) := by
 rw [Zf2] at h
 unfold ZW; rw [if_pos ((Zbn hk).trans h)]
theorem Zp2 {T : List Msg} (h : 0 < T.length) : T.getLast?.getD Msg.zero = T[T.length - 1]'om9 := by
 rw [List.getLast?_eq_getElem?, List.getElem?_eq_getElem om9]; rfl
theorem Zp3 {leaf bud : Int} {p k : Nd} {i : Int} {T : List Msg} (hk : KidOf p k i) (hT : T = (Zd p.pivots p.msgs i).take (Zr leaf bud k (Zd p.pivots p.msgs i)).2) (h : 0 < T.length) :
  ZW leaf bud p k i = ({ p with msgs := ZJ p.pivots i T p.msgs }, { (Zr leaf bud k (Zd p.pivots p.msgs i)).1 with seen := (T[T.length - 1]'om9).stamp }, T.length) := by
 have e : T.length = ZS leaf bud p k i := by rw [hT, Zf2, Zbn hk]
 unfold ZW
 rw [if_neg om9, Zbn hk, ← hT, Zp2 h, ← Zbn hk, ← e]
theorem Zp4 {P : List Str} {i : Int} {T : List Msg} {m : Msg} (h : ¬ m.stamp ∈ T.map Msg.stamp) : Xb P i T m = some m := if_neg h
theorem ZjY {P : List Str} {i : Int} {T : List Msg} {m : Msg} (h : m.stamp ∈ T.map Msg.stamp) (h4 : m.kind = 4) (hw : (ZC m (Zf P i)).2 = true) : Xb P i T m = some (ZC m (Zf P i)).1 := (if_pos h).trans (if_pos ⟨h4, hw⟩)
theorem Zf3 {P : List Str} {i : Int} {T : List Msg} {m : Msg} (h : m.stamp ∈ T.map Msg.stamp) (hw : ¬ (m.kind = 4 ∧ (ZC m (Zf P i)).2 = true)) : Xb P i T m = none := (if_pos h).trans (if_neg hw)
theorem Zf4 {P : List Str} {i : Int} {T : List Msg} {l : List Msg} {k : Nat} {x : Msg} {n : Nd} (hk : k < l.length) (h : Xb P i T l[k] = some x) : ({ n with msgs := ZJ P i T (l.take k) ++ [x] } : Nd) = { n with msgs := ZJ P i T (l.take (k + 1)) } := by unfold ZJ; rw [ZjQ hk h]
theorem Zf5 {P : List Str} {i : Int} {T : List Msg} {l : List Msg} {k : Nat} {n : Nd} (hk : k < l.length) (h : Xb P i T l[k] = none) : ({ n with msgs := ZJ P i T (l.take k) } : Nd) = { n with msgs := ZJ P i T (l.take (k + 1)) } := by unfold ZJ; rw [ZjR hk h]
theorem ZjZ {m : Msg} {s : Span} (h : m.Ok) : (ZC m s).1.Ok := by
 unfold ZC
 split
 ·exact ⟨⟨by decide, by decide⟩, ⟨by decide, by decide⟩⟩
 ·exact ZeL h
theorem ZcH {P : List Str} {l : List Msg} {i : Int} (hP : ∀ k ∈ P, k.b.size ≤ 16) (hl : ∀ m ∈ l, m.R) : ∀ m ∈ Zd P l i, m.R := fun m hm => by
 obtain ⟨a, ha, h2, rfl⟩ := ZjJ hm
 have hr := Zcx (p := P) (i := i) (n := 16) hP
 exact Za9 (hl a ha) hr.1 hr.2 h2
theorem Zj0 (P : List Str) (l : List Msg) (i : Int) : (Zd P l i).length ≤ l.length := Nat.le_trans (List.length_filterMap_le _ _) (ZfY l)
theorem Zp5 (P : List Str) (i : Int) (T l : List Msg) (k : Nat) : (ZJ P i T (l.take k)).length ≤ k := ZjS _ _ _
def Eff.D (e : Eff) : Prop := e.kind = 3 → e.val = Str.nil
def NmR (TN tm : TypeId) (b : Nat) (G : GH) (n : Nd) (M : MH) : Prop :=
 ∃ (pa : Option Addr) (pc : Nat) (ka : Option Addr) (kc : Nat) (vm : Value) (ra : Option Addr) (rc : Nat) (Mm : MH),
  M = (b, .cells (List.toArray [.int .i64 n.slot, .int .i64 n.level, .slice pa n.pivots.length pc, .slice ka n.kids.length kc, .string n.high.b, .bool n.top, .int .i64 n.right, .int .i64 n.seen, vm, .slice ra n.rows.length rc]) TN (0, 0)) :: Mm ∧
  SlR Yh G (.slice pa n.pivots.length pc) n.pivots ∧ SlR ZA G (.slice ka n.kids.length kc) n.kids ∧ OwnR Zu tm G vm n.msgs Mm ∧ SlR Zp G (.slice ra n.rows.length rc) n.rows ∧ n.Ok
theorem NmR.cast {TN tm : TypeId} {b : Nat} {G : GH} {n n' : Nd} {M : MH} (h : NmR TN tm b G n M) (e : n = n') : NmR TN tm b G n' M := e ▸ h
structure PourPre (cb : Int) (p k : Nd) : Prop where
 hb : 0 ≤ cb ∧ cb ≤ 9223372036854775807
 hr : ZZ p.pivots = true
 hpv : ∀ q ∈ p.pivots, q.b.size ≤ 16
 hpm : ∀ m ∈ p.msgs, m.R
 hkm : ∀ m ∈ k.msgs, m.key.b.size ≤ 16 ∧ m.val.b.size ≤ 16
 hkr : PairsR k.rows
 hsz : k.msgs.length + p.msgs.length ≤ 100000 ∧ k.rows.length ≤ 100000
theorem Zp6 : PairsR [] := fun i h => absurd h (Nat.not_lt_zero i)
theorem Zf6 {c : Cfg} {n : Nd} (h : n.R c.fan c.leaf c.bud) : ∀ m ∈ n.msgs, m.R := fun m hm => by
 have h4 := h.2.2.2
 by_cases h0 : n.level = 0
 ·rw [if_pos h0] at h4
  have e : n.msgs = [] := List.eq_nil_of_length_eq_zero (by have := h4.1; omega)
  rw [e] at hm; cases hm
 ·rw [if_neg h0] at h4
  exact (MsgsR.iff.1 h4.2.2.1).1 m hm
theorem Zp7 {c : Cfg} {n : Nd} (h : n.R c.fan c.leaf c.bud) : PairsR n.rows := by
 have h4 := h.2.2.2
 by_cases h0 : n.level = 0
 ·rw [if_pos h0] at h4; exact h4.2.2.1
 ·rw [if_neg h0] at h4
  have e : n.rows = [] := List.eq_nil_of_length_eq_zero h4.1.1
  rw [e]; exact Zp6
theorem Zp8 {c : Cfg} {p k : Nd} (hp : p.R c.fan c.leaf c.bud) (hk : k.R c.fan c.leaf c.bud) (h1 : ¬ p.level = 0) (sp : NdS p) (sk : NdS k) (hb : c.bud ≤ 9223372036854775807) : PourPre c.bud p k := by
 have hin : p.innerR c.fan c.bud := by have h4 := hp.2.2.2; rwa [if_neg h1] at h4
 have hm := Zf6 hp
 have hs := Zd6 fun m h => Y1 (hm m h)
 have hs2 := hin.2.2.2.1
 obtain ⟨_, _, s3, s4, _⟩ := sp
 obtain ⟨_, _, k3, k4, _⟩ := sk
 exact ⟨⟨om9, hb⟩, (YM hin.2.1).1, ZbX hp, hm, fun m h => Y1 (Zf6 hk m h), Zp7 hk, om9, om9⟩
end Go.Fw
