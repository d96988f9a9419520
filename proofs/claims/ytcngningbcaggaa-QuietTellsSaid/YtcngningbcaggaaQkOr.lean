/- One step of a cycle. Plain Lean; nothing of the program is named here. No condition. -/
import Derived.Test.YtcngningbcaggaaQkOa
set_option linter.unusedVariables false
set_option linter.unusedSimpArgs false
set_option linter.unnecessarySimpa false
set_option maxRecDepth 100000

namespace Go.Fw
open Go Go.RowKit
def kidAt (l : List Nd) (a i : Int) : Nd := getL l ((getL l a).kids.getD i.toNat 0)
noncomputable def kidStep (c : Cfg) (l : List Nd) (a i : Int) : (Int × Int × Int) × List Nd :=
 if decideN c (getL l a) (kidAt l a i) i = 3 then (if (partI c l a i).1 = 0 then ((3, a, 0), (partI c l a i).2) else ((0, a, (partI c l a i).1), (partI c l a i).2))
 else if decideN c (getL l a) (kidAt l a i) i = 4 then ((4, a, 0), pourL l (pourN c.leaf c.bud (getL l a) (kidAt l a i) i).1 (pourN c.leaf c.bud (getL l a) (kidAt l a i) i).2.1)
 else if decideN c (getL l a) (kidAt l a i) i = 5 then ((5, (kidAt l a i).slot, 0), l)
 else ((0, a, 0), l)
noncomputable def stepN (c : Cfg) (l : List Nd) (a : Int) (k : Str) : (Int × Int × Int) × List Nd :=
 if (chooseN c (getL l a) k).1 = 0 then ((0, a, 0), l)
 else if (chooseN c (getL l a) k).1 = 1 then (if (liftS c l).1 = 0 then ((1, a, 0), (liftS c l).2) else ((0, a, (liftS c l).1), (liftS c l).2))
 else kidStep c l a (chooseN c (getL l a) k).2
theorem step_0 {c : Cfg} {l : List Nd} {a : Int} {k : Str} (h : (chooseN c (getL l a) k).1 = 0) : stepN c l a k = ((0, a, 0), l) := if_pos h
theorem step_1 {c : Cfg} {l : List Nd} {a : Int} {k : Str} (h : (chooseN c (getL l a) k).1 = 1) (h2 : (liftS c l).1 = 0) : stepN c l a k = ((1, a, 0), (liftS c l).2) := by unfold stepN; rw [if_neg om9, if_pos h, if_pos h2]
theorem step_e {c : Cfg} {l : List Nd} {a : Int} {k : Str} (h : (chooseN c (getL l a) k).1 = 1) (h2 : ¬ (liftS c l).1 = 0) : stepN c l a k = ((0, a, (liftS c l).1), (liftS c l).2) := by unfold stepN; rw [if_neg om9, if_pos h, if_neg h2]
theorem step_2 {c : Cfg} {l : List Nd} {a : Int} {k : Str} (h : (chooseN c (getL l a) k).1 = 2) : stepN c l a k = kidStep c l a (chooseN c (getL l a) k).2 := by unfold stepN; rw [if_neg om9, if_neg om9]
section
variable {c : Cfg} {l : List Nd} {a i : Int}
theorem kid_3 (h : decideN c (getL l a) (kidAt l a i) i = 3) (h2 : (partI c l a i).1 = 0) : kidStep c l a i = ((3, a, 0), (partI c l a i).2) := by unfold kidStep; rw [if_pos h, if_pos h2]
theorem kid_e (h : decideN c (getL l a) (kidAt l a i) i = 3) (h2 : ¬ (partI c l a i).1 = 0) : kidStep c l a i = ((0, a, (partI c l a i).1), (partI c l a i).2) := by unfold kidStep; rw [if_pos h, if_neg h2]
theorem kid_4 (h : decideN c (getL l a) (kidAt l a i) i = 4) : kidStep c l a i = ((4, a, 0), pourL l (pourN c.leaf c.bud (getL l a) (kidAt l a i) i).1 (pourN c.leaf c.bud (getL l a) (kidAt l a i) i).2.1) := by unfold kidStep; rw [if_neg om9, if_pos h]
theorem kid_5 (h : decideN c (getL l a) (kidAt l a i) i = 5) : kidStep c l a i = ((5, (kidAt l a i).slot, 0), l) := by unfold kidStep; rw [if_neg om9, if_neg om9, if_pos h]
theorem kid_0 (h : decideN c (getL l a) (kidAt l a i) i = 0) : kidStep c l a i = ((0, a, 0), l) := by unfold kidStep; rw [if_neg om9, if_neg om9, if_neg om9]
theorem decide_cases (c : Cfg) (p k : Nd) (i : Int) : decideN c p k i = 0 ∨ decideN c p k i = 3 ∨ (decideN c p k i = 4 ∧ 0 < countN c.leaf c.bud p k i) ∨ decideN c p k i = 5 := by
 unfold decideN
 split
 ·split
  ·exact .inl rfl
  ·exact .inr (.inl rfl)
 ·split
  ·rename_i h; exact .inr (.inr (.inl ⟨rfl, h⟩))
  ·split
   ·exact .inr (.inr (.inr rfl))
   ·split
    ·split
     ·exact .inl rfl
     ·exact .inr (.inl rfl)
    ·exact .inl rfl
end
theorem choose_cases (c : Cfg) (n : Nd) (k : Str) : (chooseN c n k).1 = 0 ∨ (chooseN c n k).1 = 1 ∨ ((chooseN c n k).1 = 2 ∧ ¬ n.level = 0 ∧ ((chooseN c n k).2 = (victimN n.pivots n.msgs).1 ∨ (chooseN c n k).2 = ((routeN n.pivots k : Nat) : Int))) := by
 unfold chooseN
 split
 ·exact .inl rfl
 ·rename_i h0
  split
  ·exact .inr (.inl rfl)
  ·refine .inr (.inr ⟨rfl, h0, ?_⟩)
   dsimp only
   split
   ·exact .inl rfl
   ·exact .inr rfl
theorem Tree.seat_of {c : Cfg} {l : List Nd} {ss : List Seat} (t : Tree c l ss) {a : Int} (ha : 0 ≤ a ∧ a < l.length) : ∃ P ∈ ss, P.n = getL l a := by
 have hm : getL l a ∈ l := by rw [getL_in ha]; exact List.getElem_mem _
 have := (t.perm.mem_iff).2 hm
 obtain ⟨P, hP, e⟩ := List.mem_map.1 this
 exact ⟨P, hP, e⟩
structure StepAt (c : Cfg) (l : List Nd) (ss : List Seat) (a i : Int) (P : Seat) : Prop where
 mem : P ∈ ss
 n : P.n = getL l a
 h0 : ¬ P.n.level = 0
 hi : 0 ≤ i ∧ i < (P.n.kids.length : Int)
 slot : P.n.slot = a
 kid : (kidSt l P i.toNat).n = kidAt l a i
 kin : 0 ≤ (getL l a).kids.getD i.toNat 0 ∧ (getL l a).kids.getD i.toNat 0 < (l.length : Int)
 ksl : (kidAt l a i).slot = (getL l a).kids.getD i.toNat 0
 kof : KidOf (getL l a) (kidAt l a i) i
theorem step_at {c : Cfg} {l : List Nd} {ss : List Seat} (t : Tree c l ss) {a i : Int} (ha : 0 ≤ a ∧ a < l.length) (h0 : ¬ (getL l a).level = 0) (hi : 0 ≤ i ∧ i < ((getL l a).kids.length : Int)) : ∃ P, StepAt c l ss a i P := by
 obtain ⟨P, hP, e⟩ := t.seat_of ha
 have hP0 : ¬ P.n.level = 0 := by rw [e]; exact h0
 have hj : i.toNat < P.n.kids.length := by rw [e]; omega
 have h1 := t.at hP hP0 hj
 have ek : (getL l a).kids.getD i.toNat 0 = P.n.kids[i.toNat] := by rw [← e, List.getD_eq_getElem?_getD, List.getElem?_eq_getElem hj]; rfl
 have hs := (getL_slot t.slot ha).1
 have hks := (getL_slot t.slot h1.2.1).1
 have hl := t.lvl hP
 refine ⟨P, hP, e, hP0, by rw [e]; exact hi, by rw [e, hs], by rw [h1.2.2.1]; unfold kidAt; rw [ek], by rw [ek]; exact h1.2.1, by unfold kidAt; rw [ek]; exact hks, ?_⟩
 unfold KidOf kidAt
 rw [ek, ← h1.2.2.1, h1.2.2.2, ← e]
 exact ⟨om9, rfl, om9, by rw [e]; exact hi.2⟩
theorem choose_in {c : Cfg} {l : List Nd} {ss : List Seat} (t : Tree c l ss) {a : Int} {k : Str} (ha : 0 ≤ a ∧ a < l.length) (h : (chooseN c (getL l a) k).1 = 2) : ¬ (getL l a).level = 0 ∧ 0 ≤ (chooseN c (getL l a) k).2 ∧ (chooseN c (getL l a) k).2 < ((getL l a).kids.length : Int) := by
 obtain ⟨P, hP, e⟩ := t.seat_of ha
 rcases choose_cases c (getL l a) k with h1 | h1 | ⟨_, h0, h1⟩
 ·omega
 ·omega
 ·refine ⟨h0, ?_⟩
  have hr := (rightN_spec (kids_all (t.kids hP) (by rw [e]; exact h0)).2.2.1).2
  rw [e] at hr
  rcases h1 with h1 | h1
  ·rw [h1]
   have := victim_lt (P := (getL l a).pivots) (l := (getL l a).msgs)
   omega
  ·rw [h1]
   have : routeN (getL l a).pivots k ≤ (getL l a).pivots.length := List.length_filter_le _ _
   omega
theorem StepAt.pour {c : Cfg} {l : List Nd} {ss : List Seat} {a i : Int} {P : Seat} (t : Tree c l ss) (s : StepAt c l ss a i P) (h : 0 < countN c.leaf c.bud (getL l a) (kidAt l a i) i) :
  ∃ T, PourOf c l ss P i.toNat (pourN c.leaf c.bud (getL l a) (kidAt l a i) i).1 (pourN c.leaf c.bud (getL l a) (kidAt l a i) i).2.1 T := by
 rcases pour_cases c (getL l a) (kidAt l a i) i with e | ⟨hk, T, hp, e⟩
 ·have := pour_n c.leaf c.bud (getL l a) (kidAt l a i) i
  rw [e] at this
  dsimp only at this
  omega
 ·refine ⟨T, t, s.mem, s.h0, by have := s.hi; omega, ?_⟩
  have hc : ((i.toNat : Nat) : Int) = i := by have := s.hi; omega
  rw [s.kid, s.n, hc]
  exact hp
theorem kid_tree {c : Cfg} {l : List Nd} {ss : List Seat} (t : Tree c l ss) {a i : Int} (ha : 0 ≤ a ∧ a < l.length) (h0 : ¬ (getL l a).level = 0) (hi : 0 ≤ i ∧ i < ((getL l a).kids.length : Int)) : ∃ T, Tree c (kidStep c l a i).2 T ∧ mapN (kidStep c l a i).2 = mapN l := by
 obtain ⟨P, s⟩ := step_at t ha h0 hi
 rcases decide_cases c (getL l a) (kidAt l a i) i with h | h | ⟨h, h2⟩ | h
 ·rw [kid_0 h]; exact ⟨ss, t, rfl⟩
 ·obtain ⟨T, h1, h2⟩ := part_all t a i
  by_cases h3 : (partI c l a i).1 = 0
  ·rw [kid_3 h h3]; exact ⟨T, h1, h2⟩
  ·rw [kid_e h h3]; exact ⟨T, h1, h2⟩
 ·rw [kid_4 h]
  obtain ⟨T, p⟩ := s.pour t h2
  exact ⟨_, p.tree, p.map⟩
 ·rw [kid_5 h]; exact ⟨ss, t, rfl⟩
theorem step_tree {c : Cfg} {l : List Nd} {ss : List Seat} (t : Tree c l ss) {a : Int} (ha : 0 ≤ a ∧ a < l.length) (k : Str) : ∃ T, Tree c (stepN c l a k).2 T ∧ mapN (stepN c l a k).2 = mapN l := by
 rcases choose_cases c (getL l a) k with h | h | ⟨h, _⟩
 ·rw [step_0 h]; exact ⟨ss, t, rfl⟩
 ·obtain ⟨T, h1, h2⟩ := lift_all t
  by_cases h3 : (liftS c l).1 = 0
  ·rw [step_1 h h3]; exact ⟨T, h1, h2⟩
  ·rw [step_e h h3]; exact ⟨T, h1, h2⟩
 ·rw [step_2 h]
  obtain ⟨h0, hi⟩ := choose_in t ha h
  exact kid_tree t ha h0 hi
theorem lift_grow (c : Cfg) (l : List Nd) : l.length ≤ (liftS c l).2.length := by
 unfold liftS
 split
 ·exact Nat.le_refl _
 ·split
  ·exact Nat.le_refl _
  ·unfold liftL
   simp
theorem part_grow (c : Cfg) (l : List Nd) (p i : Int) : l.length ≤ (partI c l p i).2.length := by
 unfold partI
 split
 ·exact Nat.le_refl _
 ·unfold partS
  split
  ·exact Nat.le_refl _
  ·split
   ·exact Nat.le_refl _
   ·split
    ·exact Nat.le_refl _
    ·split
     ·exact Nat.le_refl _
     ·unfold lstP
      simp
theorem pour_grow (l : List Nd) (a b : Nd) : l.length ≤ (pourL l a b).length := by unfold pourL; simp
theorem kid_grow (c : Cfg) (l : List Nd) (a i : Int) : l.length ≤ (kidStep c l a i).2.length := by
 have hp := part_grow c l a i
 rcases decide_cases c (getL l a) (kidAt l a i) i with h | h | ⟨h, h2⟩ | h
 ·rw [kid_0 h]; exact Nat.le_refl _
 ·by_cases h3 : (partI c l a i).1 = 0
  ·rw [kid_3 h h3]; exact hp
  ·rw [kid_e h h3]; exact hp
 ·rw [kid_4 h]; exact pour_grow _ _ _
 ·rw [kid_5 h]; exact Nat.le_refl _
theorem step_grow (c : Cfg) (l : List Nd) (a : Int) (k : Str) : l.length ≤ (stepN c l a k).2.length := by
 have hl := lift_grow c l
 rcases choose_cases c (getL l a) k with h | h | ⟨h, _⟩
 ·rw [step_0 h]; exact Nat.le_refl _
 ·by_cases h3 : (liftS c l).1 = 0
  ·rw [step_1 h h3]; exact hl
  ·rw [step_e h h3]; exact hl
 ·rw [step_2 h]; exact kid_grow c l a _
theorem step_next {c : Cfg} {l : List Nd} {ss : List Seat} (t : Tree c l ss) {a : Int} (ha : 0 ≤ a ∧ a < l.length) (k : Str) : 0 ≤ (stepN c l a k).1.2.1 ∧ (stepN c l a k).1.2.1 < ((stepN c l a k).2.length : Int) := by
 have hg := step_grow c l a k
 rcases choose_cases c (getL l a) k with h | h | ⟨h, _⟩
 ·rw [step_0 h]; exact ha
 ·by_cases h3 : (liftS c l).1 = 0
  ·rw [step_1 h h3] at hg ⊢; exact ⟨ha.1, by show a < _; dsimp only at hg ⊢; omega⟩
  ·rw [step_e h h3] at hg ⊢; exact ⟨ha.1, by show a < _; dsimp only at hg ⊢; omega⟩
 ·obtain ⟨h0, hi⟩ := choose_in t ha h
  obtain ⟨P, s⟩ := step_at t ha h0 hi
  have hpg := part_grow c l a (chooseN c (getL l a) k).2
  rw [step_2 h]
  rcases decide_cases c (getL l a) (kidAt l a (chooseN c (getL l a) k).2) (chooseN c (getL l a) k).2 with h | h | ⟨h, h2⟩ | h
  ·rw [kid_0 h]; exact ha
  ·by_cases h3 : (partI c l a (chooseN c (getL l a) k).2).1 = 0
   ·rw [kid_3 h h3]; exact ⟨ha.1, by dsimp only; omega⟩
   ·rw [kid_e h h3]; exact ⟨ha.1, by dsimp only; omega⟩
  ·rw [kid_4 h]
   have := pour_grow l (pourN c.leaf c.bud (getL l a) (kidAt l a (chooseN c (getL l a) k).2) (chooseN c (getL l a) k).2).1 (pourN c.leaf c.bud (getL l a) (kidAt l a (chooseN c (getL l a) k).2) (chooseN c (getL l a) k).2).2.1
   exact ⟨ha.1, by dsimp only; omega⟩
  ·rw [kid_5 h]
   show 0 ≤ (kidAt _ _ _).slot ∧ (kidAt _ _ _).slot < _
   rw [s.ksl]
   exact s.kin
noncomputable def cycF (c : Cfg) (k : Str) : Nat → List Nd → Int → Int → Option (Int × Int × List Nd)
 | 0, _, _, _ => none
 | m + 1, l, a, n => if (stepN c l a k).1.1 = 0 then some (n, (stepN c l a k).1.2.2, (stepN c l a k).2) else cycF c k m (stepN c l a k).2 (stepN c l a k).1.2.1 (if (stepN c l a k).1.1 = 5 then n else n + 1)
theorem cyc_end {c : Cfg} {k : Str} {m : Nat} {l : List Nd} {a n : Int} (h : (stepN c l a k).1.1 = 0) : cycF c k (m + 1) l a n = some (n, (stepN c l a k).1.2.2, (stepN c l a k).2) := if_pos h
theorem cyc_down {c : Cfg} {k : Str} {m : Nat} {l : List Nd} {a n : Int} (h : (stepN c l a k).1.1 = 5) : cycF c k (m + 1) l a n = cycF c k m (stepN c l a k).2 (stepN c l a k).1.2.1 n := by
 show (if _ then _ else _) = _
 rw [if_neg om9, if_pos h]
theorem cyc_did {c : Cfg} {k : Str} {m : Nat} {l : List Nd} {a n : Int} (h : ¬ (stepN c l a k).1.1 = 0) (h2 : ¬ (stepN c l a k).1.1 = 5) : cycF c k (m + 1) l a n = cycF c k m (stepN c l a k).2 (stepN c l a k).1.2.1 (n + 1) := by
 show (if _ then _ else _) = _
 rw [if_neg h, if_neg h2]
theorem cyc_tree {c : Cfg} {k : Str} : ∀ (m : Nat) {l : List Nd} {ss : List Seat} {a n : Int} {r : Int × Int × List Nd}, Tree c l ss → 0 ≤ a ∧ a < l.length → cycF c k m l a n = some r → ∃ T, Tree c r.2.2 T ∧ mapN r.2.2 = mapN l
 | 0, _, _, _, _, _, _, _, h => by cases h
 | m + 1, l, ss, a, n, r, t, ha, h => by
  obtain ⟨T, hT, hm⟩ := step_tree t ha k
  by_cases h0 : (stepN c l a k).1.1 = 0
  ·rw [cyc_end h0] at h
   cases h
   exact ⟨T, hT, hm⟩
  ·have hn := step_next t ha k
   by_cases h5 : (stepN c l a k).1.1 = 5
   ·rw [cyc_down h5] at h
    obtain ⟨T2, h1, h2⟩ := cyc_tree m hT hn h
    exact ⟨T2, h1, h2.trans hm⟩
   ·rw [cyc_did h0 h5] at h
    obtain ⟨T2, h1, h2⟩ := cyc_tree m hT hn h
    exact ⟨T2, h1, h2.trans hm⟩
def wtM (fan : Nat) (P : List Str) (m : Msg) : Nat := if m.kind = 4 then fan - routeN P m.key else 1
def wtS (fan : Nat) (P : List Str) (l : List Msg) : Nat := (l.map (wtM fan P)).sum
def wtN (c : Cfg) (n : Nd) : Nat := wtS c.fan.toNat n.pivots n.msgs + (c.fan.toNat - n.kids.length)
theorem wtS_size {fan : Nat} (hf : fan ≤ 64) (P : List Str) : ∀ l : List Msg, (wtS fan P l : Int) ≤ 2 * sizesN l
 | [] => by simp [wtS, sizesN]
 | m :: l => by
  have ih := wtS_size hf P l
  have h1 : (wtM fan P m : Int) ≤ 2 * m.size := by
   unfold wtM Msg.size
   split
   ·omega
   ·omega
  simp only [wtS, sizesN, List.map_cons, List.sum_cons] at ih ⊢
  omega
theorem wtN_le {c : Cfg} {n : Nd} (hc : CfgR c) (h : n.innerR c.fan c.bud) : wtN c n ≤ 8256 := by
 obtain ⟨⟨f1, f2⟩, _, ⟨b1, b2⟩, _⟩ := hc
 have h1 := wtS_size (fan := c.fan.toNat) om9 n.pivots n.msgs
 have h2 := h.2.2.2.1
 unfold wtN
 omega
theorem wtM_pos {fan : Nat} {P : List Str} {m : Msg} (h : routeN P m.key < fan) : 1 ≤ wtM fan P m := by
 unfold wtM; split <;> omega
theorem norm_lo {s : Span} (h : ¬ s.norm.empty = true) : s.norm.lo = s.lo := by
 unfold Span.norm at h ⊢
 split
 ·rename_i h2
  rw [if_pos h2] at h
  exact absurd (by simp [Span.empty, Span.zero, Str.lt_irrefl]) h
 ·split <;> rfl
theorem clip_key {m : Msg} {s : Span} (h4 : m.kind = 4) (h : (m.clip s).2 = true) : (m.clip s).1.kind = 4 ∧ (m.clip s).1.key = if m.key.lt s.lo = true then s.lo else m.key := by
 unfold Msg.clip at h ⊢
 split at h
 ·cases h
 ·rename_i h2
  rw [if_neg h2, if_pos h4]
  refine ⟨h4, ?_⟩
  dsimp only
  have hs : m.span = ⟨m.key, m.hi, m.opn⟩ := if_pos h4
  rw [hs] at h2 ⊢
  unfold Span.meet at h2 ⊢
  rw [norm_lo h2]
theorem left_kind {P : List Str} {i : Int} {T : List Msg} {m m' : Msg} (h : leftN P i T m = some m') : m' = m ∨ (m.kind = 4 ∧ (rangeN P i).opn = false ∧ (m.clip ⟨(rangeN P i).hi, Str.nil, true⟩).2 = true ∧ m' = (m.clip ⟨(rangeN P i).hi, Str.nil, true⟩).1) := by
 unfold leftN at h
 split at h
 ·split at h
  ·rename_i h2
   cases h
   right
   have h3 := h2.2
   unfold withoutN at h3 ⊢
   split at h3
   ·cases h3
   ·rename_i h4
    rw [if_neg h4]
    exact ⟨h2.1, by simpa using h4, h3, rfl⟩
  ·cases h
 ·cases h; exact .inl rfl
theorem left_le {fan : Nat} {P : List Str} {i : Int} {T : List Msg} {m m' : Msg} (h : leftN P i T m = some m') : wtM fan P m' ≤ wtM fan P m := by
 rcases left_kind h with rfl | ⟨h4, _, h2, rfl⟩
 ·exact Nat.le_refl _
 ·obtain ⟨h5, h6⟩ := clip_key h4 h2
  unfold wtM
  rw [if_pos h4, if_pos h5, h6]
  dsimp only
  have : routeN P m.key ≤ routeN P (if m.key.lt (rangeN P i).hi = true then (rangeN P i).hi else m.key) := by
   apply route_mono
   split
   ·rename_i h7; exact Str.lt_asymm h7
   ·exact Str.lt_irrefl _
  omega
theorem left_lt {fan : Nat} {P : List Str} {i : Nat} {T : List Msg} {m : Msg} (hr : rising P = true) (hT : m.stamp ∈ T.map Msg.stamp) (hi : routeN P m.key = i) (hf : i < fan) :
  ((leftN P i T m).elim 0 (wtM fan P)) + 1 ≤ wtM fan P m := by
 cases h : leftN P i T m with
 | none => exact wtM_pos om9
 | some m' =>
  show wtM fan P m' + 1 ≤ wtM fan P m
  have hiP : i ≤ P.length := by rw [← hi]; exact List.length_filter_le _ _
  unfold leftN at h
  rw [if_pos hT] at h
  split at h
  ·rename_i h2
   cases h
   have h3 := h2.2
   unfold withoutN at h3 ⊢
   split at h3
   ·cases h3
   ·rename_i h4
    rw [if_neg h4]
    obtain ⟨h5, h6⟩ := clip_key h2.1 h3
    have hk : (rangeN P (i : Int)).has m.key = true := by rw [range_has hr _ hiP, hi]; simp
    have ho : (rangeN P (i : Int)).opn = false := by simpa using h4
    have hlt : m.key.lt (rangeN P (i : Int)).hi = true := by
     rcases (span_has.1 hk).2 with h | h
     ·rw [ho] at h; cases h
     ·exact h
    unfold wtM
    rw [if_pos h2.1, if_pos h5, h6, if_pos hlt]
    dsimp only
    have h7 : routeN P m.key ≤ routeN P (rangeN P (i : Int)).hi := route_mono (Str.lt_asymm hlt)
    have h8 : routeN P (rangeN P (i : Int)).hi ≠ i := fun e => by
     have h9 : (rangeN P (i : Int)).has (rangeN P (i : Int)).hi = true := by rw [range_has hr _ hiP, e]; simp
     rcases (span_has.1 h9).2 with h | h
     ·rw [ho] at h; cases h
     ·rw [Str.lt_irrefl] at h; cases h
    omega
  ·cases h
theorem sum_fm {w : Msg → Nat} {f : Msg → Option Msg} : ∀ {l : List Msg}, (∀ m ∈ l, (f m).elim 0 w ≤ w m) → ((l.filterMap f).map w).sum ≤ (l.map w).sum
 | [], _ => by simp
 | m :: l, h => by
  have ih := sum_fm (w := w) (f := f) (l := l) fun x hx => h x (List.mem_cons_of_mem _ hx)
  have h1 := h m (by simp)
  rw [List.filterMap_cons]
  cases hf : f m with
  | none => simp only [List.map_cons, List.sum_cons]; omega
  | some x => rw [hf] at h1; simp only [List.map_cons, List.sum_cons]; dsimp only [Option.elim] at h1; omega
theorem sum_fm_lt {w : Msg → Nat} {f : Msg → Option Msg} : ∀ {l : List Msg} {a : Msg}, (∀ m ∈ l, (f m).elim 0 w ≤ w m) → a ∈ l → (f a).elim 0 w + 1 ≤ w a → ((l.filterMap f).map w).sum + 1 ≤ (l.map w).sum
 | [], _, _, ha, _ => by cases ha
 | m :: l, a, h, ha, hl => by
  have h1 := h m (by simp)
  rw [List.filterMap_cons]
  rcases List.mem_cons.1 ha with rfl | ha
  ·have ih := sum_fm (w := w) (f := f) (l := l) fun x hx => h x (List.mem_cons_of_mem _ hx)
   cases hf : f a with
   | none => rw [hf] at hl; simp only [List.map_cons, List.sum_cons]; dsimp only [Option.elim] at hl; omega
   | some x => rw [hf] at hl; simp only [List.map_cons, List.sum_cons]; dsimp only [Option.elim] at hl; omega
  ·have ih := sum_fm_lt (w := w) (f := f) (l := l) (fun x hx => h x (List.mem_cons_of_mem _ hx)) ha hl
   cases hf : f m with
   | none => simp only [List.map_cons, List.sum_cons]; omega
   | some x => rw [hf] at h1; simp only [List.map_cons, List.sum_cons]; dsimp only [Option.elim] at h1; omega
theorem Poured.lighter {c : Cfg} {p k : Nd} {i : Nat} {a b : Nd} {T : List Msg} (h : Poured c p k i a b T) (hr : rising p.pivots = true) (hi : i < c.fan.toNat) : wtN c a + 1 ≤ wtN c p := by
 obtain ⟨n, hn, hle, hT⟩ := h.take
 obtain ⟨x0, hx⟩ : ∃ x, x ∈ T := ⟨_, List.getElem_mem h.ne⟩
 have hx2 : x0 ∈ forN p.pivots p.msgs i := by
  rw [hT] at hx
  exact List.mem_of_mem_take hx
 obtain ⟨m, hm, h2⟩ := List.mem_filterMap.1 hx2
 unfold forF at h2
 split at h2
 ·rename_i h3
  have e : (m.clip (rangeN p.pivots i)).1 = x0 := Option.some.inj h2
  have hst : m.stamp ∈ T.map Msg.stamp := by
   rw [← clip_stamp h3.2, e]
   exact List.mem_map_of_mem hx
  have key := sum_fm_lt (w := wtM c.fan.toNat p.pivots) (f := leftN p.pivots i T) (l := p.msgs) (a := m) (fun x _ => by
   cases hf : leftN p.pivots i T x with
   | none => exact Nat.zero_le _
   | some y => exact left_le hf) (front_mem hm) (left_lt hr hst om9 hi)
  rw [h.ea]
  unfold wtN wtS
  dsimp only
  unfold restN
  omega
 ·cases h2
theorem adopt_eq {n : Nd} {i : Nat} {k : Str} {v : Int} (h : (adoptN n i k v).2 = true) : (adoptN n i k v).1 = adoptNd n i k v ∧ i < n.kids.length := by
 unfold adoptN at h ⊢
 split at h
 ·cases h
 ·rename_i h2
  rw [if_neg h2]
  by_cases h3 : n.kids.length ≤ i ∨ (rangeN n.pivots (i : Int)).has k = false ∨ k = (rangeN n.pivots (i : Int)).lo
  ·exact absurd (.inr (bins_0 h3)) h2
  ·have h4 : ¬ n.kids.length ≤ i := fun e => h3 (.inl e)
   have h5 : (rangeN n.pivots (i : Int)).has k = true := by
    cases h6 : (rangeN n.pivots (i : Int)).has k
    ·exact absurd (.inr (.inl h6)) h3
    ·rfl
   rw [binsN_1 h4 h5 (fun e => h3 (.inr (.inr e)))]
   exact ⟨rfl, om9⟩
def LowP (c : Cfg) (l : List Nd) (a : Int) : Prop := ¬ (getL l a).slot = 0 ∨ (2 ≤ (getL l a).level ∧ fullN c (getL l a) = false ∧ ∀ j : Nat, j < (getL l a).kids.length → fullN c (kidAt l a j) = false)
theorem choose_is1 {c : Cfg} {n : Nd} {k : Str} (h : (chooseN c n k).1 = 1) : ¬ n.level = 0 ∧ n.slot = 0 ∧ fullN c n = true := by
 unfold chooseN at h
 split at h
 ·cases h
 ·rename_i h0
  split at h
  ·rename_i h1; exact ⟨h0, h1.1, h1.2⟩
  ·cases h
theorem kid_low {c : Cfg} {l : List Nd} {ss : List Seat} (t : Tree c l ss) {a i : Int} {P : Seat} (s : StepAt c l ss a i P) : ¬ (kidAt l a i).slot = 0 ∧ (kidAt l a i).level = (getL l a).level - 1 ∧ getL l (kidAt l a i).slot = kidAt l a i ∧ 0 ≤ (kidAt l a i).slot ∧ (kidAt l a i).slot < l.length := by
 have hk := t.at s.mem s.h0 (j := i.toNat) (by have := s.hi; omega)
 have hlv := hk.2.2.2
 rw [s.kid, s.n] at hlv
 refine ⟨fun e => ?_, hlv, by rw [s.ksl]; rfl, by rw [s.ksl]; exact s.kin.1, by rw [s.ksl]; exact s.kin.2⟩
 have h1 := t.nodup_s
 rw [t.fix, List.map_cons, List.nodup_cons] at h1
 refine h1.1 (List.mem_map.2 ⟨kidSt l P i.toNat, List.mem_flatMap.2 ⟨P, s.mem, ?_⟩, ?_⟩)
 ·rw [(kids_all (t.kids s.mem) s.h0).1]
  exact List.mem_map.2 ⟨i.toNat, List.mem_range.2 (by have := s.hi; omega), rfl⟩
 ·rw [s.kid, e, t.rootn, (getL_slot t.slot ⟨Int.le_refl _, by have := t.pos; omega⟩).1]
theorem decide_5 {c : Cfg} {p k : Nd} {i : Int} (h : decideN c p k i = 5) : 0 < k.level ∧ fullN c k = false ∧ ¬ 0 < countN c.leaf c.bud p k i := by
 unfold decideN at h
 split at h
 ·split at h <;> cases h
 ·rename_i h1
  split at h
  ·cases h
  ·rename_i h2
   split at h
   ·rename_i h3
    refine ⟨h3, ?_, h2⟩
    cases h4 : fullN c k
    ·rfl
    ·exact absurd ⟨h3, h4⟩ h1
   ·split at h
    ·split at h <;> cases h
    ·cases h
end Go.Fw
