/- What lifting a root, and parting a kid, do to a store's nodes. Plain Lean; nothing of the program is named here. No condition. -/
import Derived.Test.YtfmigmijckdldaaGreatQgNx
import Derived.Test.YtfmigmijckdldaaGreatQgUb
set_option linter.unusedVariables false
set_option linter.unusedSimpArgs false
set_option linter.unnecessarySimpa false
set_option maxRecDepth 100000
set_option maxHeartbeats 1600000

namespace Go.Fw
open Go Go.RowKit
theorem cleave_ok (n : Nd) (i : Int) : (cleaveN n i).2.2.2 = (halvesN n).2.2.2 := by
 cases h : (halvesN n).2.2.2
 ·rw [cleaveN_f h]
 ·rw [cleaveN_t h]
theorem lift_ok2 (n : Nd) (x y x' y' : Int) : (liftN n x y).2.2.2 = (liftN n x' y').2.2.2 := by rw [lift_ok, lift_ok, cleave_ok, cleave_ok]
def tk (l : List Nd) (x : Nd) : List Nd := l ++ [{ x with slot := l.length }]
theorem tk_len (l : List Nd) (x : Nd) : (tk l x).length = l.length + 1 := by simp [tk]
theorem take_tk {n : Nat} {l : List Nd} {x : Nd} (h : l.length < n) : takeL n l x = (((l.length : Int), 0), tk l x) := takeL_t h
def liftS (c : Cfg) (l : List Nd) : Int × List Nd :=
 if (liftN (getL l 0) l.length ((l.length : Int) + 1)).2.2.2 = false then (6, l)
 else if c.slots.toNat - l.length < 2 then (4, l)
 else (0, liftL l (liftN (getL l 0) l.length ((l.length : Int) + 1)).1 (liftN (getL l 0) l.length ((l.length : Int) + 1)).2.1 (liftN (getL l 0) l.length ((l.length : Int) + 1)).2.2.1)
theorem liftS_6 {c : Cfg} {l : List Nd} {x y : Int} (h : (liftN (getL l 0) x y).2.2.2 = false) : liftS c l = (6, l) := if_pos (by rw [lift_ok2 _ _ _ x y]; exact h)
theorem liftS_4 {c : Cfg} {l : List Nd} {x y : Int} (h : (liftN (getL l 0) x y).2.2.2 = true) (hr : c.slots.toNat - l.length < 2) : liftS c l = (4, l) := by
 unfold liftS; rw [if_neg (by rw [lift_ok2 _ _ _ x y, h]; simp), if_pos hr]
theorem liftS_0 {c : Cfg} {l : List Nd} {x y : Int} (h : (liftN (getL l 0) x y).2.2.2 = true) (hr : ¬ c.slots.toNat - l.length < 2) :
  liftS c l = (0, liftL l (liftN (getL l 0) l.length ((l.length : Int) + 1)).1 (liftN (getL l 0) l.length ((l.length : Int) + 1)).2.1 (liftN (getL l 0) l.length ((l.length : Int) + 1)).2.2.1) := by
 unfold liftS; rw [if_neg (by rw [lift_ok2 _ _ _ x y, h]; simp), if_neg hr]
theorem lift_slots {n : Nd} {x y : Int} (h : (liftN n x y).2.2.2 = true) (hk : (cleaveN n y).2.1.slot = y) : (liftN n x y).1.slot = n.slot ∧ (liftN n x y).2.1.slot = x ∧ (liftN n x y).2.2.1.slot = y := by
 rw [lift_ok] at h
 rw [liftN_t h]
 exact ⟨rfl, rfl, hk⟩
theorem cleave_slot {n : Nd} {y : Int} (h : (cleaveN n y).2.2.2 = true) : (cleaveN n y).2.1.slot = y := by
 rw [cleave_ok] at h
 rw [cleaveN_t h]
theorem liftN_slots {n : Nd} {x y x' y' : Int} (h : (liftN n x' y').2.2.2 = true) : (liftN n x y).1.slot = n.slot ∧ (liftN n x y).2.1.slot = x ∧ (liftN n x y).2.2.1.slot = y := by
 have h2 : (liftN n x y).2.2.2 = true := by rw [lift_ok2 n x y x' y']; exact h
 exact lift_slots h2 (cleave_slot (by rw [← lift_ok n x y]; exact h2))
theorem set_at {l : List Nd} {A B : List Nd} {x y : Nd} (h : l = A ++ x :: B) (hy : y.slot.toNat = A.length) : l.set y.slot.toNat y = A ++ y :: B := by
 rw [h, hy, List.set_append_right _ _ (Nat.le_refl _), Nat.sub_self]; rfl
theorem lift_list {l : List Nd} {n r a b : Nd} (hr : r.slot = 0) (ha : a.slot = l.length) (hb : b.slot = (l.length : Int) + 1) (hp : 0 < l.length) : (((tk (tk l n) n).set r.slot.toNat r).set a.slot.toNat a).set b.slot.toNat b = liftL l r a b := by
 have e1 : (tk (tk l n) n).set r.slot.toNat r = l.set 0 r ++ [{ n with slot := l.length }, { n with slot := (tk l n).length }] := by
  unfold tk
  rw [hr, List.append_assoc]
  show List.set _ 0 r = _
  rw [List.set_append_left _ _ hp]; rfl
 have l0 : (l.set 0 r).length = l.length := List.length_set
 rw [e1, set_at (A := l.set 0 r) (B := [{ n with slot := (tk l n).length }]) (x := { n with slot := l.length }) rfl (by rw [l0]; omega)]
 rw [set_at (A := l.set 0 r ++ [a]) (B := []) (x := { n with slot := (tk l n).length }) (by simp) (by rw [List.length_append, l0]; simp; omega)]
 unfold liftL
 simp
theorem Tree.sound {c : Cfg} {l : List Nd} {ss : List Seat} (t : Tree c l ss) : soundN c l = true := by rw [soundN_t t.sts]; exact decide_eq_true t.q
theorem lift_all {c : Cfg} {l : List Nd} {ss : List Seat} (t : Tree c l ss) : ∃ T, Tree c (liftS c l).2 T ∧ mapN (liftS c l).2 = mapN l := by
 have hr : (rootS l 0).n = getL l 0 := t.rootn
 by_cases h1 : (liftN (getL l 0) l.length ((l.length : Int) + 1)).2.2.2 = true
 ·by_cases h2 : c.slots.toNat - l.length < 2
  ·rw [liftS_4 h1 h2]; exact ⟨ss, t, rfl⟩
  ·rw [liftS_0 h1 h2]
   have hsl := t.cfg.2.2.2.1.2
   have := lift_of t (by omega) (by omega) (by rw [hr]; exact h1)
   rw [hr] at this
   exact this
 ·rw [liftS_6 (by simpa using h1)]; exact ⟨ss, t, rfl⟩
end Go.Fw

namespace Go.Fw
open Go Go.RowKit
theorem cleave_key (n : Nd) (i j : Int) : (cleaveN n i).2.2.1 = (cleaveN n j).2.2.1 := by
 cases h : (halvesN n).2.2.2
 ·rw [cleaveN_f h, cleaveN_f h]
 ·rw [cleaveN_t h, cleaveN_t h]
theorem cleave_okS (n : Nd) (i j : Int) : (cleaveN n i).2.2.2 = (cleaveN n j).2.2.2 := by rw [cleave_ok, cleave_ok]
theorem bins_okS (p : List Str) (c : List Int) (i : Nat) (k : Str) (v w : Int) : (binsN p c i k v).2.length = (binsN p c i k w).2.length := by
 unfold binsN
 split
 ·rfl
 ·simp
theorem adopt_okS (n : Nd) (i : Nat) (k : Str) (v w : Int) : (adoptN n i k v).2 = (adoptN n i k w).2 := by
 unfold adoptN
 rw [bins_okS _ _ _ _ v w]
 split <;> rfl
def kdN (l : List Nd) (p : Int) (i : Nat) : Int := (getL l p).kids.getD i 0
def cutP (l : List Nd) (p : Int) (i : Nat) : Nd × Nd × Str × Bool := cleaveN (getL l (kdN l p i)) l.length
def adP (l : List Nd) (p : Int) (i : Nat) : Nd × Bool := adoptN (getL l p) i (cutP l p i).2.2.1 l.length
def lstP (l : List Nd) (p : Int) (i : Nat) : List Nd := ((l.set (cutP l p i).1.slot.toNat (cutP l p i).1).set p.toNat (adP l p i).1) ++ [(cutP l p i).2.1]
def partS (c : Cfg) (l : List Nd) (p : Int) (i : Nat) : Int × List Nd :=
 if ¬ (0 ≤ p ∧ p < l.length) ∨ (getL l p).kids.length ≤ i ∨ ¬ (0 ≤ kdN l p i ∧ kdN l p i < l.length) then (8, l)
 else if fullN c (getL l p) = true then (9, l)
 else if (cutP l p i).2.2.2 = false ∨ (adP l p i).2 = false then (6, l)
 else if ¬ (l.length : Int) < c.slots then (4, l)
 else (0, lstP l p i)
def partI (c : Cfg) (l : List Nd) (p i : Int) : Int × List Nd := if i < 0 then (8, l) else partS c l p i.toNat
theorem partS_8 {c : Cfg} {l : List Nd} {p : Int} {i : Nat} (h : ¬ (0 ≤ p ∧ p < l.length) ∨ (getL l p).kids.length ≤ i ∨ ¬ (0 ≤ kdN l p i ∧ kdN l p i < l.length)) : partS c l p i = (8, l) := if_pos h
theorem partS_9 {c : Cfg} {l : List Nd} {p : Int} {i : Nat} (h1 : 0 ≤ p ∧ p < l.length) (h2 : ¬ (getL l p).kids.length ≤ i) (h3 : 0 ≤ kdN l p i ∧ kdN l p i < l.length) (h : fullN c (getL l p) = true) : partS c l p i = (9, l) := by
 unfold partS; rw [if_neg (by rintro (h | h | h); exact h h1; exact h2 h; exact h h3), if_pos h]
theorem partS_6 {c : Cfg} {l : List Nd} {p : Int} {i : Nat} (h1 : 0 ≤ p ∧ p < l.length) (h2 : ¬ (getL l p).kids.length ≤ i) (h3 : 0 ≤ kdN l p i ∧ kdN l p i < l.length) (h4 : fullN c (getL l p) = false) (h : (cutP l p i).2.2.2 = false ∨ (adP l p i).2 = false) : partS c l p i = (6, l) := by
 unfold partS; rw [if_neg (by rintro (h | h | h); exact h h1; exact h2 h; exact h h3), if_neg (by rw [h4]; simp), if_pos h]
theorem partS_4 {c : Cfg} {l : List Nd} {p : Int} {i : Nat} (h1 : 0 ≤ p ∧ p < l.length) (h2 : ¬ (getL l p).kids.length ≤ i) (h3 : 0 ≤ kdN l p i ∧ kdN l p i < l.length) (h4 : fullN c (getL l p) = false) (h5 : (cutP l p i).2.2.2 = true) (h6 : (adP l p i).2 = true) (h : ¬ (l.length : Int) < c.slots) : partS c l p i = (4, l) := by
 unfold partS; rw [if_neg (by rintro (h | h | h); exact h h1; exact h2 h; exact h h3), if_neg (by rw [h4]; simp), if_neg (by rw [h5, h6]; simp), if_pos h]
theorem partS_0 {c : Cfg} {l : List Nd} {p : Int} {i : Nat} (h1 : 0 ≤ p ∧ p < l.length) (h2 : ¬ (getL l p).kids.length ≤ i) (h3 : 0 ≤ kdN l p i ∧ kdN l p i < l.length) (h4 : fullN c (getL l p) = false) (h5 : (cutP l p i).2.2.2 = true) (h6 : (adP l p i).2 = true) (h : (l.length : Int) < c.slots) : partS c l p i = (0, lstP l p i) := by
 unfold partS; rw [if_neg (by rintro (h | h | h); exact h h1; exact h2 h; exact h h3), if_neg (by rw [h4]; simp), if_neg (by rw [h5, h6]; simp), if_neg (by simpa using h)]
theorem cut_slots {l : List Nd} {p : Int} {i : Nat} (h : (cutP l p i).2.2.2 = true) : (cutP l p i).1.slot = (getL l (kdN l p i)).slot ∧ (cutP l p i).2.1.slot = l.length := by
 have hh : (halvesN (getL l (kdN l p i))).2.2.2 = true := by rw [← cleave_ok _ (l.length : Int)]; exact h
 unfold cutP
 rw [cleaveN_t hh]
 refine ⟨?_, rfl⟩
 show (halvesN (getL l (kdN l p i))).1.slot = _
 by_cases h0 : (getL l (kdN l p i)).level = 0
 ·rw [halvesN_0 h0]
 ·cases h2 : rightN (getL l (kdN l p i)).pivots (getL l (kdN l p i)).kids.length
  ·rw [halvesN_n h0 h2]
  ·rw [halvesN_k h0 h2]
theorem ad_slot {l : List Nd} {p : Int} {i : Nat} (h : (adP l p i).2 = true) : (adP l p i).1.slot = (getL l p).slot := by
 unfold adP adoptN at *
 split
 ·rename_i h2; rw [if_pos h2] at h; cases h
 ·rfl
theorem part_list {l : List Nd} {n a b r : Nd} {p : Int} (ha : 0 ≤ a.slot ∧ a.slot < l.length) (hb : b.slot = l.length) (hr : r.slot = p) (hp : 0 ≤ p ∧ p < l.length) :
  (((tk l n).set a.slot.toNat a).set b.slot.toNat b).set r.slot.toNat r = ((l.set a.slot.toNat a).set p.toNat r) ++ [b] := by
 unfold tk
 rw [List.set_append_left _ _ (by omega), hb, hr]
 have l1 : (l.set a.slot.toNat a).length = l.length := List.length_set
 rw [show ((l.length : Int)).toNat = (l.set a.slot.toNat a).length by rw [l1]; omega, List.set_append_right _ _ (Nat.le_refl _), Nat.sub_self, List.set_append_left _ _ (by omega)]
 rfl
theorem part_all {c : Cfg} {l : List Nd} {ss : List Seat} (t : Tree c l ss) (p i : Int) : ∃ T, Tree c (partI c l p i).2 T ∧ mapN (partI c l p i).2 = mapN l := by
 unfold partI
 split
 ·exact ⟨ss, t, rfl⟩
 ·generalize i.toNat = j
  by_cases h1 : 0 ≤ p ∧ p < l.length
  ·by_cases h2 : (getL l p).kids.length ≤ j
   ·rw [partS_8 (.inr (.inl h2))]; exact ⟨ss, t, rfl⟩
   ·by_cases h3 : 0 ≤ kdN l p j ∧ kdN l p j < l.length
    ·cases h4 : fullN c (getL l p)
     ·by_cases h5 : (cutP l p j).2.2.2 = true
      ·by_cases h6 : (adP l p j).2 = true
       ·by_cases h7 : (l.length : Int) < c.slots
        ·rw [partS_0 h1 h2 h3 h4 h5 h6 h7]
         obtain ⟨g1, g2⟩ := getL_slot t.slot h1
         obtain ⟨P, hP, eP⟩ := List.mem_map.1 ((t.perm.mem_iff).2 g2)
         have hj : j < P.n.kids.length := by rw [eP]; omega
         have h0 : ¬ P.n.level = 0 := fun h0 => by have := (t.leaf hP h0).1; omega
         have hat := t.at hP h0 hj
         have ek : (kidSt l P j).n = getL l (kdN l p j) := by
          rw [hat.2.2.1]
          unfold kdN
          rw [← eP, List.getD_eq_getElem?_getD, List.getElem?_eq_getElem hj]; rfl
         have hfull : (P.n.kids.length : Int) < c.fan := by
          unfold fullN at h4
          rw [if_neg (by rw [← eP]; exact h0), decide_eq_false_iff_not] at h4
          rw [eP]; omega
         unfold adP cutP at h6
         unfold cutP at h5
         rw [← ek] at h5 h6
         rw [← eP] at h6
         have hsl := t.cfg.2.2.2.1.2
         have key := part_of t hP h0 hj hfull h7 (by omega) h5 h6
         obtain ⟨e9, h, q⟩ := key
         have el : lstP l p j = partL l P.n j (cleaveN (kidSt l P j).n l.length).1 (cleaveN (kidSt l P j).n l.length).2.1 (cleaveN (kidSt l P j).n l.length).2.2.1 := by
          unfold lstP adP cutP partL
          rw [← ek, ← eP, e9]
          have : P.n.slot = p := by rw [eP]; exact g1
          rw [this]
         rw [el]
         exact ⟨_, q.tree, q.map⟩
        ·rw [partS_4 h1 h2 h3 h4 h5 h6 h7]; exact ⟨ss, t, rfl⟩
       ·rw [partS_6 h1 h2 h3 h4 (.inr (by simpa using h6))]; exact ⟨ss, t, rfl⟩
      ·rw [partS_6 h1 h2 h3 h4 (.inl (by simpa using h5))]; exact ⟨ss, t, rfl⟩
     ·rw [partS_9 h1 h2 h3 h4]; exact ⟨ss, t, rfl⟩
    ·rw [partS_8 (.inr (.inr h3))]; exact ⟨ss, t, rfl⟩
  ·rw [partS_8 (.inl h1)]; exact ⟨ss, t, rfl⟩
end Go.Fw

namespace Go.Fw
open Go Go.RowKit
theorem OwnR.cast {α : Type} {e : Enc α} {T : TypeId} {G : GH} {v : Value} {l l' : List α} {Ms : MH} (h : OwnR e T G v l Ms) (h2 : l = l') : OwnR e T G v l' Ms := h2 ▸ h
def wOf (P : List Str) (F : List Msg) (i : Nat) : Int := sizesN (F.filter fun m => decide (routeN P m.key = i))
def bestTo (w : Nat → Int) : Nat → Nat
 | 0 => 0
 | k + 1 => if w (bestTo w k) < w k then k else bestTo w k
theorem bestTo_t {w : Nat → Int} {k : Nat} (h : w (bestTo w k) < w k) : bestTo w (k + 1) = k := if_pos h
theorem bestTo_f {w : Nat → Int} {k : Nat} (h : ¬ w (bestTo w k) < w k) : bestTo w (k + 1) = bestTo w k := if_neg h
theorem bestTo_lt (w : Nat → Int) : ∀ k, bestTo w k < k ∨ (k = 0 ∧ bestTo w k = 0)
 | 0 => .inr ⟨rfl, rfl⟩
 | k + 1 => by
  left
  unfold bestTo
  split
  ·omega
  ·rcases bestTo_lt w k with h | h <;> omega
theorem bestTo_max (w : Nat → Int) : ∀ k j, j < k → w j ≤ w (bestTo w k)
 | 0, j, h => absurd h (Nat.not_lt_zero j)
 | k + 1, j, h => by
  unfold bestTo
  split
  ·rename_i h2
   by_cases e : j = k
   ·rw [e]; exact Int.le_refl _
   ·have := bestTo_max w k j (by omega); omega
  ·rename_i h2
   by_cases e : j = k
   ·rw [e]; omega
   ·exact bestTo_max w k j (by omega)
def victimN (P : List Str) (l : List Msg) : Int × Bool := if l.length = 0 then (0, false) else (((bestTo (wOf P (frontN l)) (P.length + 1) : Nat) : Int), true)
theorem wOf_pos (P : List Str) (F : List Msg) (i : Nat) : 0 ≤ wOf P F i := by
  unfold wOf
  generalize F.filter _ = L
  induction L with
  | nil => exact Int.le_refl 0
  | cons m L ih => have := size_pos m; have e : sizesN (m :: L) = m.size + sizesN L := by simp [sizesN]
                   rw [e]; omega
theorem wOf_le (P : List Str) (F : List Msg) (i : Nat) (h : ∀ m ∈ F, m.key.b.size ≤ 16 ∧ m.val.b.size ≤ 16) : wOf P F i ≤ 36 * F.length := by
 have h1 := sizes_bound (l := F.filter fun m => decide (routeN P m.key = i)) fun m hm => h m (List.mem_filter.1 hm).1
 have h2 := List.length_filter_le (fun m : Msg => decide (routeN P m.key = i)) F
 have := h1.2
 unfold wOf
 omega
theorem wOf_t {P : List Str} {F : List Msg} {q i : Nat} (hq : q < F.length) (h : routeN P F[q].key = i) : wOf P (F.take (q + 1)) i = wOf P (F.take q) i + F[q].size := by
 unfold wOf
 rw [filt_t (p := fun m : Msg => decide (routeN P m.key = i)) hq (by simp [h]), sizes_app]
 simp [sizesN]
theorem wOf_f {P : List Str} {F : List Msg} {q i : Nat} (hq : q < F.length) (h : ¬ routeN P F[q].key = i) : wOf P (F.take (q + 1)) i = wOf P (F.take q) i := by
 unfold wOf
 rw [filt_f (p := fun m : Msg => decide (routeN P m.key = i)) hq (by simp [h])]
theorem front_pos {l : List Msg} (h : 0 < l.length) : 0 < (frontN l).length := by
 unfold frontN
 have h1 := idxN_le isW l
 split
 ·exact h
 ·split
  ·rw [List.length_take]; omega
  ·rw [List.length_take]; omega
theorem best_pos {P : List Str} {l : List Msg} (h : 0 < l.length) : 0 < wOf P (frontN l) (bestTo (wOf P (frontN l)) (P.length + 1)) := by
 have h0 := front_pos h
 have hr : routeN P ((frontN l)[0]).key ≤ P.length := List.length_filter_le _ _
 have hm := bestTo_max (wOf P (frontN l)) (P.length + 1) (routeN P ((frontN l)[0]).key) (by omega)
 have : 0 < wOf P (frontN l) (routeN P ((frontN l)[0]).key) := by
  have e : (frontN l).take 1 ++ (frontN l).drop 1 = frontN l := List.take_append_drop _ _
  have h1 := wOf_t (P := P) (F := frontN l) (q := 0) h0 rfl
  have h2 : 0 < ((frontN l)[0]).size := by unfold Msg.size; split <;> omega
  have h3 : wOf P (frontN l) (routeN P ((frontN l)[0]).key) = wOf P ((frontN l).take 1) (routeN P ((frontN l)[0]).key) + wOf P ((frontN l).drop 1) (routeN P ((frontN l)[0]).key) := by
   generalize routeN P ((frontN l)[0]).key = z
   conv => lhs; rw [← e]
   unfold wOf
   rw [List.filter_append, sizes_app]
  have h4 := wOf_pos P ((frontN l).take 0) (routeN P ((frontN l)[0]).key)
  have h5 := wOf_pos P ((frontN l).drop 1) (routeN P ((frontN l)[0]).key)
  rw [h3]
  rw [show (0 + 1 : Nat) = 1 from rfl] at h1
  omega
 omega
theorem victim_n {P : List Str} {l : List Msg} (h : ¬ 0 < l.length) : victimN P l = (0, false) := by unfold victimN; rw [if_pos (by omega)]
theorem victim_p {P : List Str} {l : List Msg} (h : 0 < l.length) : victimN P l = (((bestTo (wOf P (frontN l)) (P.length + 1) : Nat) : Int), true) := by unfold victimN; rw [if_neg (by omega)]
theorem victim_lt {P : List Str} {l : List Msg} : 0 ≤ (victimN P l).1 ∧ (victimN P l).1 ≤ P.length := by
 unfold victimN
 split
 ·exact ⟨Int.le_refl 0, by omega⟩
 ·rcases bestTo_lt (wOf P (frontN l)) (P.length + 1) with h | h
  ·dsimp only; omega
  ·omega
theorem bt_t {w : Nat → Int} {i : Nat} (h : (if i = 0 then 0 else w (bestTo w i)) < w i) : bestTo w (i + 1) = i := by
 by_cases e : i = 0
 ·subst e
  unfold bestTo
  split
  ·rfl
  ·rfl
 ·rw [if_neg e] at h; exact bestTo_t h
theorem bt_f {w : Nat → Int} {i : Nat} (h : ¬ (if i = 0 then 0 else w (bestTo w i)) < w i) : bestTo w (i + 1) = bestTo w i := by
 by_cases e : i = 0
 ·subst e
  unfold bestTo
  split
  ·rfl
  ·rfl
 ·rw [if_neg e] at h; exact bestTo_f h
theorem mt_f {w : Nat → Int} (hw : ∀ j, 0 ≤ w j) {i : Nat} (h : ¬ (if i = 0 then 0 else w (bestTo w i)) < w i) : w (bestTo w (i + 1)) = if i = 0 then 0 else w (bestTo w i) := by
 rw [bt_f h]
 by_cases e : i = 0
 ·subst e
  rw [if_pos rfl] at h ⊢
  have := hw 0
  show w 0 = 0
  omega
 ·rw [if_neg e]
theorem rvic_eq (P : List Str) (l : List Msg) : (Value.tuple #[.int .i64 ((bestTo (wOf P (frontN l)) (P.length + 1) : Nat) : Int), .bool (decide (0 < wOf P (frontN l) (bestTo (wOf P (frontN l)) (P.length + 1))))] : Value) = .tuple #[.int .i64 (victimN P l).1, .bool (victimN P l).2] := by
 by_cases h : 0 < l.length
 ·rw [decide_eq_true (best_pos h), victim_p h]
 ·have e : l = [] := List.eq_nil_of_length_eq_zero (by omega)
  subst e
  have hz : ∀ i, wOf P (frontN []) i = 0 := fun i => rfl
  have hb : ∀ k, bestTo (wOf P (frontN [])) k = 0 := fun k => by
   induction k with
   | zero => rfl
   | succ k ih => rw [bestTo_f (by rw [hz, hz]; omega), ih]
  rw [hz, hb]
  rfl
def wts (P : List Str) (F : List Msg) : List Int := (List.range (P.length + 1)).map (wOf P F)
theorem wts_len (P : List Str) (F : List Msg) : (wts P F).length = P.length + 1 := by simp [wts]
theorem wts_get {P : List Str} {F : List Msg} {i : Nat} (h : i < (wts P F).length) : (wts P F)[i] = wOf P F i := by simp [wts]
theorem wts_nil (P : List Str) : List.replicate (P.length + 1) (0 : Int) = wts P [] := by
 refine List.ext_getElem (by simp [wts]) fun i h1 h2 => ?_
 rw [wts_get h2]
 simp [wOf, sizesN]
theorem wts_set {P : List Str} {F : List Msg} {q : Nat} (hq : q < F.length) (h : routeN P F[q].key < (wts P (F.take q)).length) : (wts P (F.take q)).set (routeN P F[q].key) ((wts P (F.take q))[routeN P F[q].key] + F[q].size) = wts P (F.take (q + 1)) := by
 refine List.ext_getElem (by rw [List.length_set, wts_len, wts_len]) fun i h1 h2 => ?_
 rw [wts_get h2, List.getElem_set]
 rw [List.length_set] at h1
 split
 ·rename_i e
  subst e
  rw [wts_get h1, wOf_t hq rfl]
 ·rename_i e
  rw [wts_get h1, wOf_f hq e]
theorem front_1 {l : List Msg} {k : Nat} (h : idxN isW l = ((k : Nat) : Int)) (h0 : k = 0) : (l.take 1).drop 0 = frontN l := by unfold frontN; rw [if_neg (by omega), if_pos (by omega), List.drop_zero]
theorem front_k {l : List Msg} {k : Nat} (h : idxN isW l = ((k : Nat) : Int)) (h0 : ¬ k = 0) : l.take k = frontN l := by unfold frontN; rw [if_neg (by omega), if_neg (by omega), h]; rfl
theorem front_no {l : List Msg} {k : Nat} (h : ∀ j (h : j < l.length), isW l[j] = false) (hk : l.length ≤ k) : l.take k = frontN l := by rw [List.take_of_length_le hk]; exact front_all (idxN_no h)
def chooseN (c : Cfg) (n : Nd) (k : Str) : Int × Int :=
 if n.level = 0 then (0, 0) else if n.slot = 0 ∧ fullN c n = true then (1, 0) else (2, if (victimN n.pivots n.msgs).2 = true then (victimN n.pivots n.msgs).1 else ((routeN n.pivots k : Nat) : Int))
noncomputable def decideN (c : Cfg) (p k : Nd) (i : Int) : Int :=
 if 0 < k.level ∧ fullN c k = true then (if fullN c p = true then 0 else 3) else if 0 < countN c.leaf c.bud p k i then 4 else if 0 < k.level then 5 else if 0 < (forN p.pivots p.msgs i).length then (if fullN c p = true then 0 else 3) else 0
theorem pour_n (leaf bud : Int) (p k : Nd) (i : Int) : (pourN leaf bud p k i).2.2 = countN leaf bud p k i := by
 unfold pourN
 split
 ·rename_i h; rw [h]
 ·rfl
theorem choose_0 {c : Cfg} {n : Nd} {k : Str} (h : n.level = 0) : chooseN c n k = (0, 0) := if_pos h
theorem choose_1 {c : Cfg} {n : Nd} {k : Str} (h : ¬ n.level = 0) (h2 : n.slot = 0) (h3 : fullN c n = true) : chooseN c n k = (1, 0) := by unfold chooseN; rw [if_neg h, if_pos ⟨h2, h3⟩]
theorem choose_v {c : Cfg} {n : Nd} {k : Str} (h : ¬ n.level = 0) (h2 : ¬ (n.slot = 0 ∧ fullN c n = true)) (h3 : (victimN n.pivots n.msgs).2 = true) : chooseN c n k = (2, (victimN n.pivots n.msgs).1) := by unfold chooseN; rw [if_neg h, if_neg h2, if_pos h3]
theorem choose_r {c : Cfg} {n : Nd} {k : Str} (h : ¬ n.level = 0) (h2 : ¬ (n.slot = 0 ∧ fullN c n = true)) (h3 : (victimN n.pivots n.msgs).2 = false) : chooseN c n k = (2, ((routeN n.pivots k : Nat) : Int)) := by unfold chooseN; rw [if_neg h, if_neg h2, if_neg (by simp [h3])]
theorem norm_empty9 (s : Span) : s.norm.empty = s.empty := by
 rw [Bool.eq_iff_iff, empty_iff, empty_iff]
 exact ⟨fun h k => by rw [← norm_has]; exact h k, fun h k => by rw [norm_has]; exact h k⟩
theorem without_eq {w : Msg} {s : Span} (hw : w.R) (hk : w.kind = 4) (hs : s.has w.key = true) (hn : s.norm = s) :
  ((withoutN w s).2 = true ↔ s.opn = false ∧ (w.opn = true ∨ s.hi.lt w.hi = true)) ∧ ((withoutN w s).2 = true → (withoutN w s).1 = { w with key := s.hi }) := by
 unfold withoutN
 cases ho : s.opn
 ·rw [if_neg (by simp)]
  have hlt : w.key.lt s.hi = true := by
   rcases (span_has.1 hs).2 with h | h
   ·rw [ho] at h; cases h
   ·exact h
  have hsp : w.span = ⟨w.key, w.hi, w.opn⟩ := by unfold Msg.span; rw [if_pos hk]
  have hm : w.span.meet ⟨s.hi, Str.nil, true⟩ = Span.norm ⟨s.hi, w.hi, w.opn⟩ := by
   rw [hsp]
   unfold Span.meet
   simp [hlt]
  have he : (w.span.meet ⟨s.hi, Str.nil, true⟩).empty = false ↔ (w.opn = true ∨ s.hi.lt w.hi = true) := by
   rw [hm]
   rw [norm_empty9]
   unfold Span.empty
   simp
   constructor
   ·intro h
    by_cases h1 : w.opn = true
    ·exact .inl h1
    ·exact .inr (h (by simpa using h1))
   ·rintro (h | h) h1
    ·rw [h] at h1; exact absurd h1 (by simp)
    ·exact h
  have hR := hw.2
  rw [if_pos hk] at hR
  constructor
  ·rw [← he]
   constructor
   ·intro h; exact ⟨rfl, (clip_of h).1⟩
   ·rintro ⟨_, h⟩
    cases h2 : (w.clip ⟨s.hi, Str.nil, true⟩).2
    ·rw [clip_no.1 h2] at h; cases h
    ·rfl
  ·intro h
   have h1 := (clip_of h).1
   rw [(clip_of h).2, if_pos hk, hm]
   rw [hm] at h1
   have h3 : (Span.mk s.hi w.hi w.opn).empty = false := by rw [norm_empty9] at h1; exact h1
   unfold Span.norm
   rw [if_neg (by simp [h3])]
   by_cases h5 : w.opn = true
   ·rw [if_pos h5]
    have : w.hi = Str.nil := by
     rcases hR.2.1 with h6 | h6
     ·rw [h5] at h6; cases h6
     ·exact h6
    simp [this]
   ·rw [if_neg h5]
 ·rw [if_pos rfl]
  simp
theorem range_norm (P : List Str) (i : Int) : (rangeN P i).norm = rangeN P i := by
 unfold rangeN
 split
 ·unfold Span.norm
  split
  ·rfl
  ·rfl
 ·exact norm_norm _
theorem moved_key {P : List Str} {i : Nat} {l T : List Msg} (hP : rising P = true) (hi : i ≤ P.length) (hm : MsgsR l) (h : Moved P i l T) {m : Msg} (hl : m ∈ l) (hs : m.stamp ∈ T.map Msg.stamp) (hk : m.kind = 4) : (rangeN P i).has m.key = true := by
 have hr := rst_of hm
 cases h with
 | none hT => rw [hT] at hs; cases hs
 | wipe w R hl2 hk2 hrt hc hT hA =>
  rw [hT] at hs
  simp [clip_stamp hc] at hs
  rw [hl2] at hl hr
  have e : m = w := rst_inj hr hl (by simp) hs
  rw [e, range_has hP _ hi, decide_eq_true hrt.symm]
 | points F R hl2 hF hT hA =>
  rw [hT] at hs
  obtain ⟨x, hx, e⟩ := List.mem_map.1 hs
  have hx1 := (List.mem_filter.1 hx).1
  have : x = m := rst_inj hr (by rw [hl2]; exact List.mem_append_left _ hx1) hl e
  rw [this] at hx1
  exact absurd hk (hF m hx1)
def lastS (A : List Msg) : Int := (A.getLast?.map Msg.stamp).getD 0
theorem lastS_get {A : List Msg} (h : 0 < A.length) : lastS A = (A[A.length - 1]'(by omega)).stamp := by
 unfold lastS
 rw [List.getLast?_eq_getElem?, List.getElem?_eq_getElem (by omega)]; rfl
theorem lastS_snoc (A : List Msg) (m : Msg) : lastS (A ++ [m]) = m.stamp := by unfold lastS; rw [List.getLast?_concat]; rfl
theorem lastS_nil {A : List Msg} (h : A.length = 0) : lastS A = 0 := by rw [List.eq_nil_of_length_eq_zero h]; rfl
theorem take_app {k l : List Msg} {i : Nat} (h : i < l.length) : k ++ l.take (i + 1) = (k ++ l.take i) ++ [l[i]] := by rw [List.take_succ_eq_append_getElem h, List.append_assoc]
theorem sizes_one (A : List Msg) (m : Msg) : sizesN (A ++ [m]) = sizesN A + m.size := by rw [sizes_app]; simp [sizesN]
theorem room_last {bud : Int} {A : List Msg} {m : Msg} (h : 0 < A.length) (h2 : m.stamp ≤ lastS A) : roomB bud A m = false := room_f2 h (by rw [← lastS_get h]; exact h2)
theorem room_yes {bud : Int} {A : List Msg} {m : Msg} (h : m.size ≤ bud - sizesN A) (h2 : 0 < A.length → lastS A < m.stamp) : roomB bud A m = true := room_iff.2 ⟨h, fun h3 => by rw [← lastS_get h3]; exact h2 h3⟩
theorem in_t {T : List Msg} {s : Int} {y : Nat} (h : decide (s ∈ (T.take y).map Msg.stamp) = true) : true = decide (s ∈ (T.take (y + 1)).map Msg.stamp) := by
 symm
 rw [decide_eq_true_eq] at h ⊢
 obtain ⟨x, hx, e⟩ := List.mem_map.1 h
 exact List.mem_map.2 ⟨x, (List.take_sublist_take_left (Nat.le_succ y)).subset hx, e⟩
theorem in_s {T : List Msg} {s : Int} {y : Nat} (hy : y < T.length) (h : decide (s ∈ (T.take y).map Msg.stamp) = false) : decide (T[y].stamp = s) = decide (s ∈ (T.take (y + 1)).map Msg.stamp) := by
 rw [decide_eq_false_iff_not] at h
 rw [decide_eq_decide, List.take_succ_eq_append_getElem hy, List.map_append, List.mem_append]
 constructor
 ·intro e; right; simp [e]
 ·rintro (e | e)
  ·exact absurd e h
  ·simp at e; exact e.symm
theorem pour_l {leaf bud : Int} {p k : Nd} {i : Int} (hk : KidOf p k i) (h0 : k.level = 0) (h : 0 < (movedN leaf bud k (forN p.pivots p.msgs i)).2) (hn : (movedN leaf bud k (forN p.pivots p.msgs i)).2 - 1 < (forN p.pivots p.msgs i).length) :
  pourN leaf bud p k i = ({ p with msgs := restN p.pivots i ((forN p.pivots p.msgs i).take (movedN leaf bud k (forN p.pivots p.msgs i)).2) p.msgs },
   { k with rows := foldN k.rows ((forN p.pivots p.msgs i).take (movedN leaf bud k (forN p.pivots p.msgs i)).2), seen := ((forN p.pivots p.msgs i)[(movedN leaf bud k (forN p.pivots p.msgs i)).2 - 1]'hn).stamp }, (movedN leaf bud k (forN p.pivots p.msgs i)).2) := by
 have e := moved_len leaf bud k (forN p.pivots p.msgs i)
 rw [pour_t hk rfl (by omega)]
 have e2 : (movedN leaf bud k (forN p.pivots p.msgs i)).1 = { k with rows := foldN k.rows ((forN p.pivots p.msgs i).take (movedN leaf bud k (forN p.pivots p.msgs i)).2) } := by
  rw [moved_0 h0]
  dsimp only
  rw [← drain_fold]
 have e3 : (((forN p.pivots p.msgs i).take (movedN leaf bud k (forN p.pivots p.msgs i)).2)[((forN p.pivots p.msgs i).take (movedN leaf bud k (forN p.pivots p.msgs i)).2).length - 1]'(by omega)) = (forN p.pivots p.msgs i)[(movedN leaf bud k (forN p.pivots p.msgs i)).2 - 1]'hn := by
  rw [List.getElem_take]
  simp only [e]
 rw [e3, e2, e]
theorem pour_i {leaf bud : Int} {p k : Nd} {i : Int} (hk : KidOf p k i) (h0 : ¬ k.level = 0) (h : 0 < (movedN leaf bud k (forN p.pivots p.msgs i)).2) (hn : (movedN leaf bud k (forN p.pivots p.msgs i)).2 - 1 < (forN p.pivots p.msgs i).length) :
  pourN leaf bud p k i = ({ p with msgs := restN p.pivots i ((forN p.pivots p.msgs i).take (movedN leaf bud k (forN p.pivots p.msgs i)).2) p.msgs },
   { k with msgs := k.msgs ++ (forN p.pivots p.msgs i).take (movedN leaf bud k (forN p.pivots p.msgs i)).2, seen := ((forN p.pivots p.msgs i)[(movedN leaf bud k (forN p.pivots p.msgs i)).2 - 1]'hn).stamp }, (movedN leaf bud k (forN p.pivots p.msgs i)).2) := by
 have e := moved_len leaf bud k (forN p.pivots p.msgs i)
 rw [pour_t hk rfl (by omega)]
 have e2 : (movedN leaf bud k (forN p.pivots p.msgs i)).1 = { k with msgs := k.msgs ++ (forN p.pivots p.msgs i).take (movedN leaf bud k (forN p.pivots p.msgs i)).2 } := by
  rw [moved_n (leaf := leaf) (bud := bud) (l := forN p.pivots p.msgs i) h0 rfl]
 have e3 : (((forN p.pivots p.msgs i).take (movedN leaf bud k (forN p.pivots p.msgs i)).2)[((forN p.pivots p.msgs i).take (movedN leaf bud k (forN p.pivots p.msgs i)).2).length - 1]'(by omega)) = (forN p.pivots p.msgs i)[(movedN leaf bud k (forN p.pivots p.msgs i)).2 - 1]'hn := by
  rw [List.getElem_take]
  simp only [e]
 rw [e3, e2, e]
theorem left_hi {P : List Str} {i : Nat} {l T : List Msg} {m : Msg} (hP : rising P = true) (hi : i ≤ P.length) (hm : MsgsR l) (h : Moved P i l T) (hl : m ∈ l) (hs : m.stamp ∈ T.map Msg.stamp) (hk : m.kind = 4) (ho : (rangeN P i).opn = false) (h2 : m.opn = true ∨ (rangeN P i).hi.lt m.hi = true) :
  leftN P i T m = some { m with key := (rangeN P i).hi } := by
 have hw := without_eq ((MsgsR.iff.1 hm).1 m hl) hk (moved_key hP hi hm h hl hs hk) (range_norm P i)
 have h3 := hw.1.2 ⟨ho, h2⟩
 rw [left_w hs hk h3, hw.2 h3]
theorem left_gone {P : List Str} {i : Nat} {l T : List Msg} {m : Msg} (hP : rising P = true) (hi : i ≤ P.length) (hm : MsgsR l) (h : Moved P i l T) (hl : m ∈ l) (hs : m.stamp ∈ T.map Msg.stamp) (h2 : ¬ (m.kind = 4 ∧ (rangeN P i).opn = false ∧ (m.opn = true ∨ (rangeN P i).hi.lt m.hi = true))) :
  leftN P i T m = none := left_n hs fun hh => h2 ⟨hh.1, (without_eq ((MsgsR.iff.1 hm).1 m hl) hh.1 (moved_key hP hi hm h hl hs hh.1) (range_norm P i)).1.1 hh.2⟩
theorem left_hiI {P : List Str} {i : Int} {l T : List Msg} {m : Msg} (h0 : 0 ≤ i) (hP : rising P = true) (hi : i.toNat ≤ P.length) (hm : MsgsR l) (h : Moved P i.toNat l T) (hl : m ∈ l) (hs : m.stamp ∈ T.map Msg.stamp) (hk : m.kind = 4) (ho : (rangeN P i).opn = false) (h2 : m.opn = true ∨ (rangeN P i).hi.lt m.hi = true) :
  leftN P i T m = some { m with key := (rangeN P i).hi } := by
 obtain ⟨n, rfl⟩ : ∃ n : Nat, i = n := ⟨i.toNat, by omega⟩
 exact left_hi hP hi hm h hl hs hk ho h2
theorem left_goneI {P : List Str} {i : Int} {l T : List Msg} {m : Msg} (h0 : 0 ≤ i) (hP : rising P = true) (hi : i.toNat ≤ P.length) (hm : MsgsR l) (h : Moved P i.toNat l T) (hl : m ∈ l) (hs : m.stamp ∈ T.map Msg.stamp) (h2 : ¬ (m.kind = 4 ∧ (rangeN P i).opn = false ∧ (m.opn = true ∨ (rangeN P i).hi.lt m.hi = true))) :
  leftN P i T m = none := by
 obtain ⟨n, rfl⟩ : ∃ n : Nat, i = n := ⟨i.toNat, by omega⟩
 exact left_gone hP hi hm h hl hs h2
section
variable {c : Cfg} {p k : Nd} {i : Int}
theorem dec_full (h : 0 < k.level) (h2 : fullN c k = true) : decideN c p k i = if fullN c p = true then 0 else 3 := if_pos ⟨h, h2⟩
theorem dec_pour (h : ¬ (0 < k.level ∧ fullN c k = true)) (hc : 0 < countN c.leaf c.bud p k i) : decideN c p k i = 4 := by unfold decideN; rw [if_neg h, if_pos hc]
theorem dec_down (h : ¬ (0 < k.level ∧ fullN c k = true)) (hc : ¬ 0 < countN c.leaf c.bud p k i) (h0 : 0 < k.level) : decideN c p k i = 5 := by unfold decideN; rw [if_neg h, if_neg hc, if_pos h0]
theorem dec_need (hc : ¬ 0 < countN c.leaf c.bud p k i) (h0 : ¬ 0 < k.level) (hw : 0 < (forN p.pivots p.msgs i).length) : decideN c p k i = if fullN c p = true then 0 else 3 := by unfold decideN; rw [if_neg (fun h => h0 h.1), if_neg hc, if_neg h0, if_pos hw]
theorem dec_end (hc : ¬ 0 < countN c.leaf c.bud p k i) (h0 : ¬ 0 < k.level) (hw : ¬ 0 < (forN p.pivots p.msgs i).length) : decideN c p k i = 0 := by unfold decideN; rw [if_neg (fun h => h0 h.1), if_neg hc, if_neg h0, if_neg hw]
end
def ChoosePre (n : Nd) : Prop := ¬ n.level = 0 → rising n.pivots = true ∧ (∀ m ∈ n.msgs, m.key.b.size ≤ 16 ∧ m.val.b.size ≤ 16) ∧ n.msgs.length ≤ 100000 ∧ n.pivots.length ≤ 100000
theorem choose_pre {c : Cfg} {n : Nd} (h : n.R c.fan c.leaf c.bud) (s : NdS n) : ChoosePre n := fun h0 => by
 have h4 := h.2.2.2
 rw [if_neg h0] at h4
 obtain ⟨_, s2, s3, _⟩ := s
 exact ⟨(rightN_spec h4.2.1).1, fun m hm => msgR_key (nd_msgsR h m hm), by omega, by omega⟩
end Go.Fw
namespace Go.Proofs.YtfmigmijckdldaaGreat
open Go Go.Fw Go.RowKit
attribute [local irreducible] Ok W WC
theorem rfront_fc {G : GH} {v_l : Value} {l : List Msg} (h_l : SlR eMsg G v_l l) :
    Fc Tryz.prog 110 [v_l] G [] (fun v G' M' => M' = [] ∧ ∃ u0, v = u0 ∧ SlR eMsg G' u0 (frontN l)) := by
 obtain ⟨sa_l, sc_l, rfl⟩ := h_l.form
 have hl := h_l.len47
 have hlb : l.length * 72 ≤ 140737488355328 := h_l.bytes
 refine Fc.go [.tmp 2] Tryz.func110 Tryz.ntmps110 rfl (fun w0 => (g9 17 ?_))
 refine WC.loop (X := (Nat) × Value × MH) (fun k => [(4, nt9 k.1), (0, lV sa_l l.length sc_l), (3, k.2.1)]) (fun k G Ml => Ml = (k.2.2 ++ []) ∧ OwnR eMsg 90 G k.2.1 (l.take k.1) k.2.2 ∧ k.1 ≤ l.length ∧ ∀ j (h : j < l.length), j < k.1 → isW l[j] = false) (fun k => l.length - k.1) (0, lV none 0 0, ([] : MH)) hs9 ?_ ?_
 ·exact ⟨rfl, (by exact OwnR.nil), om9, fun j _ h => by omega⟩
 rintro ⟨k, v_3, M_3⟩ gG1 G1 _ hG1 ⟨rfl, ho_3, hk, hj⟩
 try dsimp only at ho_3 hk hj
 refine WC.fr (f := setL gG1 [(4, nt9 k), (0, lV sa_l l.length sc_l), (3, v_3)]) rfl (g9 9 ?_)
 refine WC.cd (fun h8 p8 => ?_) (fun h8 p8 => ?_)
 ·refine g9 9 ?_
  refine (h_l.mono hG1).a2 (i := k) om9 (fun he2 hm3 => (g9 6 ?_))
  refine WC.cd (fun h16 p16 => ?_) (fun h16 p16 => ?_)
  ·have hix : idxN isW l = ((k : Nat) : Int) := idxN_at (q := isW) om9 h16 hj
   refine g9 7 ?_
   refine WC.cd (fun h18 p18 => ?_) (fun h18 p18 => ?_)
   ·refine g9 3 ?_
    have hs7 := SlR.slice (h_l.mono hG1) (lo := 0) (hi := 1) om9 om9
    refine W.ok (ok_slice (0) (1) sl51 ty90 (h_l.mono hG1) rfl rfl ⟨_, _, rfl, om9⟩ ⟨om9, om9⟩) (g9 12 ?_)
    refine ⟨rfl, _, rfl, ?_⟩
    exact SlR.cast hs7 (front_1 hix om9)
   refine g9 8 ?_
   refine WC.giveO ho_3 pr9 (fun G8 hG8 hv8 => (g9 8 ?_))
   refine ⟨rfl, _, rfl, ?_⟩
   exact SlR.cast hv8 (front_k hix om9)
  refine g9 6 ?_
  refine (h_l.mono hG1).a2 (i := k) om9 (fun he9 hm10 => (g9 2 ?_))
  refine W.lit (e := eMsg) (l := [(l[k]'om9)]) (css := [[iV _, iV _, sV _, sV _, .bool _, sV _]]) sl51 ty90 zr90 rfl rfl rfl rfl rfl rfl ⟨⟨rfl, hm10⟩, trivial⟩ (fun bl14 G14 hG14 hv14 => (W.app (e := eMsg) sl51 ty90 zr90 rfl by90 rfl rfl ((ho_3.mono hG14)) (hv14) pr9 (by show (List.length _ + 1) * 72 ≤ _; rw [List.length_take]; omega) (fun v15 Ms16 ho17 => (g9 10 ?_))))
  exact ⟨hG14, (k + 1, v15, Ms16), hs9, ⟨rfl, (by have h := ho17; rw [List.take_succ_eq_append_getElem om9]; exact h), om9, fun j h hji => by
      by_cases e2 : j = k
      · subst e2; exact h16
      · exact hj j h om9⟩, om9⟩
 refine g9 11 ?_
 refine WC.giveO ho_3 pr9 (fun G18 hG18 hv18 => (g9 2 ?_))
 refine ⟨rfl, _, rfl, ?_⟩
 exact SlR.cast hv18 (front_no (fun j h => hj j h om9) om9)

theorem rfor_fc {G : GH} {v_P : Value} {P : List Str} (h_P : SlR eStr G v_P P) {v_l : Value} {l : List Msg} (h_l : SlR eMsg G v_l l) (i : Int) (hks : ∀ m ∈ l, m.key.b.size < 140737488355328) (hi : i64 i) :
    Fc Tryz.prog 76 [v_P, v_l, iV i] G [] (fun v G' M' => M' = [] ∧ ∃ u0, v = u0 ∧ SlR eMsg G' u0 (forN P l i)) := by
 obtain ⟨sa_P, sc_P, rfl⟩ := h_P.form
 obtain ⟨sa_l, sc_l, rfl⟩ := h_l.form
 have hl := h_l.len47
 have hlb : l.length * 72 ≤ 140737488355328 := h_l.bytes
 have hfl := front_len l
 have hkf : ∀ m ∈ frontN l, m.key.b.size < 140737488355328 := fun m h => hks m (front_mem h)
 refine Fc.go [.tmp 6] Tryz.func76 Tryz.ntmps76 rfl (fun w0 => (g9 14 ?_))
 refine W.cS (rfront_fc h_l) rfl (fun sa_hv20 sc_hv20 G19 hG19 hv20 => (g9 5 ?_))
 refine WC.loop (X := (Nat) × Value × MH) (fun k => [(15, nt9 k.1), (0, lV sa_P P.length sc_P), (2, iV i), (13, lV sa_hv20 (frontN (l)).length sc_hv20), (14, nt9 ((frontN (l)).length)), (7, k.2.1)]) (fun k G Ml => Ml = (k.2.2 ++ []) ∧ OwnR eMsg 90 G k.2.1 (((frontN l).take k.1).filterMap (forF P i)) k.2.2 ∧ k.1 ≤ (frontN l).length) (fun k => (frontN l).length - k.1) (0, lV none 0 0, ([] : MH)) hs9 ?_ ?_
 ·exact ⟨rfl, (by exact OwnR.nil), om9⟩
 rintro ⟨k, v_7, M_7⟩ gG26 G26 _ hG26 ⟨rfl, ho_7, hk⟩
 try dsimp only at ho_7 hk
 have hfm := fm_lek (forF P i) (frontN l) k
 refine WC.fr (f := setL gG26 [(15, nt9 k), (0, lV sa_P P.length sc_P), (2, iV i), (13, lV sa_hv20 (frontN (l)).length sc_hv20), (14, nt9 ((frontN (l)).length)), (7, v_7)]) rfl (g9 6 ?_)
 refine WC.cd (fun h16 p16 => ?_) (fun h16 p16 => ?_)
 ·refine g9 6 ?_
  refine (hv20.mono hG26).a2 (i := k) om9 (fun he27 hm28 => (g9 2 ?_))
  refine W.alloc zr90 (fun b32 => (g9 4 ?_))
  refine WC.dw sr9.k9 (d9 [0, 1, 2] ?_)
  refine WD.any [3, 8] (by kernel_rfl) rfl ⟨WD.ap ?_, WD.ap ?_, trivial⟩
  ·refine W.qcall (rrange_fc (h_P.mono lec) _ hi) rfl (W.nn ?_)
   refine WD.any [4, 8] (by kernel_rfl) rfl ⟨WD.ap ?_, WD.ap ?_, trivial⟩
   ·refine W.qcall (rclip_fc _ _ _ _ _ _ _ _ _ (hkf _ (List.getElem_mem (by omega : k < (frontN l).length)))) rfl (W.nn (d9 [5, 6, 7] ?_))
    refine WD.a1 8 rfl (W.alloc zr90 (fun b33 => (W.nn (d9 [9, 10] ?_))))
    refine g9 6 ?_
    refine W.sp 28 rfl (fun h24_1 => ?_) (fun h24_1 => ?_)
    ·refine g9 7 ?_
     refine W.qcall (rroute_fc (h_P.mono lec) _) rfl (g9 7 ?_)
     refine WC.cd (fun h34 p34 => ?_) (fun h34 p34 => ?_)
     ·refine g9 3 ?_
      refine W.lit (e := eMsg) (l := [(Msg.clip (frontN l)[k] (rangeN P i)).1]) (css := [[iV _, iV _, sV _, sV _, .bool _, sV _]]) sl51 ty90 zr90 rfl rfl rfl rfl rfl rfl ⟨⟨rfl, clip_ok (by assumption)⟩, trivial⟩ (fun bl34 G34 hG34 hv34 => (W.app (e := eMsg) sl51 ty90 zr90 rfl by90 rfl rfl ((ho_7.mono hG34)) (hv34) (pmC (pmC pr9)) (by show (List.length _ + 1) * 72 ≤ _; omega) (fun v35 Ms36 ho37 => (W.perm (pmC (pmC pr9)).symm (g9 7 ?_)))))
      refine W.sub ((sr9.cons _).cons _) (g9 2 ?_)
      exact ⟨hG34, (k + 1, v35, Ms36), hs9, ⟨rfl, (by have h := ho37; rw [for_t om9 p34 h24_1]; exact h), om9⟩, om9⟩
     refine g9 6 ?_
     refine W.sub ((sr9.cons _).cons _) (g9 2 ?_)
     exact ⟨Le.rfl, (k + 1, v_7, M_7), hs9, ⟨rfl, (by have h := ho_7; rw [for_n om9 (fun hh => p34 hh.1)]; exact h), om9⟩, om9⟩
    refine g9 16 ?_
    refine W.sub ((sr9.cons _).cons _) (g9 2 ?_)
    exact ⟨Le.rfl, (k + 1, v_7, M_7), hs9, ⟨rfl, (by have h := ho_7; rw [for_n om9 (fun hh => absurd (h24_1.symm.trans hh.2) (by simp))]; exact h), om9⟩, om9⟩
   refine W.alloc zr90 (fun b38 => (W.nn (WD.a1 4 rfl (W.qcall (rclip_fc _ _ _ _ _ _ _ _ _ (hkf _ (List.getElem_mem (by omega : k < (frontN l).length)))) rfl (W.nn (d9 [5, 6, 7, 9, 10] ?_))))))
   refine g9 6 ?_
   refine W.sp 28 rfl (fun h24_1 => ?_) (fun h24_1 => ?_)
   ·refine g9 7 ?_
    refine W.qcall (rroute_fc (h_P.mono lec) _) rfl (g9 7 ?_)
    refine WC.cd (fun h34 p34 => ?_) (fun h34 p34 => ?_)
    ·refine g9 3 ?_
     refine W.lit (e := eMsg) (l := [(Msg.clip (frontN l)[k] (rangeN P i)).1]) (css := [[iV _, iV _, sV _, sV _, .bool _, sV _]]) sl51 ty90 zr90 rfl rfl rfl rfl rfl rfl ⟨⟨rfl, clip_ok (by assumption)⟩, trivial⟩ (fun bl39 G39 hG39 hv39 => (W.app (e := eMsg) sl51 ty90 zr90 rfl by90 rfl rfl ((ho_7.mono hG39)) (hv39) (pmC (pmC pr9)) (by show (List.length _ + 1) * 72 ≤ _; omega) (fun v40 Ms41 ho42 => (W.perm (pmC (pmC pr9)).symm (g9 7 ?_)))))
     refine W.sub ((sr9.cons _).cons _) (g9 2 ?_)
     exact ⟨hG39, (k + 1, v40, Ms41), hs9, ⟨rfl, (by have h := ho42; rw [for_t om9 p34 h24_1]; exact h), om9⟩, om9⟩
    refine g9 6 ?_
    refine W.sub ((sr9.cons _).cons _) (g9 2 ?_)
    exact ⟨Le.rfl, (k + 1, v_7, M_7), hs9, ⟨rfl, (by have h := ho_7; rw [for_n om9 (fun hh => p34 hh.1)]; exact h), om9⟩, om9⟩
   refine g9 16 ?_
   refine W.sub ((sr9.cons _).cons _) (g9 2 ?_)
   exact ⟨Le.rfl, (k + 1, v_7, M_7), hs9, ⟨rfl, (by have h := ho_7; rw [for_n om9 (fun hh => absurd (h24_1.symm.trans hh.2) (by simp))]; exact h), om9⟩, om9⟩
  refine W.alloc zr90 (fun b43 => (W.nn (WD.a1 3 rfl (W.qcall (rrange_fc (h_P.mono lec) _ hi) rfl (W.nn (WD.a1 4 rfl (W.qcall (rclip_fc _ _ _ _ _ _ _ _ _ (hkf _ (List.getElem_mem (by omega : k < (frontN l).length)))) rfl (W.nn (d9 [5, 6, 7, 9, 10] ?_)))))))))
  refine g9 6 ?_
  refine W.sp 28 rfl (fun h24_1 => ?_) (fun h24_1 => ?_)
  ·refine g9 7 ?_
   refine W.qcall (rroute_fc (h_P.mono lec) _) rfl (g9 7 ?_)
   refine WC.cd (fun h34 p34 => ?_) (fun h34 p34 => ?_)
   ·refine g9 3 ?_
    refine W.lit (e := eMsg) (l := [(Msg.clip (frontN l)[k] (rangeN P i)).1]) (css := [[iV _, iV _, sV _, sV _, .bool _, sV _]]) sl51 ty90 zr90 rfl rfl rfl rfl rfl rfl ⟨⟨rfl, clip_ok (by assumption)⟩, trivial⟩ (fun bl44 G44 hG44 hv44 => (W.app (e := eMsg) sl51 ty90 zr90 rfl by90 rfl rfl ((ho_7.mono hG44)) (hv44) (pmC (pmC pr9)) (by show (List.length _ + 1) * 72 ≤ _; omega) (fun v45 Ms46 ho47 => (W.perm (pmC (pmC pr9)).symm (g9 7 ?_)))))
    refine W.sub ((sr9.cons _).cons _) (g9 2 ?_)
    exact ⟨hG44, (k + 1, v45, Ms46), hs9, ⟨rfl, (by have h := ho47; rw [for_t om9 p34 h24_1]; exact h), om9⟩, om9⟩
   refine g9 6 ?_
   refine W.sub ((sr9.cons _).cons _) (g9 2 ?_)
   exact ⟨Le.rfl, (k + 1, v_7, M_7), hs9, ⟨rfl, (by have h := ho_7; rw [for_n om9 (fun hh => p34 hh.1)]; exact h), om9⟩, om9⟩
  refine g9 16 ?_
  refine W.sub ((sr9.cons _).cons _) (g9 2 ?_)
  exact ⟨Le.rfl, (k + 1, v_7, M_7), hs9, ⟨rfl, (by have h := ho_7; rw [for_n om9 (fun hh => absurd (h24_1.symm.trans hh.2) (by simp))]; exact h), om9⟩, om9⟩
 refine g9 11 ?_
 refine WC.giveO ho_7 pr9 (fun G48 hG48 hv48 => (g9 2 ?_))
 refine ⟨rfl, _, rfl, ?_⟩
 · have h := hv48; rw [List.take_of_length_le om9] at h; exact h

end Go.Proofs.YtfmigmijckdldaaGreat
namespace Go.Proofs.YtfmigmijckdldaaGreat
open Go Go.Fw Go.RowKit
attribute [local irreducible] Ok W WC
theorem fvictim_fc {G : GH} {v_P : Value} {P : List Str} (h_P : SlR eStr G v_P P) {v_l : Value} {l : List Msg} (h_l : SlR eMsg G v_l l) (hs : ∀ m ∈ l, m.key.b.size ≤ 16 ∧ m.val.b.size ≤ 16) (hl9 : l.length ≤ 100000 ∧ P.length ≤ 100000) (hr : rising P = true) :
    Fc Tryz.prog 58 [v_P, v_l] G [] (fun v _ _ => v = .tuple #[iV ((victimN P l).1), .bool ((victimN P l).2)]) := by
 obtain ⟨sa_P, sc_P, rfl⟩ := h_P.form
 obtain ⟨sa_l, sc_l, rfl⟩ := h_l.form
 have hl := h_l.len47
 have hlP := h_P.len47
 have hfl := front_len l
 have hfs : ∀ m ∈ frontN l, m.key.b.size ≤ 16 ∧ m.val.b.size ≤ 16 := fun m h => hs m (front_mem h)
 refine Fc.go [.tmp 4, .tmp 5] Tryz.func58 Tryz.ntmps58 rfl (fun w0 => (g9 14 ?_))
 refine WC.cd (fun h14 p14 => ?_) (fun h14 p14 => ?_)
 ·refine g9 9 ?_
  show Value.tuple #[Value.int _ _, Value.bool _] = _
  rw [victim_n om9]
 refine g9 6 ?_
 refine W.ok (Ok.int (n := ((P.length + 1 : Nat) : Int)) (ok_add rfl rfl om9) om9) (W.mkSl (e := eInt) (a0 := (0 : Int)) (n := P.length + 1) sl50 ty3 zr3 rfl by3 (⟨rfl, by decide, by decide⟩) rfl rfl (by first | (show _ * 8 ≤ 140737488355328; omega) | (show _ * 8 ≤ 16777216; omega) | (show _ * 1 ≤ 16777216; omega)) (by first | (show _ * 8 ≤ 140737488355328; omega) | (show _ * 8 ≤ 16777216; omega) | (show _ * 1 ≤ 16777216; omega)) (fun v1 Ms2 ho3 => ?_))
 have q7 := ho3.form
 refine match q7 with | ⟨sa4, sc5, e_6⟩ => ?_
 subst e_6
 refine g9 7 ?_
 refine W.cS (front_fc h_l) rfl (fun sa_hv9 sc_hv9 G8 hG8 hv9 => (g9 5 ?_))
 refine WC.loop (X := (Nat) × Value × MH) (fun q => [(22, nt9 q.1), (0, lV sa_P P.length sc_P), (20, lV sa_hv9 ((frontN l)).length sc_hv9), (21, nt9 (((frontN l)).length)), (6, q.2.1)]) (fun q G Ml => Ml = (q.2.2 ++ []) ∧ OwnR eInt 3 G q.2.1 (wts P ((frontN l).take q.1)) q.2.2 ∧ q.1 ≤ (frontN l).length) (fun q => (frontN l).length - q.1) (0, lV sa4 ((List.replicate (P.length + 1) (0 : Int))).length sc5, Ms2) hs9 ?_ ?_
 ·exact ⟨rfl, (by exact OwnR.cast (ho3.mono hG8) (wts_nil P)), om9⟩
 rintro ⟨q, v_6, M_6⟩ gG15 G15 _ hG15 ⟨rfl, ho_6, hq⟩
 try dsimp only at ho_6 hq
 have hwl := wts_len P ((frontN l).take q)
 refine WC.fr (f := setL gG15 [(22, nt9 q), (0, lV sa_P P.length sc_P), (20, lV sa_hv9 ((frontN l)).length sc_hv9), (21, nt9 (((frontN l)).length)), (6, v_6)]) rfl (g9 6 ?_)
 refine WC.cd (fun h23 p23 => ?_) (fun h23 p23 => ?_)
 ·have hrl : (routeN P ((frontN l)[q]'om9).key) < (wts P ((frontN l).take q)).length := by rw [wts_len]; have : (routeN P ((frontN l)[q]'om9).key) ≤ P.length := List.length_filter_le _ _; omega
  have hg9 := wts_get hrl
  have hb9 := wOf_le P ((frontN l).take q) (routeN P ((frontN l)[q]'om9).key) (fun m h => hfs m (List.mem_of_mem_take h))
  have hb8 := wOf_pos P ((frontN l).take q) (routeN P ((frontN l)[q]'om9).key)
  have ht9 : ((frontN l).take q).length ≤ 100000 := by rw [List.length_take]; omega
  have hz9 := size_36 (hfs _ (List.getElem_mem (by omega : q < (frontN l).length)))
  have hwi : i64 ((wts P ((frontN l).take q))[(routeN P ((frontN l)[q]'om9).key)]'hrl + ((frontN l)[q]'om9).size) := ⟨om9, om9⟩
  have he9 : Msg.size ⟨((frontN l)[q]'om9).stamp, ((frontN l)[q]'om9).kind, ((frontN l)[q]'om9).key, ((frontN l)[q]'om9).hi, ((frontN l)[q]'om9).opn, ((frontN l)[q]'om9).val⟩ = ((frontN l)[q]'om9).size := rfl
  refine g9 6 ?_
  refine (hv9.mono hG15).a2 (i := q) om9 (fun he16 hm17 => (g9 2 ?_))
  refine W.alloc zr90 (fun b21 => (g9 3 ?_))
  refine WC.dw sn9.k9 (d9 [0, 1, 2, 3, 7] ?_)
  refine WD.a1 4 rfl (W.qcall (broute_fc (h_P.mono lec) _ hr) rfl (W.nn (ho_6.a2 (i := (routeN P ((frontN l)[q]'om9).key)) om9 (fun he22 hi23 => (WD.tk 5 rfl (ok_indexAddrO (i := (routeN P ((frontN l)[q]'om9).key)) sl50 ty3 ho_6 rfl rfl ⟨rfl, om9⟩) ?_)))))
  refine WD.any [6, 8] (by kernel_rfl) rfl ⟨WD.ap ?_, WD.ap ?_, trivial⟩
  ·refine W.ok (ok_loadO (vs := ic9) ty3 he22 (pmC pr9) rfl rfl rfl (by simp)) (W.nn (WD.a1 8 rfl (W.qcall (mmsize_fc _ _ _ _ _ _) rfl (W.nn (d9 [9] ?_)))))
   refine ho_6.a2 (i := (routeN P ((frontN l)[q]'om9).key)) om9 (fun he26 hi27 => (WD.tk 10 rfl (ok_indexAddrO (i := (routeN P ((frontN l)[q]'om9).key)) sl50 ty3 ho_6 rfl rfl ⟨rfl, om9⟩) (WD.a1 11 rfl (W.storeO (i := (routeN P ((frontN l)[q]'om9).key)) (o := 0) (vs := ic9) (a' := ((wts P ((frontN l).take q))[(routeN P ((frontN l)[q]'om9).key)]'hrl + ((frontN l)[q]'om9).size)) ty3 rfl rfl rfl rfl rfl (ho_6) (pmC pr9) om9 (by decide) (fun cs h => by rw [h.1]; exact ⟨rfl, hwi⟩) (fun Ms30 ho31 => (W.perm (pmC pr9).symm (W.nn (WD.done (by kernel_rfl) (blk_n (thn_n (g9 3 ?_)))))))))))
   refine W.sub (sr9.cons _) (g9 2 ?_)
   exact ⟨Le.rfl, (q + 1, v_6, Ms30), hs9, ⟨rfl, (by have h := ho31; rw [wts_set om9 hrl] at h; exact h), om9⟩, om9⟩
  refine W.qcall (mmsize_fc _ _ _ _ _ _) rfl (W.nn (WD.a1 6 rfl (W.ok (ok_loadO (vs := ic9) ty3 he22 (pmC pr9) rfl rfl rfl (by simp)) (W.nn (d9 [9] ?_)))))
  refine ho_6.a2 (i := (routeN P ((frontN l)[q]'om9).key)) om9 (fun he32 hi33 => (WD.tk 10 rfl (ok_indexAddrO (i := (routeN P ((frontN l)[q]'om9).key)) sl50 ty3 ho_6 rfl rfl ⟨rfl, om9⟩) (WD.a1 11 rfl (W.storeO (i := (routeN P ((frontN l)[q]'om9).key)) (o := 0) (vs := ic9) (a' := ((wts P ((frontN l).take q))[(routeN P ((frontN l)[q]'om9).key)]'hrl + ((frontN l)[q]'om9).size)) ty3 rfl rfl rfl rfl rfl (ho_6) (pmC pr9) om9 (by decide) (fun cs h => by rw [h.1]; exact ⟨rfl, hwi⟩) (fun Ms36 ho37 => (W.perm (pmC pr9).symm (W.nn (WD.done (by kernel_rfl) (blk_n (thn_n (g9 3 ?_)))))))))))
  refine W.sub (sr9.cons _) (g9 2 ?_)
  exact ⟨Le.rfl, (q + 1, v_6, Ms36), hs9, ⟨rfl, (by have h := ho37; rw [wts_set om9 hrl] at h; exact h), om9⟩, om9⟩
 refine g9 6 ?_
 have hw38 := ho_6
 rw [List.take_of_length_le (by omega : (frontN l).length ≤ q)] at hw38
 refine g9 13 ?_
 refine WC.loop (X := Nat) (fun k => [(9, nt9 ((bestTo (wOf P (frontN l)) k))), (40, nt9 k), (6, v_6), (38, v_6), (39, nt9 (((wts P (frontN l))).length))]) (fun k _ Ml => Ml = (M_6 ++ []) ∧ k ≤ P.length + 1) (fun k => P.length + 1 - k) 0 hs9 ?_ ?_
 ·exact ⟨rfl, om9⟩
 rintro k gG39 G39 _ hG39 ⟨rfl, hk⟩
 have hbl := bestTo_lt (wOf P (frontN l)) k
 have hwl9 := wts_len P (frontN l)
 refine g9 6 ?_
 refine WC.cd (fun h41 p41 => ?_) (fun h41 p41 => ?_)
 ·refine g9 7 ?_
  refine (hw38.mono hG39).a2 (i := k) om9 (fun he40 hi41 => (W.ok (ok_indexAddrO (i := k) sl50 ty3 (hw38.mono hG39) rfl rfl ⟨om9, om9⟩) (W.ok (ok_loadO (vs := ic9) ty3 he40 pr9 rfl rfl rfl (by simp)) (g9 9 ?_))))
  refine (hw38.mono hG39).a2 (i := (bestTo (wOf P (frontN l)) k)) om9 (fun he44 hi45 => (W.ok (ok_indexAddrO (i := (bestTo (wOf P (frontN l)) k)) sl50 ty3 (hw38.mono hG39) rfl rfl ⟨rfl, om9⟩) (W.ok (ok_loadO (vs := ic9) ty3 he44 pr9 rfl rfl rfl (by simp)) (g9 3 ?_))))
  refine WC.cd (fun h50 p50 => ?_) (fun h50 p50 => ?_)
  ·refine g9 11 ?_
   exact ⟨Le.rfl, k + 1, ⟨(iv (by rw [bestTo_t (by rw [wts_get, wts_get] at p50; omega)])), eqv, eqv, eqv, eqv, trivial⟩, ⟨rfl, om9⟩, om9⟩
  refine g9 8 ?_
  exact ⟨Le.rfl, k + 1, ⟨(iv (by rw [bestTo_f (by rw [wts_get, wts_get] at p50; omega)])), eqv, eqv, eqv, eqv, trivial⟩, ⟨rfl, om9⟩, om9⟩
 refine g9 14 ?_
 show Value.tuple #[Value.int _ _, Value.bool _] = _
 rw [victim_p om9, show k = P.length + 1 by omega]

end Go.Proofs.YtfmigmijckdldaaGreat
