/- What lifting a root, and parting a kid, do to a store's nodes. Plain Lean; nothing of the program is named here. No condition. -/
import Derived.Test.YtcngningbcaggaaQkNz
import Derived.Test.YtcngningbcaggaaQkMl
set_option linter.unusedVariables false
set_option linter.unusedSimpArgs false
set_option linter.unnecessarySimpa false

namespace Go.Fw
open Go Go.RowKit
theorem cleave_ok (n : Nd) (i : Int) : (cleaveN n i).2.2.2 = (halvesN n).2.2.2 := by
 cases h : (halvesN n).2.2.2
 ·rw [cleaveN_f h]
 ·rw [cleaveN_t h]
theorem lift_ok2 (n : Nd) (x y x' y' : Int) : (liftN n x y).2.2.2 = (liftN n x' y').2.2.2 := by rw [lift_ok, lift_ok, cleave_ok, cleave_ok]
def tk (l : List Nd) (x : Nd) : List Nd := l ++ [{ x with slot := l.length }]
def liftS (c : Cfg) (l : List Nd) : Int × List Nd :=
 if (liftN (getL l 0) l.length ((l.length : Int) + 1)).2.2.2 = false then (6, l)
 else if c.slots.toNat - l.length < 2 then (4, l)
 else (0, liftL l (liftN (getL l 0) l.length ((l.length : Int) + 1)).1 (liftN (getL l 0) l.length ((l.length : Int) + 1)).2.1 (liftN (getL l 0) l.length ((l.length : Int) + 1)).2.2.1)
theorem liftS_6 {c : Cfg} {l : List Nd} {x y : Int} (h : (liftN (getL l 0) x y).2.2.2 = false) : liftS c l = (6, l) := if_pos (by rw [lift_ok2 _ _ _ x y]; exact h)
theorem liftS_4 {c : Cfg} {l : List Nd} {x y : Int} (h : (liftN (getL l 0) x y).2.2.2 = true) (hr : c.slots.toNat - l.length < 2) : liftS c l = (4, l) := by
 unfold liftS; rw [if_neg (by rw [lift_ok2 _ _ _ x y, h]; simp), if_pos hr]
theorem liftS_0 {c : Cfg} {l : List Nd} {x y : Int} (h : (liftN (getL l 0) x y).2.2.2 = true) (hr : ¬ c.slots.toNat - l.length < 2) :
  liftS c l = (0, liftL l (liftN (getL l 0) l.length ((l.length : Int) + 1)).1 (liftN (getL l 0) l.length ((l.length : Int) + 1)).2.1 (liftN (getL l 0) l.length ((l.length : Int) + 1)).2.2.1) := by
 unfold liftS; rw [if_neg (by rw [lift_ok2 _ _ _ x y, h]; simp), if_neg hr]
theorem Tree.sound {c : Cfg} {l : List Nd} {ss : List Seat} (t : Tree c l ss) : soundN c l = true := by rw [soundN_t t.sts]; exact decide_eq_true t.q
theorem lift_all {c : Cfg} {l : List Nd} {ss : List Seat} (t : Tree c l ss) : ∃ T, Tree c (liftS c l).2 T ∧ mapN (liftS c l).2 = mapN l := by
 have hr : (rootS l 0).n = getL l 0 := t.rootn
 by_cases h1 : (liftN (getL l 0) l.length ((l.length : Int) + 1)).2.2.2 = true
 ·by_cases h2 : c.slots.toNat - l.length < 2
  ·rw [liftS_4 h1 h2]; exact ⟨ss, t, rfl⟩
  ·rw [liftS_0 h1 h2]
   have hsl := t.cfg.2.2.2.1.2
   have := lift_of t om9 om9 (by rw [hr]; exact h1)
   rw [hr] at this
   exact this
 ·rw [liftS_6 (by simpa using h1)]; exact ⟨ss, t, rfl⟩
def kdN (l : List Nd) (p : Int) (i : Nat) : Int := (getL l p).kids.getD i 0
def cutP (l : List Nd) (p : Int) (i : Nat) : Nd × Nd × Str × Bool := cleaveN (getL l (kdN l p i)) l.length
def adP (l : List Nd) (p : Int) (i : Nat) : Nd × Bool := adoptN (getL l p) i (cutP l p i).2.2.1 l.length
def lstP (l : List Nd) (p : Int) (i : Nat) : List Nd := ((l.set (cutP l p i).1.slot.toNat (cutP l p i).1).set p.toNat (adP l p i).1) ++ [(cutP l p i).2.1]
def partS (c : Cfg) (l : List Nd) (p : Int) (i : Nat) : Int × List Nd :=
 if ¬ (0 ≤ p ∧ p < l.length) ∨ (getL l p).kids.length ≤ i ∨ ¬ (0 ≤ kdN l p i ∧ kdN l p i < l.length) then (8, l)
 else if fullN c (getL l p) = true then (9, l)
 else if (cutP l p i).2.2.2 = false ∨ (adP l p i).2 = false then (6, l)
 else if ¬ (l.length : Int) < c.slots then (4, l)
 else (0, lstP l p i)
def partI (c : Cfg) (l : List Nd) (p i : Int) : Int × List Nd := if i < 0 then (8, l) else partS c l p i.toNat
theorem partS_8 {c : Cfg} {l : List Nd} {p : Int} {i : Nat} (h : ¬ (0 ≤ p ∧ p < l.length) ∨ (getL l p).kids.length ≤ i ∨ ¬ (0 ≤ kdN l p i ∧ kdN l p i < l.length)) : partS c l p i = (8, l) := if_pos h
theorem partS_9 {c : Cfg} {l : List Nd} {p : Int} {i : Nat} (h1 : 0 ≤ p ∧ p < l.length) (h2 : ¬ (getL l p).kids.length ≤ i) (h3 : 0 ≤ kdN l p i ∧ kdN l p i < l.length) (h : fullN c (getL l p) = true) : partS c l p i = (9, l) := by
 unfold partS; rw [if_neg (by rintro (h | h | h); exact h h1; exact h2 h; exact h h3), if_pos h]
theorem partS_6 {c : Cfg} {l : List Nd} {p : Int} {i : Nat} (h1 : 0 ≤ p ∧ p < l.length) (h2 : ¬ (getL l p).kids.length ≤ i) (h3 : 0 ≤ kdN l p i ∧ kdN l p i < l.length) (h4 : fullN c (getL l p) = false) (h : (cutP l p i).2.2.2 = false ∨ (adP l p i).2 = false) : partS c l p i = (6, l) := by
 unfold partS; rw [if_neg (by rintro (h | h | h); exact h h1; exact h2 h; exact h h3), if_neg (by rw [h4]; simp), if_pos h]
theorem partS_4 {c : Cfg} {l : List Nd} {p : Int} {i : Nat} (h1 : 0 ≤ p ∧ p < l.length) (h2 : ¬ (getL l p).kids.length ≤ i) (h3 : 0 ≤ kdN l p i ∧ kdN l p i < l.length) (h4 : fullN c (getL l p) = false) (h5 : (cutP l p i).2.2.2 = true) (h6 : (adP l p i).2 = true) (h : ¬ (l.length : Int) < c.slots) : partS c l p i = (4, l) := by
 unfold partS; rw [if_neg (by rintro (h | h | h); exact h h1; exact h2 h; exact h h3), if_neg (by rw [h4]; simp), if_neg (by rw [h5, h6]; simp), if_pos h]
theorem partS_0 {c : Cfg} {l : List Nd} {p : Int} {i : Nat} (h1 : 0 ≤ p ∧ p < l.length) (h2 : ¬ (getL l p).kids.length ≤ i) (h3 : 0 ≤ kdN l p i ∧ kdN l p i < l.length) (h4 : fullN c (getL l p) = false) (h5 : (cutP l p i).2.2.2 = true) (h6 : (adP l p i).2 = true) (h : (l.length : Int) < c.slots) : partS c l p i = (0, lstP l p i) := by
 unfold partS; rw [if_neg (by rintro (h | h | h); exact h h1; exact h2 h; exact h h3), if_neg (by rw [h4]; simp), if_neg (by rw [h5, h6]; simp), if_neg (by simpa using h)]
theorem cut_slots {l : List Nd} {p : Int} {i : Nat} (h : (cutP l p i).2.2.2 = true) : (cutP l p i).1.slot = (getL l (kdN l p i)).slot ∧ (cutP l p i).2.1.slot = l.length := by
 have hh : (halvesN (getL l (kdN l p i))).2.2.2 = true := by rw [← cleave_ok _ (l.length : Int)]; exact h
 unfold cutP
 rw [cleaveN_t hh]
 refine ⟨?_, rfl⟩
 show (halvesN (getL l (kdN l p i))).1.slot = _
 by_cases h0 : (getL l (kdN l p i)).level = 0
 ·rw [halvesN_0 h0]
 ·cases h2 : rightN (getL l (kdN l p i)).pivots (getL l (kdN l p i)).kids.length
  ·rw [halvesN_n h0 h2]
  ·rw [halvesN_k h0 h2]
theorem part_all {c : Cfg} {l : List Nd} {ss : List Seat} (t : Tree c l ss) (p i : Int) : ∃ T, Tree c (partI c l p i).2 T ∧ mapN (partI c l p i).2 = mapN l := by
 unfold partI
 split
 ·exact ⟨ss, t, rfl⟩
 ·generalize i.toNat = j
  by_cases h1 : 0 ≤ p ∧ p < l.length
  ·by_cases h2 : (getL l p).kids.length ≤ j
   ·rw [partS_8 (.inr (.inl h2))]; exact ⟨ss, t, rfl⟩
   ·by_cases h3 : 0 ≤ kdN l p j ∧ kdN l p j < l.length
    ·cases h4 : fullN c (getL l p)
     ·by_cases h5 : (cutP l p j).2.2.2 = true
      ·by_cases h6 : (adP l p j).2 = true
       ·by_cases h7 : (l.length : Int) < c.slots
        ·rw [partS_0 h1 h2 h3 h4 h5 h6 h7]
         obtain ⟨g1, g2⟩ := getL_slot t.slot h1
         obtain ⟨P, hP, eP⟩ := List.mem_map.1 ((t.perm.mem_iff).2 g2)
         have hj : j < P.n.kids.length := by rw [eP]; omega
         have h0 : ¬ P.n.level = 0 := fun h0 => by have := (t.leaf hP h0).1; omega
         have hat := t.at hP h0 hj
         have ek : (kidSt l P j).n = getL l (kdN l p j) := by
          rw [hat.2.2.1]
          unfold kdN
          rw [← eP, List.getD_eq_getElem?_getD, List.getElem?_eq_getElem hj]; rfl
         have hfull : (P.n.kids.length : Int) < c.fan := by
          unfold fullN at h4
          rw [if_neg (by rw [← eP]; exact h0), decide_eq_false_iff_not] at h4
          rw [eP]; omega
         unfold adP cutP at h6
         unfold cutP at h5
         rw [← ek] at h5 h6
         rw [← eP] at h6
         have hsl := t.cfg.2.2.2.1.2
         have key := part_of t hP h0 hj hfull h7 om9 h5 h6
         obtain ⟨e9, h, q⟩ := key
         have el : lstP l p j = partL l P.n j (cleaveN (kidSt l P j).n l.length).1 (cleaveN (kidSt l P j).n l.length).2.1 (cleaveN (kidSt l P j).n l.length).2.2.1 := by
          unfold lstP adP cutP partL
          rw [← ek, ← eP, e9]
          have : P.n.slot = p := by rw [eP]; exact g1
          rw [this]
         rw [el]
         exact ⟨_, q.tree, q.map⟩
        ·rw [partS_4 h1 h2 h3 h4 h5 h6 h7]; exact ⟨ss, t, rfl⟩
       ·rw [partS_6 h1 h2 h3 h4 (.inr (by simpa using h6))]; exact ⟨ss, t, rfl⟩
      ·rw [partS_6 h1 h2 h3 h4 (.inl (by simpa using h5))]; exact ⟨ss, t, rfl⟩
     ·rw [partS_9 h1 h2 h3 h4]; exact ⟨ss, t, rfl⟩
    ·rw [partS_8 (.inr (.inr h3))]; exact ⟨ss, t, rfl⟩
  ·rw [partS_8 (.inl h1)]; exact ⟨ss, t, rfl⟩
theorem OwnR.cast {α : Type} {e : Enc α} {T : TypeId} {G : GH} {v : Value} {l l' : List α} {Ms : MH} (h : OwnR e T G v l Ms) (h2 : l = l') : OwnR e T G v l' Ms := h2 ▸ h
def wOf (P : List Str) (F : List Msg) (i : Nat) : Int := sizesN (F.filter fun m => decide (routeN P m.key = i))
def bestTo (w : Nat → Int) : Nat → Nat
 | 0 => 0
 | k + 1 => if w (bestTo w k) < w k then k else bestTo w k
theorem bestTo_lt (w : Nat → Int) : ∀ k, bestTo w k < k ∨ (k = 0 ∧ bestTo w k = 0)
 | 0 => .inr ⟨rfl, rfl⟩
 | k + 1 => by
  left
  unfold bestTo
  split
  ·omega
  ·rcases bestTo_lt w k with h | h <;> omega
theorem bestTo_max (w : Nat → Int) : ∀ k j, j < k → w j ≤ w (bestTo w k)
 | 0, j, h => absurd h (Nat.not_lt_zero j)
 | k + 1, j, h => by
  unfold bestTo
  split
  ·rename_i h2
   by_cases e : j = k
   ·rw [e]; exact Int.le_refl _
   ·have := bestTo_max w k j om9; omega
  ·rename_i h2
   by_cases e : j = k
   ·rw [e]; omega
   ·exact bestTo_max w k j om9
def victimN (P : List Str) (l : List Msg) : Int × Bool := if l.length = 0 then (0, false) else (((bestTo (wOf P (frontN l)) (P.length + 1) : Nat) : Int), true)
theorem wOf_pos (P : List Str) (F : List Msg) (i : Nat) : 0 ≤ wOf P F i := by
  unfold wOf
  generalize F.filter _ = L
  induction L with
  | nil => exact Int.le_refl 0
  | cons m L ih => have := size_pos m; have e : sizesN (m :: L) = m.size + sizesN L := by simp [sizesN]
                   rw [e]; omega
theorem wOf_t {P : List Str} {F : List Msg} {q i : Nat} (hq : q < F.length) (h : routeN P F[q].key = i) : wOf P (F.take (q + 1)) i = wOf P (F.take q) i + F[q].size := by
 unfold wOf
 rw [filt_t (p := fun m : Msg => decide (routeN P m.key = i)) hq (by simp [h]), sizes_app]
 simp [sizesN]
theorem front_pos {l : List Msg} (h : 0 < l.length) : 0 < (frontN l).length := by
 unfold frontN
 have h1 := idxN_le isW l
 split
 ·exact h
 ·split
  ·rw [List.length_take]; omega
  ·rw [List.length_take]; omega
theorem best_pos {P : List Str} {l : List Msg} (h : 0 < l.length) : 0 < wOf P (frontN l) (bestTo (wOf P (frontN l)) (P.length + 1)) := by
 have h0 := front_pos h
 have hr : routeN P ((frontN l)[0]).key ≤ P.length := List.length_filter_le _ _
 have hm := bestTo_max (wOf P (frontN l)) (P.length + 1) (routeN P ((frontN l)[0]).key) om9
 have : 0 < wOf P (frontN l) (routeN P ((frontN l)[0]).key) := by
  have e : (frontN l).take 1 ++ (frontN l).drop 1 = frontN l := List.take_append_drop _ _
  have h1 := wOf_t (P := P) (F := frontN l) (q := 0) h0 rfl
  have h2 : 0 < ((frontN l)[0]).size := by unfold Msg.size; split <;> omega
  have h3 : wOf P (frontN l) (routeN P ((frontN l)[0]).key) = wOf P ((frontN l).take 1) (routeN P ((frontN l)[0]).key) + wOf P ((frontN l).drop 1) (routeN P ((frontN l)[0]).key) := by
   generalize routeN P ((frontN l)[0]).key = z
   conv => lhs; rw [← e]
   unfold wOf
   rw [List.filter_append, sizes_app]
  have h4 := wOf_pos P ((frontN l).take 0) (routeN P ((frontN l)[0]).key)
  have h5 := wOf_pos P ((frontN l).drop 1) (routeN P ((frontN l)[0]).key)
  rw [h3]
  rw [show (0 + 1 : Nat) = 1 from rfl] at h1
  omega
 omega
theorem victim_p {P : List Str} {l : List Msg} (h : 0 < l.length) : victimN P l = (((bestTo (wOf P (frontN l)) (P.length + 1) : Nat) : Int), true) := by unfold victimN; rw [if_neg om9]
theorem victim_lt {P : List Str} {l : List Msg} : 0 ≤ (victimN P l).1 ∧ (victimN P l).1 ≤ P.length := by
 unfold victimN
 split
 ·exact ⟨Int.le_refl 0, om9⟩
 ·rcases bestTo_lt (wOf P (frontN l)) (P.length + 1) with h | h
  ·dsimp only; omega
  ·omega
def wts (P : List Str) (F : List Msg) : List Int := (List.range (P.length + 1)).map (wOf P F)
def chooseN (c : Cfg) (n : Nd) (k : Str) : Int × Int :=
 if n.level = 0 then (0, 0) else if n.slot = 0 ∧ fullN c n = true then (1, 0) else (2, if (victimN n.pivots n.msgs).2 = true then (victimN n.pivots n.msgs).1 else ((routeN n.pivots k : Nat) : Int))
noncomputable def decideN (c : Cfg) (p k : Nd) (i : Int) : Int :=
 if 0 < k.level ∧ fullN c k = true then (if fullN c p = true then 0 else 3) else if 0 < countN c.leaf c.bud p k i then 4 else if 0 < k.level then 5 else if 0 < (forN p.pivots p.msgs i).length then (if fullN c p = true then 0 else 3) else 0
theorem pour_n (leaf bud : Int) (p k : Nd) (i : Int) : (pourN leaf bud p k i).2.2 = countN leaf bud p k i := by
 unfold pourN
 split
 ·rename_i h; rw [h]
 ·rfl
theorem choose_1 {c : Cfg} {n : Nd} {k : Str} (h : ¬ n.level = 0) (h2 : n.slot = 0) (h3 : fullN c n = true) : chooseN c n k = (1, 0) := by unfold chooseN; rw [if_neg h, if_pos ⟨h2, h3⟩]
theorem choose_v {c : Cfg} {n : Nd} {k : Str} (h : ¬ n.level = 0) (h2 : ¬ (n.slot = 0 ∧ fullN c n = true)) (h3 : (victimN n.pivots n.msgs).2 = true) : chooseN c n k = (2, (victimN n.pivots n.msgs).1) := by unfold chooseN; rw [if_neg h, if_neg h2, if_pos h3]
def lastS (A : List Msg) : Int := (A.getLast?.map Msg.stamp).getD 0
section
variable {c : Cfg} {p k : Nd} {i : Int}
end
def ChoosePre (n : Nd) : Prop := ¬ n.level = 0 → rising n.pivots = true ∧ (∀ m ∈ n.msgs, m.key.b.size ≤ 16 ∧ m.val.b.size ≤ 16) ∧ n.msgs.length ≤ 100000 ∧ n.pivots.length ≤ 100000
structure Act25 where
 kind : Int
 n : Nd
instance : Inhabited Act25 := ⟨⟨0, Nd.zero⟩⟩
def ActC25 (G : GH) (cs : List Value) (x : Act25) : Prop :=
 ∃ a1 c1 a2 c2 a3 c3 a4 c4, cs = [.int .i64 x.kind, .int .i64 x.n.slot, .int .i64 x.n.level, .slice a1 x.n.pivots.length c1, .slice a2 x.n.kids.length c2, .string x.n.high.b, .bool x.n.top, .int .i64 x.n.right, .int .i64 x.n.seen, .slice a3 x.n.msgs.length c3, .slice a4 x.n.rows.length c4] ∧
  SlR eStr G (.slice a1 x.n.pivots.length c1) x.n.pivots ∧ SlR eInt G (.slice a2 x.n.kids.length c2) x.n.kids ∧ SlR eMsg G (.slice a3 x.n.msgs.length c3) x.n.msgs ∧ SlR ePair G (.slice a4 x.n.rows.length c4) x.n.rows ∧ x.n.Ok ∧ i64 x.kind
theorem ActC25.mono {G G' : GH} {cs x} (hl : Le G G') (h : ActC25 G cs x) : ActC25 G' cs x := by
 obtain ⟨a1, c1, a2, c2, a3, c3, a4, c4, h0, h1, h2, h3, h4, h6⟩ := h
 exact ⟨a1, c1, a2, c2, a3, c3, a4, c4, h0, h1.mono hl, h2.mono hl, h3.mono hl, h4.mono hl, h6⟩
def eAct25 : Enc Act25 where
 k := 11
 w := 160
 R := ActC25
 mono := fun hl h => h.mono hl
 len := fun h => by obtain ⟨a1, c1, a2, c2, a3, c3, a4, c4, h0, _⟩ := h; rw [h0]; rfl
 one := fun h u hu => by
  obtain ⟨a1, c1, a2, c2, a3, c3, a4, c4, h0, _⟩ := h
  rw [h0] at hu
  simp at hu
  rcases hu with rfl | rfl | rfl | rfl | rfl | rfl | rfl | rfl | rfl | rfl | rfl <;> rfl
def NbR (TN ti tp : TypeId) (b : Nat) (G : GH) (st : Nat × Nat) (M : MH) : Prop :=
 ∃ (c0 c1 c2 vk c4 c5 c6 c7 c8 vr : Value) (ks : List Int) (rs : List Pair) (Mk Mr : MH), M = (b, .cells (List.toArray [c0, c1, c2, vk, c4, c5, c6, c7, c8, vr]) TN (0, 0)) :: (Mk ++ Mr) ∧
  OwnR eInt ti G vk ks Mk ∧ OwnR ePair tp G vr rs Mr ∧ ks.length = st.1 ∧ rs.length = st.2
theorem NbR.mono {TN ti tp : TypeId} {b : Nat} {G G' : GH} {st : Nat × Nat} {M : MH} (hl : Le G G') (h : NbR TN ti tp b G st M) : NbR TN ti tp b G' st M := by
 obtain ⟨c0, c1, c2, vk, c4, c5, c6, c7, c8, vr, ks, rs, Mk, Mr, h1, h2, h3, h4⟩ := h
 exact ⟨c0, c1, c2, vk, c4, c5, c6, c7, c8, vr, ks, rs, Mk, Mr, h1, h2.mono hl, h3.mono hl, h4⟩
def NodeO (ti tp : TypeId) (G : GH) (cs : List Value) (n : Nd) (M : MH) : Prop :=
 ∃ (pa : Option Addr) (pc : Nat) (vk : Value) (ma : Option Addr) (mc : Nat) (vr : Value) (Mk Mr : MH), cs = [.int .i64 n.slot, .int .i64 n.level, .slice pa n.pivots.length pc, vk, .string n.high.b, .bool n.top, .int .i64 n.right, .int .i64 n.seen, .slice ma n.msgs.length mc, vr] ∧ M = Mr ++ Mk ∧
  SlR eStr G (.slice pa n.pivots.length pc) n.pivots ∧ OwnR eInt ti G vk n.kids Mk ∧ SlR eMsg G (.slice ma n.msgs.length mc) n.msgs ∧ OwnR ePair tp G vr n.rows Mr
theorem NodeO.of {ti tp : TypeId} {G : GH} {cs : List Value} {n m : Nd} {M : MH} (h : NodeO ti tp G cs n M) (e : n = m) : NodeO ti tp G cs m M := e ▸ h
theorem getL_out {l : List Nd} {i : Int} (h : ¬ (0 ≤ i ∧ i < l.length)) : getL l i = Nd.zero := by
 unfold getL
 by_cases h0 : 0 ≤ i
 ·rw [if_pos h0, List.getD_eq_getElem?_getD, List.getElem?_eq_none om9]; rfl
 ·rw [if_neg h0]
theorem getL_in {l : List Nd} {i : Int} (h : 0 ≤ i ∧ i < l.length) : getL l i = l[i.toNat]'om9 := by
 have := getL_at (l := l) (k := i.toNat) om9
 rwa [show ((i.toNat : Nat) : Int) = i by omega] at this
end Go.Fw
