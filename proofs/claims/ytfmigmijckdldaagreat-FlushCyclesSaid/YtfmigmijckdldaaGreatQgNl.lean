/- Sound trees: what their seats are. Plain Lean; nothing of the program is named here. No condition. -/
import Derived.Test.YtfmigmijckdldaaGreatQgU3
set_option linter.unusedVariables false
set_option linter.unusedSimpArgs false
set_option linter.unnecessarySimpa false

namespace Go.Fw
open Go Go.RowKit
def wantN (ss : List Seat) (i : Nat) : Int := if i + 1 < ss.length ∧ (ss.getD (i + 1) default).n.level = (ss.getD i default).n.level then (ss.getD (i + 1) default).n.slot else -1
def LinkedP (ss : List Seat) : Prop := ∀ i (h : i < ss.length), ss[i].n.right = wantN ss i
instance (ss : List Seat) : Decidable (LinkedP ss) := by unfold LinkedP; infer_instance
def PlacedP (x : Seat) : Prop := (x.n.top = x.s.opn ∧ x.n.high = x.s.hi) ∧ (∀ i (h : i < x.n.rows.length), x.s.has x.n.rows[i].key = true) ∧ (∀ i (h : i < x.n.pivots.length), x.s.has x.n.pivots[i] = true ∧ x.n.pivots[i] ≠ x.s.lo) ∧ ∀ i (h : i < x.n.msgs.length), x.n.msgs[i].span.meet x.s = x.n.msgs[i].span.norm
instance (x : Seat) : Decidable (PlacedP x) := by unfold PlacedP; infer_instance
def slotS (ss : List Seat) (i : Int) : List Seat := ss.filter fun x => decide (x.n.slot = i)
def OnceP (l : List Nd) (ss : List Seat) : Prop := l.length = ss.length ∧ ∀ i (h : i < l.length), (slotS ss l[i].slot).length = 1
instance (l : List Nd) (ss : List Seat) : Decidable (OnceP l ss) := by unfold OnceP; infer_instance
def StampP (x : Seat) : Prop := ∀ j (h : j < x.ms.length), x.n.seen < x.ms[j].stamp
instance (x : Seat) : Decidable (StampP x) := by unfold StampP; infer_instance
def SeatP (c : Cfg) (x : Seat) : Prop := x.n.R c.fan c.leaf c.bud ∧ PlacedP x ∧ x.n.slot < c.slots ∧ StampP x
instance (c : Cfg) (x : Seat) : Decidable (SeatP c x) := by unfold SeatP; infer_instance
def SoundQ (c : Cfg) (l : List Nd) (ss : List Seat) : Prop := (OnceP l ss ∧ LinkedP ss ∧ (l.length : Int) ≤ c.slots) ∧ ∀ i (h : i < ss.length), SeatP c ss[i]
instance (c : Cfg) (l : List Nd) (ss : List Seat) : Decidable (SoundQ c l ss) := by unfold SoundQ; infer_instance
noncomputable def soundN (c : Cfg) (l : List Nd) : Bool := match seatsN l 0 with | none => false | some ss => decide (SoundQ c l ss)
def SlotsP (l : List Nd) : Prop := ∀ i (h : i < l.length), l[i].slot = (i : Int) ∧ l[i].seen ≤ 1099511627776
instance (l : List Nd) : Decidable (SlotsP l) := by unfold SlotsP; infer_instance
noncomputable def treeN (c : Cfg) (l : List Nd) (most : Int) : Bool := decide (CfgR c ∧ 0 < l.length ∧ Light l most 2000 ∧ SlotsP l) && soundN c l
theorem soundN_t {c : Cfg} {l : List Nd} {ss : List Seat} (h : seatsN l 0 = some ss) : soundN c l = decide (SoundQ c l ss) := by rw [soundN, h]
theorem soundN_f {c : Cfg} {l : List Nd} (h : seatsN l 0 = none) : soundN c l = false := by rw [soundN, h]
theorem slotS_t {l : List Seat} {i : Int} {k : Nat} (hk : k < l.length) (h : l[k].n.slot = i) : slotS (l.take (k + 1)) i = slotS (l.take k) i ++ [l[k]] := filt_t hk (decide_eq_true h)
theorem slotS_f {l : List Seat} {i : Int} {k : Nat} (hk : k < l.length) (h : ¬ l[k].n.slot = i) : slotS (l.take (k + 1)) i = slotS (l.take k) i := filt_f hk (decide_eq_false h)
theorem slotS_len (l : List Seat) (i : Int) (k : Nat) : (slotS (l.take k) i).length ≤ l.length := filt_le _ l k
theorem wantN_t {ss : List Seat} {i : Nat} (h : i + 1 < ss.length) (e : (ss[i + 1]).n.level = (ss[i]).n.level) : wantN ss i = (ss[i + 1]).n.slot := by
 unfold wantN
 rw [List.getD_eq_getElem?_getD, List.getD_eq_getElem?_getD, List.getElem?_eq_getElem h, List.getElem?_eq_getElem om9]
 exact if_pos ⟨h, e⟩
theorem wantN_g {ss : List Seat} {i : Nat} (h : i + 1 < ss.length) (e : ¬ (ss[i + 1]).n.level = (ss[i]).n.level) : wantN ss i = -1 := by
 unfold wantN
 rw [List.getD_eq_getElem?_getD, List.getD_eq_getElem?_getD, List.getElem?_eq_getElem h, List.getElem?_eq_getElem om9]
 exact if_neg fun h => e h.2
theorem wantN_f {ss : List Seat} {i : Nat} (h : ¬ i + 1 < ss.length) : wantN ss i = -1 := by
 unfold wantN
 exact if_neg fun h2 => h h2.1
theorem treeN_f {c : Cfg} {l : List Nd} {most : Int} (h : ¬ (CfgR c ∧ 0 < l.length ∧ Light l most 2000 ∧ SlotsP l)) : treeN c l most = false := by unfold treeN; rw [decide_eq_false h]; rfl
theorem treeN_t {c : Cfg} {l : List Nd} {most : Int} (h1 : CfgR c) (h2 : 0 < l.length) (h3 : Light l most 2000) (h4 : SlotsP l) : treeN c l most = soundN c l := by unfold treeN; rw [decide_eq_true ⟨h1, h2, h3, h4⟩]; rfl
theorem longN_mem : ∀ {l : List Str} {n m : Int}, 0 ≤ n → longN l n m ≤ m → n ≤ m ∧ ∀ a ∈ l, (a.b.size : Int) ≤ m
 | [], n, m, h0, h => ⟨by simpa [longN] using h, fun a ha => by cases ha⟩
 | s :: l, n, m, h0, h => by
  rw [longN] at h
  split at h
  ·rename_i hc
   have h1 := longN_mem om9 h
   refine ⟨hc, fun a ha => ?_⟩
   rcases List.mem_cons.1 ha with rfl | ha
   ·have := h1.1; omega
   ·exact h1.2 a ha
  ·omega
theorem nds_light {n : Nd} (h : n.light 2000) : NdS n := by
 obtain ⟨h1, h2, h3, h4, h5⟩ := h
 have r1 := longG_len Pair.w_pos h1
 have r2 := longN_len h2
 have r4 := longG_len Msg.w_pos h4
 have m1 := (longG_mem (fun a => by have := Pair.w_pos a; omega) (Int.le_refl 0) h1).2
 have m2 := (longN_mem (Int.le_refl 0) h2).2
 have m4 := (longG_mem (fun a => by have := Msg.w_pos a; omega) (Int.le_refl 0) h4).2
 refine ⟨om9, om9, om9, om9, om9, fun m hm => ?_, fun p hp => ?_, fun p hp => ?_⟩
 ·have := m4 m hm; unfold Msg.w at this; omega
 ·have := m2 p hp; omega
 ·have := m1 p hp; unfold Pair.w at this; omega
theorem sml_light {l : List Nd} {most : Int} (h : Light l most 2000) (hm : most ≤ 4096) : Sml l := by
 refine ⟨by have := h.1; omega, fun n hn => ?_⟩
 obtain ⟨i, hi, rfl⟩ := List.getElem_of_mem hn
 exact nds_light (h.2 i hi)
theorem seatsF_fix {l : List Nd} {r : Seat} : ∀ (f i : Nat) (out ss : List Seat), seatsF l f i out = some ss → out = r :: (out.take i).flatMap (kidsD l) → (∀ x ∈ out.take i, (kidsO l x).isSome = true) →
  ss = r :: ss.flatMap (kidsD l) ∧ ∀ x ∈ ss, (kidsO l x).isSome = true := by
 intro f
 induction f with
 | zero => intro i out ss h; cases h
 | succ f ih =>
  intro i out ss h he hs
  by_cases hi : i < out.length
  ·by_cases hl : l.length < out.length
   ·rw [seatsF_long hi hl] at h; cases h
   ·cases hk : kidsO l out[i] with
    | none => rw [seatsF_none hi hk] at h; cases h
    | some ks =>
     rw [seatsF_some hi hl hk] at h
     have e : (out ++ ks).take (i + 1) = out.take i ++ [out[i]] := by
      rw [List.take_append_of_le_length om9, List.take_succ_eq_append_getElem hi]
     refine ih _ _ _ h ?_ ?_
     ·rw [e, List.flatMap_append, ← List.cons_append, ← he]
      congr 1
      simp [kidsD, hk]
     ·intro x hx
      rw [e, List.mem_append, List.mem_singleton] at hx
      rcases hx with hx | rfl
      ·exact hs x hx
      ·rw [hk]; rfl
  ·rw [seatsF_done hi] at h
   cases h
   rw [List.take_of_length_le om9] at he hs
   exact ⟨he, hs⟩
theorem seats_fix {l : List Nd} {root : Int} {ss : List Seat} (h : seatsN l root = some ss) : (findN l root).2 = true ∧ ss = rootS l root :: ss.flatMap (kidsD l) ∧ ∀ x ∈ ss, (kidsO l x).isSome = true := by
 unfold seatsN at h
 split at h
 ·rename_i hf
  exact ⟨hf, seatsF_fix _ _ _ _ h rfl (fun x hx => by simp at hx)⟩
 ·cases h
theorem kids_all {l : List Nd} {x : Seat} (h : (kidsO l x).isSome = true) (h0 : ¬ x.n.level = 0) : kidsD l x = kidsF l x x.n.kids.length ∧ 0 < x.n.level ∧ rightN x.n.pivots x.n.kids.length = true ∧ ∀ j, j < x.n.kids.length → kidOk l x j = true := by
 unfold kidsD kidsO at *
 rw [if_neg h0] at h ⊢
 split at h
 ·cases h
 ·rename_i h1
  rw [if_neg h1]
  split at h
  ·rename_i h2
   rw [if_pos h2]
   refine ⟨rfl, om9, by simpa using fun h => h1 (.inr h), fun j hj => List.all_eq_true.1 h2 j (List.mem_range.2 hj)⟩
  ·cases h
theorem kids_leaf {l : List Nd} {x : Seat} (h0 : x.n.level = 0) : kidsD l x = [] := by rw [kidsD, kidsO_0 h0]; rfl
theorem atS_take {l : List Nd} (h : SlotsP l) (i : Int) : ∀ k, k ≤ l.length → atS (l.take k) i = if h : 0 ≤ i ∧ i < k ∧ i.toNat < l.length then [l[i.toNat]] else []
 | 0, _ => by rw [dif_neg om9]; rfl
 | k + 1, hk => by
  have ih := atS_take h i k om9
  have hs := (h k om9).1
  by_cases e : l[k].slot = i
  ·rw [atS_t om9 e, ih, dif_neg om9, dif_pos ⟨om9, om9, om9⟩, List.nil_append]
   congr 2; omega
  ·rw [atS_f om9 e, ih]
   by_cases e2 : 0 ≤ i ∧ i < k ∧ i.toNat < l.length
   ·rw [dif_pos e2, dif_pos ⟨e2.1, om9, e2.2.2⟩]
   ·rw [dif_neg e2, dif_neg om9]
theorem atS_all {l : List Nd} (h : SlotsP l) (i : Int) : atS l i = if h : 0 ≤ i ∧ i < l.length ∧ i.toNat < l.length then [l[i.toNat]] else [] := by
 have := atS_take h i l.length (Nat.le_refl _)
 rwa [List.take_length] at this
theorem find_at {l : List Nd} (h : SlotsP l) {i : Nat} (hi : i < l.length) : findN l i = (l[i], true) := by
 unfold findN
 rw [atS_all h, dif_pos ⟨om9, om9, om9⟩]
 simp
theorem find_no {l : List Nd} (h : SlotsP l) {i : Int} (hi : ¬ (0 ≤ i ∧ i < l.length)) : findN l i = (Nd.zero, false) := by
 unfold findN
 rw [atS_all h, dif_neg om9]
 rfl
theorem find_eq {l : List Nd} (h : SlotsP l) (i : Int) : findN l i = (getL l i, decide (0 ≤ i ∧ i < l.length)) := by
 by_cases hi : 0 ≤ i ∧ i < l.length
 ·obtain ⟨k, rfl⟩ : ∃ k : Nat, i = k := ⟨i.toNat, om9⟩
  rw [find_at h om9, getL_at om9, decide_eq_true hi]
 ·rw [find_no h hi, decide_eq_false hi]
  congr 1
  unfold getL
  split
  ·rw [List.getD_eq_getElem?_getD, List.getElem?_eq_none om9]; rfl
  ·rfl
structure Tree (c : Cfg) (l : List Nd) (ss : List Seat) : Prop where
 cfg : CfgR c
 pos : 0 < l.length
 sml : Sml l
 slot : SlotsP l
 sts : seatsN l 0 = some ss
 q : SoundQ c l ss
theorem tree_of {c : Cfg} {l : List Nd} {most : Int} (h : treeN c l most = true) (hm : most ≤ 4096) : ∃ ss, Tree c l ss := by
 unfold treeN at h
 rw [Bool.and_eq_true, decide_eq_true_eq] at h
 obtain ⟨⟨h1, h2, h3, h4⟩, h5⟩ := h
 unfold soundN at h5
 split at h5
 ·cases h5
 ·rename_i ss e
  exact ⟨ss, h1, h2, sml_light h3 hm, h4, e, of_decide_eq_true h5⟩
variable {c : Cfg} {l : List Nd} {ss : List Seat}
theorem Tree.fix (t : Tree c l ss) : ss = rootS l 0 :: ss.flatMap (kidsD l) := (seats_fix t.sts).2.1
theorem Tree.root (t : Tree c l ss) : rootS l 0 ∈ ss := by rw [t.fix]; simp
theorem Tree.kids (t : Tree c l ss) {x : Seat} (hx : x ∈ ss) : (kidsO l x).isSome = true := (seats_fix t.sts).2.2 x hx
theorem Tree.kid (t : Tree c l ss) {x y : Seat} (hx : x ∈ ss) (hy : y ∈ kidsD l x) : y ∈ ss := by rw [t.fix]; exact List.mem_cons_of_mem _ (List.mem_flatMap.2 ⟨x, hx, hy⟩)
theorem Tree.seat (t : Tree c l ss) {x : Seat} (hx : x ∈ ss) : SeatP c x := by
 obtain ⟨i, hi, rfl⟩ := List.getElem_of_mem hx
 exact t.q.2 i hi
theorem Tree.lvl (t : Tree c l ss) {x : Seat} (hx : x ∈ ss) : 0 ≤ x.n.level := (t.seat hx).1.1.2.1
theorem Tree.rootn (t : Tree c l ss) : (rootS l 0).n = getL l 0 := by
 show (findN l 0).1 = _
 rw [find_eq t.slot]
theorem Tree.at (t : Tree c l ss) {x : Seat} (hx : x ∈ ss) (h0 : ¬ x.n.level = 0) {j : Nat} (hj : j < x.n.kids.length) :
  kidSt l x j ∈ ss ∧ (0 ≤ x.n.kids[j] ∧ x.n.kids[j] < l.length) ∧ (kidSt l x j).n = getL l x.n.kids[j] ∧ (kidSt l x j).n.level = x.n.level - 1 := by
 obtain ⟨h1, h2, h3, h4⟩ := kids_all (t.kids hx) h0
 have hk := h4 j hj
 unfold kidOk at hk
 have ej : x.n.kids.getD j 0 = x.n.kids[j] := by rw [List.getD_eq_getElem?_getD, List.getElem?_eq_getElem hj]; rfl
 rw [ej, find_eq t.slot, Bool.and_eq_true, decide_eq_true_eq, decide_eq_true_eq] at hk
 have en : (kidSt l x j).n = getL l x.n.kids[j] := by
  show (findN l (x.n.kids.getD j 0)).1 = _
  rw [ej, find_eq t.slot]
 refine ⟨t.kid hx ?_, hk.1, en, by rw [en]; exact hk.2⟩
 rw [h1]
 exact List.mem_map.2 ⟨j, List.mem_range.2 hj, rfl⟩
theorem getL_slot (h : SlotsP l) {i : Int} (hi : 0 ≤ i ∧ i < l.length) : (getL l i).slot = i ∧ getL l i ∈ l := by
 obtain ⟨k, rfl⟩ : ∃ k : Nat, i = k := ⟨i.toNat, om9⟩
 rw [getL_at om9]
 exact ⟨(h k om9).1, List.getElem_mem _⟩
theorem Tree.nd (t : Tree c l ss) {x : Seat} (hx : x ∈ ss) : ∃ h : 0 ≤ x.n.slot ∧ x.n.slot < l.length, x.n = getL l x.n.slot ∧ x.n ∈ l := by
 have key : ∃ i : Int, (0 ≤ i ∧ i < l.length) ∧ x.n = getL l i := by
  rw [t.fix] at hx
  rcases List.mem_cons.1 hx with rfl | hx
  ·exact ⟨0, ⟨om9, by have := t.pos; omega⟩, t.rootn⟩
  ·obtain ⟨y, hy, hk⟩ := List.mem_flatMap.1 hx
   by_cases h0 : y.n.level = 0
   ·rw [kids_leaf h0] at hk; cases hk
   ·rw [(kids_all (t.kids hy) h0).1] at hk
    obtain ⟨j, hj, rfl⟩ := List.mem_map.1 hk
    have := t.at hy h0 (List.mem_range.1 hj)
    exact ⟨_, this.2.1, this.2.2.1⟩
 obtain ⟨i, hi, e⟩ := key
 obtain ⟨h1, h2⟩ := getL_slot t.slot hi
 have hs : x.n.slot = i := by rw [e]; exact h1
 exact ⟨om9, by rw [hs]; exact e, by rw [e]; exact h2⟩
theorem Tree.perm (t : Tree c l ss) : (ss.map (·.n)).Perm l := by
 have hon := t.q.1.1
 have hnl : l.Nodup := by
  refine List.pairwise_iff_getElem.2 fun i j hi hj hij he => ?_
  have h1 := (t.slot i hi).1
  have h2 := (t.slot j hj).1
  rw [he] at h1
  omega
 refine (List.perm_ext_iff_of_nodup ?_ hnl).2 fun a => ⟨fun ha => ?_, fun ha => ?_⟩
 ·rw [List.nodup_iff_count]
  intro a
  by_cases ha : a ∈ ss.map (·.n)
  ·obtain ⟨x, hx, rfl⟩ := List.mem_map.1 ha
   obtain ⟨hs, hn, hm⟩ := t.nd hx
   have h1 := hon.2 x.n.slot.toNat om9
   rw [(t.slot _ _).1, show ((x.n.slot.toNat : Nat) : Int) = x.n.slot by omega] at h1
   rw [← h1, List.count_eq_countP, List.countP_map, slotS, ← List.countP_eq_length_filter]
   refine List.countP_mono_left fun y _ hy => ?_
   simp only [Function.comp, beq_iff_eq] at hy
   simp [hy]
  ·rw [List.count_eq_zero_of_not_mem ha]; omega
 ·obtain ⟨x, hx, rfl⟩ := List.mem_map.1 ha
  exact (t.nd hx).2.2
 ·obtain ⟨i, hi, rfl⟩ := List.getElem_of_mem ha
  have h1 := hon.2 i hi
  have h2 : ∃ x, x ∈ slotS ss l[i].slot := by
   cases h : slotS ss l[i].slot with
   | nil => rw [h] at h1; simp at h1
   | cons x _ => exact ⟨x, by simp⟩
  obtain ⟨x, hx⟩ := h2
  obtain ⟨hx1, hx2⟩ := List.mem_filter.1 hx
  have hx2 := of_decide_eq_true hx2
  refine List.mem_map.2 ⟨x, hx1, ?_⟩
  have hnd := (t.nd hx1).2.1
  rw [hnd, hx2, (t.slot i hi).1, getL_at hi]
theorem Tree.len (t : Tree c l ss) : ss.length = l.length := t.q.1.1.1.symm
theorem placed_of {l : List Nd} (h : SlotsP l) : placedF 0 l = true := placed_iff.2 fun k hk => by rw [(h k hk).1]; omega
theorem all_has (k : Str) : Span.all.has k = true := by
 show (!k.lt Str.nil && (true || _)) = true
 rw [Str.nil_le]; rfl
theorem kidSt_has {x : Seat} (h : rightN x.n.pivots x.n.kids.length = true) {j : Nat} (hj : j < x.n.kids.length) (k : Str) : (kidSt l x j).s.has k = (x.s.has k && decide (j = routeN x.n.pivots k)) := by
 obtain ⟨h1, h2⟩ := rightN_spec h
 show (Span.meet _ _).has k = _
 rw [meet_has, range_has h1 k om9]
theorem route_lt {x : Seat} (h : rightN x.n.pivots x.n.kids.length = true) (k : Str) : routeN x.n.pivots k < x.n.kids.length := by
 have := (rightN_spec h).2
 have h2 : routeN x.n.pivots k ≤ x.n.pivots.length := List.length_filter_le _ _
 omega
theorem filter_one (b : Bool) (r : Nat) : ∀ n, (List.range n).filter (fun j => b && decide (j = r)) = if b = true ∧ r < n then [r] else []
 | 0 => by simp
 | n + 1 => by
  rw [List.range_succ, List.filter_append, filter_one b r n]
  cases b
  ·simp
  ·by_cases h : r < n
   ·rw [if_pos ⟨rfl, h⟩, if_pos ⟨rfl, om9⟩, List.filter_cons_of_neg (by simp; omega)]; simp
   ·rw [if_neg (by simp; omega)]
    by_cases h2 : r = n
    ·subst h2; rw [if_pos ⟨rfl, om9⟩, List.filter_cons_of_pos (by simp)]; simp
    ·rw [if_neg (by simp; omega), List.filter_cons_of_neg (by simp; omega)]; simp
noncomputable def stepW (l : List Nd) (k : Str) (x : Seat) : Option Seat := if x.n.level = 0 then none else some (kidSt l x (routeN x.n.pivots k))
theorem stepW_0 {k : Str} {x : Seat} (h : x.n.level = 0) : stepW l k x = none := if_pos h
theorem stepW_1 {k : Str} {x : Seat} (h : ¬ x.n.level = 0) : stepW l k x = some (kidSt l x (routeN x.n.pivots k)) := if_neg h
theorem filter_map9 {α β : Type} (p : β → Bool) (f : α → β) : ∀ (l : List α), (l.map f).filter p = (l.filter fun a => p (f a)).map f
 | [] => rfl
 | a :: l => by
  rw [List.map_cons, List.filter_cons, List.filter_cons, filter_map9 p f l]
  split <;> simp_all
theorem filter_congr9 {α : Type} {p q : α → Bool} {l : List α} (h : ∀ a ∈ l, p a = q a) : l.filter p = l.filter q := List.filter_congr h
theorem Tree.filt (t : Tree c l ss) (k : Str) {x : Seat} (hx : x ∈ ss) : ((kidsD l x).filter fun y => y.s.has k) = if x.s.has k = true then (stepW l k x).toList else [] := by
 by_cases h0 : x.n.level = 0
 ·rw [kids_leaf h0, stepW_0 h0]; simp
 ·obtain ⟨h1, h2, h3, h4⟩ := kids_all (t.kids hx) h0
  rw [h1, stepW_1 h0]
  unfold kidsF
  rw [filter_map9, filter_congr9 (q := fun j => x.s.has k && decide (j = routeN x.n.pivots k)) (fun j hj => kidSt_has h3 (List.mem_range.1 hj) k), filter_one]
  have := route_lt h3 k
  by_cases hk : x.s.has k = true
  ·rw [if_pos ⟨hk, this⟩, if_pos hk]; rfl
  ·rw [if_neg (fun h => hk h.1), if_neg hk]; rfl
def hasS (k : Str) (ss : List Seat) : List Seat := ss.filter fun y => y.s.has k
theorem Tree.has_fix (t : Tree c l ss) (k : Str) : hasS k ss = rootS l 0 :: (hasS k ss).filterMap (stepW l k) := by
 have key : ∀ (ts : List Seat), (∀ x ∈ ts, x ∈ ss) → hasS k (ts.flatMap (kidsD l)) = (hasS k ts).filterMap (stepW l k) := by
  intro ts
  induction ts with
  | nil => intro _; rfl
  | cons x ts ih =>
   intro h
   unfold hasS at *
   rw [List.flatMap_cons, List.filter_append, ih (fun y hy => h y (List.mem_cons_of_mem _ hy)), t.filt k (h x (by simp)), List.filter_cons]
   split
   ·rw [List.filterMap_cons]
    cases stepW l k x <;> rfl
   ·rfl
 have e := key ss (fun x hx => hx)
 rw [← e]
 conv => lhs; rw [t.fix]
 unfold hasS
 rw [List.filter_cons_of_pos (by exact all_has k)]
noncomputable def wayF (l : List Nd) (k : Str) : Nat → Seat → List Seat
 | 0, x => [x]
 | f + 1, x => x :: match stepW l k x with
  | none => []
  | some y => wayF l k f y
theorem max_lvl : ∀ (T : List Seat), T ≠ [] → ∃ m ∈ T, ∀ x ∈ T, x.n.level ≤ m.n.level
 | [], h => absurd rfl h
 | [x], _ => ⟨x, by simp, fun y hy => by simp at hy; subst hy; exact Int.le_refl _⟩
 | x :: y :: T, _ => by
  obtain ⟨m, hm, hx⟩ := max_lvl (y :: T) (by simp)
  by_cases h : m.n.level ≤ x.n.level
  ·exact ⟨x, by simp, fun z hz => by
    rcases List.mem_cons.1 hz with rfl | hz
    ·exact Int.le_refl _
    ·exact Int.le_trans (hx z hz) h⟩
  ·exact ⟨m, List.mem_cons_of_mem _ hm, fun z hz => by
    rcases List.mem_cons.1 hz with rfl | hz
    ·omega
    ·exact hx z hz⟩
theorem fix_nil {f : Seat → Option Seat} {T : List Seat} (h : T = T.filterMap f) (hf : ∀ x ∈ T, ∀ y, f x = some y → y.n.level < x.n.level) : T = [] := by
 apply Classical.byContradiction
 intro hn
 obtain ⟨m, hm, hx⟩ := max_lvl T hn
 have hm2 := hm
 rw [h] at hm2
 obtain ⟨x, hx1, hx2⟩ := List.mem_filterMap.1 hm2
 have := hf x hx1 m hx2
 have := hx x hx1
 omega
theorem fix_way {k : Str} : ∀ (n : Nat) (z : Seat) (T : List Seat), z.n.level.toNat = n → T = z :: T.filterMap (stepW l k) → (∀ x ∈ T, 0 ≤ x.n.level ∧ ∀ y, stepW l k x = some y → y.n.level = x.n.level - 1) → T = wayF l k n z := by
 intro n
 induction n with
 | zero =>
  intro z T hz h hf
  have hzT : z ∈ T := by rw [h]; simp
  have h0 : z.n.level = 0 := by have := (hf z hzT).1; omega
  cases T with
  | nil => cases hzT
  | cons a R =>
   have ea : a = z := (List.cons.inj h).1
   subst ea
   have hR : R = R.filterMap (stepW l k) := by
    have := (List.cons.inj h).2
    rw [List.filterMap_cons, stepW_0 h0] at this
    exact this
   rw [fix_nil hR (fun x hx y hy => by have := (hf x (List.mem_cons_of_mem _ hx)).2 y hy; omega)]
   rfl
 | succ n ih =>
  intro z T hz h hf
  have h0 : ¬ z.n.level = 0 := om9
  cases T with
  | nil => simp at h
  | cons a R =>
   have ea : a = z := (List.cons.inj h).1
   subst ea
   have hR := (List.cons.inj h).2
   rw [List.filterMap_cons, stepW_1 h0] at hR
   dsimp only at hR
   have hl := (hf a (by simp)).2 _ (stepW_1 h0)
   rw [wayF, stepW_1 h0]
   dsimp only
   rw [← ih _ R om9 hR (fun x hx => hf x (List.mem_cons_of_mem _ hx))]
noncomputable def wayN (l : List Nd) (k : Str) : List Seat := wayF l k (rootS l 0).n.level.toNat (rootS l 0)
theorem Tree.step (t : Tree c l ss) {k : Str} {x y : Seat} (hx : x ∈ ss) (h : stepW l k x = some y) : y ∈ ss ∧ y.n.level = x.n.level - 1 := by
 by_cases h0 : x.n.level = 0
 ·rw [stepW_0 h0] at h; cases h
 ·rw [stepW_1 h0] at h
  cases h
  have h3 := (kids_all (t.kids hx) h0).2.2.1
  have := t.at hx h0 (route_lt h3 k)
  exact ⟨this.1, this.2.2.2⟩
theorem Tree.way (t : Tree c l ss) (k : Str) : hasS k ss = wayN l k := by
 refine fix_way _ _ _ rfl (t.has_fix k) fun x hx => ?_
 have hx := (List.mem_filter.1 hx).1
 exact ⟨t.lvl hx, fun y hy => (t.step hx hy).2⟩
theorem way_cons {k : Str} {f : Nat} {x y : Seat} (h : stepW l k x = some y) : wayF l k (f + 1) x = x :: wayF l k f y := by rw [wayF, h]
theorem empty_iff {s : Span} : s.empty = true ↔ ∀ k, s.has k = false := by
 constructor
 ·intro h k
  have h1 : s.opn = false ∧ s.lo.lt s.hi = false := by simpa [Span.empty] using h
  unfold Span.has
  rw [h1.1, Bool.false_or, Bool.and_eq_false_iff]
  cases h2 : k.lt s.hi
  ·exact .inr rfl
  ·left
   cases h3 : k.lt s.lo
   ·have := Str.lt_of_le_of_lt h3 h2
    rw [h1.2] at this; cases this
   ·rfl
 ·intro h
  rw [← Span.empty_eq, h]; rfl
theorem norm_ext {a b : Span} (h : ∀ k, a.has k = b.has k) : a.norm = b.norm := by
 have he : a.empty = b.empty := by
  rw [Bool.eq_iff_iff, empty_iff, empty_iff]
  exact ⟨fun h1 k => by rw [← h k]; exact h1 k, fun h1 k => by rw [h k]; exact h1 k⟩
 unfold Span.norm
 rw [← he]
 cases ea : a.empty
 ·have eb : b.empty = false := he ▸ ea
  simp only [Bool.false_eq_true, if_false]
  have la : a.has a.lo = true := by have := Span.empty_eq a; rw [ea] at this; simpa using this
  have lb : b.has b.lo = true := by have := Span.empty_eq b; rw [eb] at this; simpa using this
  have l1 : a.lo.lt b.lo = false := by
   have := h a.lo; rw [la] at this
   unfold Span.has at this
   simp only [Bool.true_eq, Bool.and_eq_true, Bool.not_eq_true'] at this
   exact this.1
  have l2 : b.lo.lt a.lo = false := by
   have := h b.lo; rw [lb] at this
   unfold Span.has at this
   simp only [Bool.and_eq_true, Bool.not_eq_true'] at this
   exact this.1
  have hlo : a.lo = b.lo := Str.lt_total l1 l2
  have hop : ∀ {x y : Span}, x.lo = y.lo → (∀ k, x.has k = y.has k) → x.empty = false → y.empty = false → x.opn = true → y.opn = true := by
   intro x y hxy hk hx hy ho
   cases hyo : y.opn
   ·exfalso
    have h1 : y.lo.lt y.hi = true := by simpa [Span.empty, hyo] using hy
    have h2 : y.has y.hi = false := by unfold Span.has; rw [hyo, Str.lt_irrefl]; simp
    have h3 : x.has y.hi = true := by unfold Span.has; rw [ho, hxy, Str.lt_asymm h1]; rfl
    rw [hk, h2] at h3; cases h3
   ·rfl
  cases oa : a.opn
  ·have ob : b.opn = false := by
    cases ob : b.opn
    ·rfl
    ·have := hop hlo.symm (fun k => (h k).symm) eb ea ob; rw [oa] at this; cases this
   have hhi : ∀ {x y : Span}, x.lo = y.lo → (∀ k, x.has k = y.has k) → x.empty = false → x.opn = false → y.opn = false → x.hi.lt y.hi = false := by
    intro x y hxy hk hx ho hyo
    cases hl : x.hi.lt y.hi
    ·rfl
    ·exfalso
     have h1 : x.lo.lt x.hi = true := by simpa [Span.empty, ho] using hx
     have h2 : x.has x.hi = false := by unfold Span.has; rw [ho, Str.lt_irrefl]; simp
     have h3 : y.has x.hi = true := by unfold Span.has; rw [hyo, ← hxy, Str.lt_asymm h1, hl]; rfl
     rw [← hk, h2] at h3; cases h3
   have e : a.hi = b.hi := Str.lt_total (hhi hlo h ea oa ob) (hhi hlo.symm (fun k => (h k).symm) eb ob oa)
   rw [if_neg (by simp), if_neg (by simp [ob])]
   cases a; cases b; simp_all
  ·have ob := hop hlo h ea eb oa
   rw [if_pos rfl, if_pos ob, ob]
   cases a; cases b; simp_all
 ·simp
theorem norm_norm (s : Span) : s.norm.norm = s.norm := norm_ext fun k => norm_has s k
theorem meet_norm (a b : Span) : (a.meet b).norm = a.meet b := norm_norm _
theorem meet_ext {a b a' b' : Span} (h : ∀ k, (a.has k && b.has k) = (a'.has k && b'.has k)) : a.meet b = a'.meet b' := by
 rw [← meet_norm a b, ← meet_norm a' b']
 exact norm_ext fun k => by rw [meet_has, meet_has]; exact h k
theorem clip_no {m : Msg} {s : Span} : (m.clip s).2 = false ↔ (m.span.meet s).empty = true := by
 cases h : (m.span.meet s).empty
 ·by_cases k : m.kind = 4
  ·rw [clip_4 h k]; simp
  ·rw [clip_n h k]; simp
 ·rw [clip_e h]; simp
theorem clip_span {m : Msg} {s : Span} (h : (m.clip s).2 = true) (k : m.kind = 4) : (m.clip s).1.span = m.span.meet s := by
 rw [(clip_of h).2, if_pos k]
 show Msg.span { m with key := (m.span.meet s).lo, hi := (m.span.meet s).hi, opn := (m.span.meet s).opn } = _
 generalize m.span.meet s = z
 unfold Msg.span
 rw [if_pos k]
theorem clip_clip {m : Msg} {s t : Span} (hst : ∀ k, s.has k = true → t.has k = true) : (if (m.clip t).2 = true then (m.clip t).1.clip s else (⟨0, 0, Str.nil, Str.nil, false, Str.nil⟩, false)) = m.clip s := by
 cases h : (m.clip t).2
 ·rw [if_neg (by simp)]
  have h1 := clip_no.1 h
  have h2 : (m.span.meet s).empty = true := empty_iff.2 fun k => by
   have := empty_iff.1 h1 k
   rw [meet_has, Bool.and_eq_false_iff] at this ⊢
   rcases this with h | h
   ·exact .inl h
   ·right
    cases hs : s.has k
    ·rfl
    ·rw [hst k hs] at h; cases h
  rw [clip_e h2]
 ·rw [if_pos rfl]
  by_cases k : m.kind = 4
  ·have hs := clip_span h k
   have k2 : (m.clip t).1.kind = 4 := by rw [(clip_of h).2, if_pos k]; exact k
   have e : (m.span.meet t).meet s = m.span.meet s := meet_ext fun q => by
    rw [meet_has]
    cases hs : s.has q
    ·simp
    ·rw [hst q hs]; simp
   cases he : (m.span.meet s).empty
   ·rw [clip_4 (by rw [hs, e]; exact he) k2, clip_4 he k, hs, e, (clip_of h).2, if_pos k]
   ·rw [clip_e (by rw [hs, e]; exact he), clip_e he]
  ·rw [(clip_of h).2, if_neg k]
theorem clips_clips {s t : Span} (hst : ∀ k, s.has k = true → t.has k = true) : ∀ (L : List Msg), clips s (clips t L) = clips s L
 | [] => rfl
 | m :: L => by
  have e := clip_clip (m := m) hst
  rw [clips_cons t m L, clips_cons s m L, ← clips_clips hst L]
  cases h : (m.clip t).2
  ·rw [if_neg (by simp)]
   rw [h, if_neg (by simp)] at e
   rw [← e, if_neg (by simp)]
  ·rw [if_pos rfl, clips_cons]
   rw [h, if_pos rfl] at e
   rw [e]
theorem clips_append (s : Span) (A B : List Msg) : clips s (A ++ B) = clips s A ++ clips s B := List.filterMap_append
theorem clips_perm {s : Span} {A B : List Msg} (h : A.Perm B) : (clips s A).Perm (clips s B) := List.Perm.filterMap _ h
theorem clips_flat (s : Span) : ∀ (L : List (List Msg)), clips s L.flatten = (L.map (clips s)).flatten
 | [] => rfl
 | A :: L => by rw [List.flatten_cons, clips_append, clips_flat s L]; rfl
theorem clips_rst {s : Span} {A : List Msg} (h : Rst A) : Rst (clips s A) := by
 unfold Rst clips
 rw [List.pairwise_filterMap]
 refine List.Pairwise.imp (fun {a b} hab x hx y hy => ?_) h
 split at hx
 ·split at hy
  ·rename_i h1 h2
   cases hx; cases hy
   rw [clip_stamp h1, clip_stamp h2]; exact hab
  ·cases hy
 ·cases hx
variable {c : Cfg} {l : List Nd} {ss : List Seat}
theorem Tree.from (t : Tree c l ss) {x : Seat} (hx : x ∈ ss) : x = rootS l 0 ∨ ∃ y ∈ ss, ∃ h0 : ¬ y.n.level = 0, ∃ j, j < y.n.kids.length ∧ x = kidSt l y j := by
 rw [t.fix] at hx
 rcases List.mem_cons.1 hx with rfl | hx
 ·exact .inl rfl
 ·obtain ⟨y, hy, hk⟩ := List.mem_flatMap.1 hx
  by_cases h0 : y.n.level = 0
  ·rw [kids_leaf h0] at hk; cases hk
  ·rw [(kids_all (t.kids hy) h0).1] at hk
   obtain ⟨j, hj, rfl⟩ := List.mem_map.1 hk
   exact .inr ⟨y, hy, h0, j, List.mem_range.1 hj, rfl⟩
theorem Tree.ind (t : Tree c l ss) {P : Seat → Prop} (h0 : P (rootS l 0)) (hk : ∀ x ∈ ss, ¬ x.n.level = 0 → P x → ∀ j, j < x.n.kids.length → P (kidSt l x j)) : ∀ x ∈ ss, P x := by
 intro x hx
 apply Classical.byContradiction
 intro hn
 have hT : (ss.filter fun y => @decide (¬ P y) (Classical.propDecidable _)) ≠ [] := by
  intro e
  have : x ∈ ss.filter fun y => @decide (¬ P y) (Classical.propDecidable _) := List.mem_filter.2 ⟨hx, by simpa using hn⟩
  rw [e] at this; cases this
 obtain ⟨m, hm, hmax⟩ := max_lvl _ hT
 obtain ⟨hm1, hm2⟩ := List.mem_filter.1 hm
 have hm2 : ¬ P m := by simpa using hm2
 rcases t.from hm1 with rfl | ⟨y, hy, hy0, j, hj, rfl⟩
 ·exact hm2 h0
 ·refine hm2 (hk y hy hy0 ?_ j hj)
  apply Classical.byContradiction
  intro hPy
  have := hmax y (List.mem_filter.2 ⟨hy, by simpa using hPy⟩)
  have := (t.at hy hy0 hj).2.2.2
  omega
theorem Tree.inner (t : Tree c l ss) {x : Seat} (hx : x ∈ ss) (h0 : ¬ x.n.level = 0) : x.n.innerR c.fan c.bud := by
 have := (t.seat hx).1.2.2.2
 rwa [if_neg h0] at this
theorem Tree.leaf (t : Tree c l ss) {x : Seat} (hx : x ∈ ss) (h0 : x.n.level = 0) : x.n.leafR c.leaf := by
 have := (t.seat hx).1.2.2.2
 rwa [if_pos h0] at this
theorem Tree.nomsgs (t : Tree c l ss) {x : Seat} (hx : x ∈ ss) (h0 : x.n.level = 0) : x.n.msgs = [] := by
 have := (t.leaf hx h0).1
 exact List.eq_nil_of_length_eq_zero om9
theorem Tree.msgs (t : Tree c l ss) {x : Seat} (hx : x ∈ ss) : Rst x.n.msgs ∧ (∀ m ∈ x.n.msgs, m.R) ∧ ∀ m ∈ x.n.msgs, m.stamp ≤ x.n.seen := by
 by_cases h0 : x.n.level = 0
 ·rw [t.nomsgs hx h0]; exact ⟨List.Pairwise.nil, (fun m hm => by cases hm), fun m hm => by cases hm⟩
 ·obtain ⟨_, _, h3, _, _, _, h7⟩ := t.inner hx h0
  refine ⟨(MsgsR.iff.1 h3).2, (MsgsR.iff.1 h3).1, fun m hm => ?_⟩
  obtain ⟨i, hi, rfl⟩ := List.getElem_of_mem hm
  exact (h7 i hi).1
theorem merge_two {A B : List Msg} (ha : Rst A) (hb : Rst B) (h : ∀ a ∈ A, ∀ b ∈ B, a.stamp < b.stamp) : mergeN [A, B] = A ++ B ∧ Rst (A ++ B) := by
 have hr : Rst (A ++ B) := List.pairwise_append.2 ⟨ha, hb, h⟩
 refine ⟨merge_sorted _ _ _ rfl ?_ (by simp) hr, hr⟩
 intro L hL
 simp only [List.mem_cons, List.not_mem_nil, or_false] at hL
 rcases hL with rfl | rfl
 ·exact ha
 ·exact hb
theorem clips_stamp {s : Span} {A : List Msg} {m : Msg} (h : m ∈ clips s A) : ∃ a ∈ A, m.stamp = a.stamp := by
 obtain ⟨a, ha, h1, rfl⟩ := clips_mem h
 exact ⟨a, ha, clip_stamp h1⟩
theorem Tree.kid_ms (t : Tree c l ss) {x : Seat} (hx : x ∈ ss) (hr : Rst x.ms) (j : Nat) :
  (kidSt l x j).ms = clips (kidSt l x j).s x.n.msgs ++ clips (kidSt l x j).s x.ms ∧ Rst (kidSt l x j).ms := by
 obtain ⟨h1, _, h3⟩ := t.msgs hx
 have hs := (t.seat hx).2.2.2
 have := merge_two (A := clips (kidSt l x j).s x.n.msgs) (B := clips (kidSt l x j).s x.ms) (clips_rst h1) (clips_rst hr) fun a ha b hb => by
  obtain ⟨a', ha', e1⟩ := clips_stamp ha
  obtain ⟨b', hb', e2⟩ := clips_stamp hb
  have := h3 a' ha'
  obtain ⟨i, hi, rfl⟩ := List.getElem_of_mem hb'
  have := hs i hi
  omega
 have e : (kidSt l x j).ms = mergeN [clips (kidSt l x j).s x.n.msgs, clips (kidSt l x j).s x.ms] := rfl
 exact ⟨by rw [e, this.1], by rw [e, this.1]; exact this.2⟩
theorem Tree.rst (t : Tree c l ss) : ∀ x ∈ ss, Rst x.ms := t.ind List.Pairwise.nil fun x hx _ hr j _ => (t.kid_ms hx hr j).2
theorem Tree.fits (t : Tree c l ss) : ∀ x ∈ ss, (x.s.lo.b.size ≤ 16 ∧ x.s.hi.b.size ≤ 16) ∧ ∀ m ∈ x.ms, m.R := by
 refine t.ind ⟨⟨by show Str.nil.b.size ≤ 16; decide, by show Str.nil.b.size ≤ 16; decide⟩, fun m hm => by cases hm⟩ fun x hx h0 ih j hj => ?_
 have hi := t.inner hx h0
 have hsp : (kidSt l x j).s.lo.b.size ≤ 16 ∧ (kidSt l x j).s.hi.b.size ≤ 16 := meet_sizes ih.1 (range_sizes fun k hk => by
  obtain ⟨i, hi2, rfl⟩ := List.getElem_of_mem hk
  exact (hi.2.2.2.2.2.1 i hi2).2.1)
 refine ⟨hsp, fun m hm => ?_⟩
 rw [(t.kid_ms hx (t.rst x hx) j).1, List.mem_append] at hm
 rcases hm with hm | hm <;> obtain ⟨a, ha, h1, rfl⟩ := clips_mem hm
 ·exact clip_R ((t.msgs hx).2.1 a ha) hsp.1 hsp.2 h1
 ·exact clip_R (ih.2 a ha) hsp.1 hsp.2 h1
theorem kid_sub {x : Seat} {j : Nat} (k : Str) (h : (kidSt l x j).s.has k = true) : x.s.has k = true := by
 have e : (kidSt l x j).s.has k = (x.s.has k && (rangeN x.n.pivots (j : Int)).has k) := meet_has _ _ _
 rw [e, Bool.and_eq_true] at h
 exact h.1
theorem Tree.path (t : Tree c l ss) {k : Str} : ∀ (n : Nat) (x : Seat) (P : List Seat), x ∈ ss → x.n.level.toNat = n → x.s.has k = true → x.ms.Perm ((P.map fun y => clips x.s y.n.msgs).flatten) →
  ∃ z, (P ++ wayF l k n x).getLast? = some z ∧ z ∈ ss ∧ z.n.level = 0 ∧ z.s.has k = true ∧ (∀ y ∈ wayF l k n x, y ∈ ss ∧ (y.n.level = 0 → y = z)) ∧ z.ms.Perm (((P ++ wayF l k n x).map fun y => clips z.s y.n.msgs).flatten) := by
 intro n
 induction n with
 | zero =>
  intro x P hx hn hk hp
  have h0 : x.n.level = 0 := by have := t.lvl hx; omega
  refine ⟨x, by simp [wayF], hx, h0, hk, fun y hy => by simp [wayF] at hy; subst hy; exact ⟨hx, fun _ => rfl⟩, ?_⟩
  rw [wayF, List.map_append, List.flatten_append]
  simp only [List.map_cons, List.map_nil, List.flatten_cons, List.flatten_nil, t.nomsgs hx h0]
  simpa [clips] using hp
 | succ n ih =>
  intro x P hx hn hk hp
  have h0 : ¬ x.n.level = 0 := om9
  have h3 := (kids_all (t.kids hx) h0).2.2.1
  have hj := route_lt h3 k
  have ha := t.at hx h0 hj
  have hy : (kidSt l x (routeN x.n.pivots k)).s.has k = true := by rw [kidSt_has h3 hj, hk]; simp
  have hms := (t.kid_ms hx (t.rst x hx) (routeN x.n.pivots k)).1
  rw [way_cons (stepW_1 h0)]
  obtain ⟨z, h1, h2, h4, h5, h6, h7⟩ := ih (kidSt l x (routeN x.n.pivots k)) (P ++ [x]) ha.1 om9 hy (by
   rw [hms, List.map_append, List.flatten_append]
   simp only [List.map_cons, List.map_nil, List.flatten_cons, List.flatten_nil, List.append_nil]
   refine List.perm_append_comm.trans (List.Perm.append_right _ ?_)
   refine (clips_perm hp).trans (List.Perm.of_eq ?_)
   rw [clips_flat, List.map_map]
   congr 1
   refine List.map_congr_left fun y _ => ?_
   exact clips_clips (fun q hq => kid_sub q hq) _)
  refine ⟨z, by simpa using h1, h2, h4, h5, fun y hy => ?_, by simpa using h7⟩
  rcases List.mem_cons.1 hy with rfl | hy
  ·exact ⟨hx, fun h => absurd h h0⟩
  ·exact h6 y hy
noncomputable def leafS (l : List Nd) (k : Str) : Seat := (wayN l k).getLast?.getD default
structure LeafOk (l : List Nd) (ss : List Seat) (k : Str) (z : Seat) : Prop where
 last : (wayN l k).getLast? = some z
 mem : z ∈ ss
 lvl : z.n.level = 0
 has : z.s.has k = true
 all : ∀ y ∈ wayN l k, y ∈ ss ∧ (y.n.level = 0 → y = z)
 perm : z.ms.Perm (((wayN l k).map fun y => clips z.s y.n.msgs).flatten)
theorem Tree.leafOk (t : Tree c l ss) (k : Str) : LeafOk l ss k (leafS l k) := by
 obtain ⟨z, h1, h2, h3, h4, h5, h6⟩ := t.path (k := k) _ (rootS l 0) [] t.root rfl (all_has k) (by exact List.Perm.refl _)
 have h1 : (wayN l k).getLast? = some z := h1
 have e : leafS l k = z := by unfold leafS; rw [h1]; rfl
 rw [e]
 exact ⟨h1, h2, h3, h4, h5, h6⟩
theorem Tree.leaf_eq (t : Tree c l ss) {k : Str} {x : Seat} (hx : x ∈ ss) (hk : x.s.has k = true) (h0 : x.n.level = 0) : x = leafS l k := by
 have : x ∈ wayN l k := by rw [← t.way k]; exact List.mem_filter.2 ⟨hx, hk⟩
 exact ((t.leafOk k).all x this).2 h0
theorem fix_nil2 {K : Seat → List Seat} {T : List Seat} (h : T = T.flatMap K) (hf : ∀ x ∈ T, ∀ y ∈ K x, y.n.level < x.n.level) : T = [] := by
 apply Classical.byContradiction
 intro hn
 obtain ⟨m, hm, hx⟩ := max_lvl T hn
 have hm2 := hm
 rw [h] at hm2
 obtain ⟨x, hx1, hx2⟩ := List.mem_flatMap.1 hm2
 have := hf x hx1 m hx2
 have := hx x hx1
 omega
theorem Tree.kid_lvl (t : Tree c l ss) {x y : Seat} (hx : x ∈ ss) (hy : y ∈ kidsD l x) : y ∈ ss ∧ y.n.level = x.n.level - 1 := by
 by_cases h0 : x.n.level = 0
 ·rw [kids_leaf h0] at hy; cases hy
 ·rw [(kids_all (t.kids hx) h0).1] at hy
  obtain ⟨j, hj, rfl⟩ := List.mem_map.1 hy
  have := t.at hx h0 (List.mem_range.1 hj)
  exact ⟨this.1, this.2.2.2⟩
noncomputable def preF (l : List Nd) : Nat → Seat → List Seat
 | 0, x => [x]
 | n + 1, x => x :: (kidsD l x).flatMap (preF l n)
theorem perm_flat {α β : Type} {f g h : α → List β} (e : ∀ x, f x = g x ++ h x) : ∀ (L : List α), (L.flatMap f).Perm (L.flatMap g ++ L.flatMap h)
 | [] => List.Perm.refl _
 | x :: L => by
  rw [List.flatMap_cons, List.flatMap_cons, List.flatMap_cons, e x, List.append_assoc, List.append_assoc]
  refine List.Perm.append_left _ ?_
  refine (List.Perm.append_left _ (perm_flat e L)).trans ?_
  rw [← List.append_assoc, ← List.append_assoc]
  exact List.perm_append_comm.append_right _
theorem Tree.pre_perm (t : Tree c l ss) : ∀ (n : Nat) (R T : List Seat), T = R ++ T.flatMap (kidsD l) → (∀ x ∈ T, x ∈ ss) → (∀ x ∈ R, x.n.level.toNat = n) → T.Perm (R.flatMap (preF l n)) := by
 intro n
 induction n with
 | zero =>
  intro R T hT hs hR
  have hRT : ∀ x ∈ R, x ∈ T := fun x hx => by rw [hT]; exact List.mem_append_left _ hx
  have h0 : ∀ x ∈ R, x.n.level = 0 := fun x hx => by have := t.lvl (hs x (hRT x hx)); have := hR x hx; omega
  have hK : R.flatMap (kidsD l) = [] := List.flatMap_eq_nil_iff.2 fun x hx => kids_leaf (h0 x hx)
  generalize hS : T.flatMap (kidsD l) = S at hT
  have hS2 : S = S.flatMap (kidsD l) := by
   conv => lhs; rw [← hS, hT]
   rw [List.flatMap_append, hK, List.nil_append]
  have hST : ∀ x ∈ S, x ∈ T := fun x hx => by rw [hT]; exact List.mem_append_right _ hx
  have hn := fix_nil2 hS2 fun x hx y hy => by have := (t.kid_lvl (hs x (hST x hx)) hy).2; omega
  rw [hT, hn, List.append_nil]
  exact List.Perm.of_eq (List.flatMap_singleton' R).symm
 | succ n ih =>
  intro R T hT hs hR
  have hRT : ∀ x ∈ R, x ∈ T := fun x hx => by rw [hT]; exact List.mem_append_left _ hx
  generalize hS : T.flatMap (kidsD l) = S at hT
  have hS2 : S = R.flatMap (kidsD l) ++ S.flatMap (kidsD l) := by
   conv => lhs; rw [← hS, hT]
   rw [List.flatMap_append]
  have hST : ∀ x ∈ S, x ∈ T := fun x hx => by rw [hT]; exact List.mem_append_right _ hx
  have h1 := ih (R.flatMap (kidsD l)) S hS2 (fun x hx => hs x (hST x hx)) fun y hy => by
   obtain ⟨x, hx, hyx⟩ := List.mem_flatMap.1 hy
   have := (t.kid_lvl (hs x (hRT x hx)) hyx).2
   have := hR x hx
   omega
  rw [hT]
  refine (List.Perm.append_left R h1).trans ?_
  have h2 := perm_flat (f := preF l (n + 1)) (g := fun x => [x]) (h := fun x => (kidsD l x).flatMap (preF l n)) (fun x => rfl) R
  rw [List.flatMap_singleton' R] at h2
  refine List.Perm.trans ?_ h2.symm
  rw [List.flatMap_assoc]
theorem Tree.pre_len (t : Tree c l ss) : ∀ (n : Nat) (x : Seat), x ∈ ss → x.n.level.toNat = n → 2 ^ (n + 1) ≤ (preF l n x).length + 1 := by
 intro n
 induction n with
 | zero => intro x _ _; simp [preF]
 | succ n ih =>
  intro x hx hn
  have h0 : ¬ x.n.level = 0 := om9
  have hk := (t.inner hx h0).1.2.1
  have h1 := (kids_all (t.kids hx) h0).1
  have hl : (kidsD l x).length = x.n.kids.length := by rw [h1, kidsF_len]
  have key : ∀ y ∈ kidsD l x, 2 ^ (n + 1) ≤ (preF l n y).length + 1 := fun y hy => by
   have := t.kid_lvl hx hy
   exact ih y this.1 om9
  rw [preF, List.length_cons]
  match hL : kidsD l x with
  | [] => rw [hL] at hl; simp at hl; omega
  | [a] => rw [hL] at hl; simp at hl; omega
  | a :: b :: R =>
   rw [hL] at key
   have ha := key a (by simp)
   have hb := key b (by simp)
   rw [List.flatMap_cons, List.flatMap_cons, List.length_append, List.length_append]
   have : 2 ^ (n + 1 + 1) = 2 ^ (n + 1) + 2 ^ (n + 1) := by rw [Nat.pow_succ]; omega
   omega
theorem Tree.height (t : Tree c l ss) : (rootS l 0).n.level ≤ 11 := by
 have h1 := t.pre_perm (rootS l 0).n.level.toNat [rootS l 0] ss (by exact t.fix) (fun x hx => hx) (fun x hx => by simp at hx; rw [hx])
 rw [List.flatMap_cons, List.flatMap_nil, List.append_nil] at h1
 have h2 := t.pre_len _ _ t.root rfl
 rw [← h1.length_eq, t.len] at h2
 have h3 := t.sml.1
 apply Classical.byContradiction
 intro hn
 have h4 : 2 ^ 13 ≤ 2 ^ ((rootS l 0).n.level.toNat + 1) := Nat.pow_le_pow_right om9 om9
 omega
theorem wayF_len (t : Tree c l ss) (k : Str) : ∀ (n : Nat) (x : Seat), x ∈ ss → x.n.level.toNat = n → (wayF l k n x).length = n + 1 := by
 intro n
 induction n with
 | zero => intro x _ _; rfl
 | succ n ih =>
  intro x hx hn
  have h0 : ¬ x.n.level = 0 := om9
  have ha := t.step (k := k) hx (stepW_1 h0)
  rw [way_cons (stepW_1 h0), List.length_cons, ih _ ha.1 om9]
theorem Tree.way_len (t : Tree c l ss) (k : Str) : (wayN l k).length ≤ 100 := by
 have h5 : (wayN l k).length = (rootS l 0).n.level.toNat + 1 := wayF_len t k _ (rootS l 0) t.root rfl
 have := t.height
 have := t.lvl t.root
 omega
def viewS (x : Seat) : List Pair := foldN (x.n.rows.filter fun p => x.s.has p.key) (clips x.s x.ms)
def leavesS (ss : List Seat) : List Seat := ss.filter fun x => decide (x.n.level = 0)
noncomputable def mapN (l : List Nd) : List Pair := match seatsN l 0 with | none => [] | some ss => (leavesS ss).flatMap viewS
theorem mapN_t (h : seatsN l 0 = some ss) : mapN l = (leavesS ss).flatMap viewS := by rw [mapN, h]
theorem Tree.rows (t : Tree c l ss) {x : Seat} (hx : x ∈ ss) : PairsR x.n.rows := by
 by_cases h0 : x.n.level = 0
 ·exact (t.leaf hx h0).2.2.1
 ·have := (t.inner hx h0).1.1
  rw [List.eq_nil_of_length_eq_zero this]
  intro i hi; simp at hi
theorem msgR_key {m : Msg} (h : m.R) : m.key.b.size ≤ 16 ∧ m.val.b.size ≤ 16 := ⟨h.1.2.1, h.1.2.2.1⟩
variable {c : Cfg} {l : List Nd} {ss : List Seat}
structure At (l : List Nd) (ss : List Seat) (k : Str) (x : Seat) (P : List Seat) (lv : Int) : Prop where
 mem : x ∈ ss
 way : wayN l k = P ++ wayF l k x.n.level.toNat x
 lv : lv < 0 ∨ lv = x.n.level + 1
theorem At.init (t : Tree c l ss) (k : Str) : At l ss k (rootS l 0) [] (-1) := ⟨t.root, rfl, .inl om9⟩
theorem At.last {k : Str} {x : Seat} {P : List Seat} {lv : Int} (h : At l ss k x P lv) (h0 : x.n.level ≤ 0) : wayN l k = P ++ [x] := by
 rw [h.way, show x.n.level.toNat = 0 by omega]; rfl
theorem Tree.right (t : Tree c l ss) {x : Seat} (hx : x ∈ ss) (h0 : ¬ x.n.level ≤ 0) : rightN x.n.pivots x.n.kids.length = true := (kids_all (t.kids hx) om9).2.2.1
theorem Tree.route (t : Tree c l ss) {x : Seat} (hx : x ∈ ss) (h0 : ¬ x.n.level ≤ 0) (k : Str) : routeN x.n.pivots k < x.n.kids.length := route_lt (t.right hx h0) k
theorem At.next (t : Tree c l ss) {k : Str} {x : Seat} {P : List Seat} {lv : Int} (h : At l ss k x P lv) (h0 : ¬ x.n.level ≤ 0) : At l ss k (kidSt l x (routeN x.n.pivots k)) (P ++ [x]) x.n.level := by
 have ha := t.at h.mem om9 (t.route h.mem h0 k)
 refine ⟨ha.1, ?_, .inr om9⟩
 rw [h.way, show x.n.level.toNat = (kidSt l x (routeN x.n.pivots k)).n.level.toNat + 1 by omega, way_cons (stepW_1 om9)]
 simp
theorem At.slot (t : Tree c l ss) {x : Seat} (hx : x ∈ ss) (h0 : ¬ x.n.level ≤ 0) (k : Str) : (kidSt l x (routeN x.n.pivots k)).n.slot = x.n.kids[routeN x.n.pivots k]'(t.route hx h0 k) := by
 have ha := t.at hx om9 (t.route hx h0 k)
 rw [ha.2.2.1]
 exact (getL_slot t.slot ha.2.1).1
theorem At.plen (t : Tree c l ss) {k : Str} {x : Seat} {P : List Seat} {lv : Int} (h : At l ss k x P lv) : P.length ≤ 100 := by
 have h1 := t.way_len k
 rw [h.way, List.length_append] at h1
 omega
theorem Tree.root0 (t : Tree c l ss) : (rootS l 0).n.slot = 0 := by
 rw [t.rootn]
 exact (getL_slot t.slot ⟨Int.le_refl 0, by have := t.pos; omega⟩).1
theorem Tree.way_pos (t : Tree c l ss) (k : Str) : 0 < (wayN l k).length := by
 have h := (t.leafOk k).last
 cases e : wayN l k with
 | nil => rw [e] at h; cases h
 | cons a b => simp
theorem Tree.last_at (t : Tree c l ss) (k : Str) {i : Nat} (h : i < (wayN l k).length) (hi : i + 1 = (wayN l k).length) : (wayN l k)[i] = leafS l k := by
 have h2 := (t.leafOk k).last
 rw [List.getLast?_eq_getElem?, show (wayN l k).length - 1 = i by omega, List.getElem?_eq_getElem h] at h2
 exact Option.some.inj h2
theorem Tree.last_n (t : Tree c l ss) (k : Str) {i : Nat} (h : i < ((wayN l k).map fun y : Seat => y.n).length) (hi : i + 1 = (wayN l k).length) : ((wayN l k).map fun y : Seat => y.n)[i] = (leafS l k).n := by
 rw [List.getElem_map, t.last_at k om9 hi]
theorem Tree.last_s (t : Tree c l ss) (k : Str) {i : Nat} (h : i < ((wayN l k).map fun y : Seat => y.s).length) (hi : i + 1 = (wayN l k).length) : ((wayN l k).map fun y : Seat => y.s)[i] = (leafS l k).s := by
 rw [List.getElem_map, t.last_at k om9 hi]
theorem sizes_len : ∀ {ms : List Msg}, (∀ m ∈ ms, m.R) → 4 * (ms.length : Int) ≤ sizesN ms
 | [], _ => by simp [sizesN]
 | m :: ms, h => by
  have h1 := sizes_len (ms := ms) (fun a ha => h a (List.mem_cons_of_mem _ ha))
  have h2 := size_36 (msgR_key (h m (by simp)))
  rw [sizes_cons, List.length_cons]; omega
variable {c : Cfg} {l : List Nd} {ss : List Seat}
theorem route_mono {P : List Str} {p q : Str} (h : p.lt q = false) : routeN P q ≤ routeN P p := by
 unfold routeN
 rw [← List.countP_eq_length_filter, ← List.countP_eq_length_filter]
 refine List.countP_mono_left fun x _ hx => ?_
 simp only [Bool.not_eq_true'] at hx ⊢
 exact Str.le_trans hx h
theorem filter_split {M : List Pair} (hM : Srt M) (p : Str → Bool) (h : Str) : M.filter (fun a => p a.key) = M.filter (fun a => p a.key && a.key.lt h) ++ M.filter (fun a => p a.key && !a.key.lt h) := by
 induction M with
 | nil => rfl
 | cons a M ih =>
  have hp := List.pairwise_cons.1 hM
  rw [List.filter_cons, List.filter_cons, List.filter_cons, ih hp.2]
  cases hpa : p a.key
  ·simp
  ·cases hl : a.key.lt h
   ·have : M.filter (fun a => p a.key && a.key.lt h) = [] := List.filter_eq_nil_iff.2 fun b hb hh => by
     have hab := hp.1 b hb
     simp only [Bool.and_eq_true] at hh
     have := Str.lt_trans hab hh.2
     rw [hl] at this; cases this
    rw [this]; simp
   ·simp
structure SwOk (l : List Nd) (x : Span) (n : Int) (rest : Span) (out : List Pair) : Prop where
 eq : out ++ (mapN l).filter (fun p => rest.has p.key) = (mapN l).filter (fun p => x.has p.key)
 len : out = [] ∨ (out.length : Int) < n
structure Leg (l : List Nd) (z : Seat) (rest s : Span) : Prop where
 se : s = rest.meet z.s
 lo : s.has rest.lo = true
def oneS (n : Nd) : Seat := ⟨n, Span.all, []⟩
theorem one_slot {n : Nd} (hs : n.slot = 0) (hseen : n.seen ≤ 1099511627776) : SlotsP [n] := fun i h => by
 have : i = 0 := by simp at h; omega
 subst this
 exact ⟨by simpa using hs, hseen⟩
theorem one_seats {n : Nd} (h0 : n.level = 0) (hs : n.slot = 0) (hseen : n.seen ≤ 1099511627776) : seatsN [n] 0 = some [oneS n] := by
 have hf : findN [n] 0 = (n, true) := find_at (one_slot hs hseen) (i := 0) (by simp)
 unfold seatsN
 rw [if_pos (by rw [hf])]
 have hr : rootS [n] 0 = oneS n := by unfold rootS oneS; rw [hf]
 rw [hr]
 show seatsF [n] (2 + 1) 0 [oneS n] = _
 rw [seatsF_some (l := [n]) (f := 2) (i := 0) (out := [oneS n]) (ks := []) (by simp) (by simp) (kidsO_0 h0)]
 exact seatsF_done (l := [n]) (f := 1) (i := 1) (out := [oneS n]) (by simp)
theorem tree_one {c : Cfg} {n : Nd} (hc : CfgR c) (h0 : n.level = 0) (hs : n.slot = 0) (hseen : n.seen ≤ 1099511627776) (hR : n.R c.fan c.leaf c.bud) (ht : n.top = true) (hS : NdS n) : Tree c [n] [oneS n] := by
 have hl := hR.2.2.2
 rw [if_pos h0] at hl
 have ht2 := hR.2.1 ht
 have hz := hl.1
 have hk := hc.2.2.2.1
 refine ⟨hc, by simp, ⟨by simp, fun m hm => by simp at hm; subst hm; exact hS⟩, one_slot hs hseen, one_seats h0 hs hseen, ⟨⟨rfl, fun i h => ?_⟩, fun i h => ?_, by simp; omega⟩, fun i h => ?_⟩
 ·have : i = 0 := by simp at h; omega
  subst this
  simp [slotS, oneS]
 ·have : i = 0 := by simp at h; omega
  subst this
  rw [wantN_f (by simp)]
  exact ht2.2
 ·have : i = 0 := by simp at h; omega
  subst this
  refine ⟨hR, ⟨⟨ht, ht2.1⟩, fun i h => all_has _, fun i h => ?_, fun i h => ?_⟩, by show n.slot < c.slots; omega, fun j h => ?_⟩
  ·have h : i < n.pivots.length := h
   omega
  ·have h : i < n.msgs.length := h
   omega
  ·have h : j < ([] : List Msg).length := h
   simp at h
section
variable {c : Cfg} {l : List Nd} {ss : List Seat}
structure Free (l : List Nd) (n : Nat) (x : Seat) (mt : List (Int × Bool)) : Prop where
 none : ∀ y ∈ preF l n x, getM mt y.n.slot = none
 nd : ((preF l n x).map fun y : Seat => y.n.slot).Nodup
structure FreeK (l : List Nd) (n : Nat) (x : Seat) (j : Nat) (mt : List (Int × Bool)) : Prop where
 none : ∀ y ∈ ((kidsD l x).drop j).flatMap (preF l n), getM mt y.n.slot = none
 nd : ((((kidsD l x).drop j).flatMap (preF l n)).map fun y : Seat => y.n.slot).Nodup
theorem Tree.kidsD_at (t : Tree c l ss) {x : Seat} (hx : x ∈ ss) (h0 : ¬ x.n.level = 0) : (kidsD l x).length = x.n.kids.length ∧ ∀ j (h : j < (kidsD l x).length), (kidsD l x)[j] = kidSt l x j := by
 have h1 := (kids_all (t.kids hx) h0).1
 refine ⟨by rw [h1, kidsF_len], fun j h => ?_⟩
 simp only [h1, kidsF, List.getElem_map, List.getElem_range]
end
section
variable {α : Type} {E : Env} {f : Fr} {G : GH} {M Mk Ms Mr : MH} {ops rest : List Oper} {q : Bool} {K : Kt} {d : Nat} {ty : TypeId} {pos : String} {aft : Array Edge} {t et : TypeId} {x y kk : Operand} {b : Nat} {k : Int} {m : List (Int × α)} {V : VEnc α}
theorem W.lookO {z0 : Value} {z : α} (ht : mapIK E.P t = some et) (hz : zvK E.P et = some z0) (hzz : V.R G z0 z) (hx : ev f x = .map (some b)) (hk : ev f kk = .int .i64 k) (hm : MpR V b G m Ms) (hp : (Ms ++ Mr).Perm M)
  (h : ∀ v, V.R G v ((getM m k).getD z) → W E ops.toArray q rest (upd f d v) G M K) (hd : Nat.blt d E.n = true := by rfl) :
  W E ops.toArray q (⟨some d, .lookup t x kk false, ty, pos, aft, none⟩ :: rest) f G M K := by
 obtain ⟨v, h1, h2⟩ := look_own (E := E) (f := f) (M := M) (d := d) (ty := ty) (pos := pos) (aft := aft) (ok := false) ht hz hzz hx hk hm hp
 exact W.ok h2 (h v h1) hd
end
theorem kidsD_some {l : List Nd} {x : Seat} (h : (kidsO l x).isSome = true) : kidsO l x = some (kidsD l x) := by
 unfold kidsD
 cases e : kidsO l x with
 | none => rw [e] at h; cases h
 | some y => rfl
theorem kids_low {l : List Nd} {x y : Seat} (h : (kidsO l x).isSome = true) (hy : y ∈ kidsD l x) : y.n.level < x.n.level := by
 by_cases h0 : x.n.level = 0
 ·rw [kids_leaf h0] at hy; cases hy
 ·obtain ⟨h1, h2, h3, h4⟩ := kids_all h h0
  rw [h1] at hy
  obtain ⟨j, hj, rfl⟩ := List.mem_map.1 hy
  have := h4 j (List.mem_range.1 hj)
  unfold kidOk at this
  rw [Bool.and_eq_true, decide_eq_true_eq] at this
  have e : (kidSt l x j).n.level = x.n.level - 1 := this.2
  omega
theorem seats_of {l : List Nd} {root : Int} {T : List Seat} (h1 : (findN l root).2 = true) (h2 : T = rootS l root :: T.flatMap (kidsD l)) (h3 : ∀ x ∈ T, (kidsO l x).isSome = true) (h4 : T.length ≤ l.length) : seatsN l root = some T := by
 have key : ∀ (d i f : Nat), i + d = T.length → d < f → i ≤ (rootS l root :: (T.take i).flatMap (kidsD l)).length → seatsF l f i (rootS l root :: (T.take i).flatMap (kidsD l)) = some T := by
  intro d
  induction d with
  | zero =>
   intro i f hi hf hl
   rw [List.take_of_length_le om9, ← h2]
   obtain ⟨f, rfl⟩ : ∃ q, f = q + 1 := ⟨f - 1, om9⟩
   exact seatsF_done om9
  | succ d ih =>
   intro i f hi hf hl
   obtain ⟨f, rfl⟩ : ∃ q, f = q + 1 := ⟨f - 1, om9⟩
   have hT : T = (rootS l root :: (T.take i).flatMap (kidsD l)) ++ (T.drop i).flatMap (kidsD l) := by
    rw [List.cons_append, ← List.flatMap_append, List.take_append_drop]; exact h2
   obtain ⟨O, hO⟩ : ∃ O, O = rootS l root :: (T.take i).flatMap (kidsD l) := ⟨_, rfl⟩
   rw [← hO] at hl hT ⊢
   have hTl := congrArg List.length hT
   rw [List.length_append] at hTl
   by_cases hlt : i < O.length
   ·have e : O[i] = T[i]'om9 := by
     have h5 := List.getElem_of_eq hT (show i < T.length by omega)
     rw [h5, List.getElem_append_left hlt]
    have hk : kidsO l O[i] = some (kidsD l (T[i]'om9)) := by rw [e]; exact kidsD_some (h3 _ (List.getElem_mem _))
    rw [seatsF_some hlt om9 hk]
    have e2 : O ++ kidsD l (T[i]'om9) = rootS l root :: (T.take (i + 1)).flatMap (kidsD l) := by
     rw [hO, List.take_succ_eq_append_getElem om9, List.flatMap_append]; simp
    rw [e2]
    exact ih (i + 1) f om9 om9 (by rw [← e2, List.length_append]; omega)
   ·exfalso
    have hd : T.drop i = (T.drop i).flatMap (kidsD l) := by
     have h5 := congrArg (List.drop i) hT
     rw [List.drop_append, List.drop_of_length_le (l := O) om9, List.nil_append, show i - O.length = 0 by omega, List.drop_zero] at h5
     exact h5
    have h6 := fix_nil2 hd fun x hx y hy => kids_low (h3 x (List.mem_of_mem_drop hx)) hy
    have h7 := congrArg List.length h6
    rw [List.length_drop] at h7
    simp at h7
    omega
 unfold seatsN
 rw [if_pos h1]
 have := key T.length 0 (l.length + 2) om9 om9 (Nat.zero_le _)
 simpa using this
abbrev Key9 := Int × Int × Int
def Seat.key (x : Seat) : Key9 := (x.n.slot, x.n.level, x.n.right)
def LkK : List Key9 → Prop
 | [] => True
 | [x] => x.2.2 = -1
 | x :: y :: T => x.2.2 = (if y.2.1 = x.2.1 then y.1 else -1) ∧ LkK (y :: T)
theorem want_succ (x : Seat) (L : List Seat) (i : Nat) : wantN (x :: L) (i + 1) = wantN L i := by
 unfold wantN
 simp
theorem linked_iff : ∀ ss, LinkedP ss ↔ LkK (ss.map Seat.key)
 | [] => ⟨fun _ => trivial, fun _ i h => absurd h (Nat.not_lt_zero _)⟩
 | [x] => by
  constructor
  ·intro h
   have := h 0 (by simp)
   rw [wantN_f (by simp)] at this
   exact this
  ·intro h i hi
   have : i = 0 := by simp at hi; exact hi
   subst this
   rw [wantN_f (by simp)]
   exact h
 | x :: y :: T => by
  have ih := linked_iff (y :: T)
  have e : wantN (x :: y :: T) 0 = if y.n.level = x.n.level then y.n.slot else -1 := by
   unfold wantN
   simp
  constructor
  ·intro h
   refine ⟨?_, ih.1 fun i hi => ?_⟩
   ·have := h 0 (by simp)
    rw [e] at this
    exact this
   ·have := h (i + 1) (by simpa using hi)
    rw [want_succ] at this
    exact this
  ·intro h i hi
   cases i with
   | zero => rw [e]; exact h.1
   | succ i => rw [want_succ]; exact ih.2 h.2 i (by simpa using hi)
theorem lk_part {s v r y : Int} : ∀ (P S : List Key9), LkK (P ++ (s, v, r) :: S) → LkK (P ++ (s, v, y) :: (y, v, r) :: S)
 | [], [], h => ⟨(if_pos rfl).symm, h⟩
 | [], q :: S, h => ⟨(if_pos rfl).symm, h.1, h.2⟩
 | [p], S, h => by
  have h : p.2.2 = (if v = p.2.1 then s else -1) ∧ LkK ([] ++ (s, v, r) :: S) := h
  exact ⟨h.1, lk_part [] S h.2⟩
 | p :: q :: P, S, h => by
  have h : p.2.2 = (if q.2.1 = p.2.1 then q.1 else -1) ∧ LkK ((q :: P) ++ (s, v, r) :: S) := h
  exact ⟨h.1, lk_part (q :: P) S h.2⟩
theorem lk_head {s s' v r : Int} : ∀ (S : List Key9), LkK ((s, v, r) :: S) → LkK ((s', v, r) :: S)
 | [], h => h
 | q :: S, h => ⟨h.1, h.2⟩
theorem lk_lift {s v x y : Int} {S : List Key9} (h : LkK ((s, v, -1) :: S)) : LkK ((s, v + 1, -1) :: (x, v, y) :: (y, v, -1) :: S) :=
 ⟨(if_neg (by show ¬ v = v + 1; omega)).symm, (if_pos rfl).symm, lk_head S h⟩
theorem once_of {l : List Nd} {T : List Seat} (hs : SlotsP l) (hp : (T.map fun x : Seat => x.n.slot).Perm (l.map fun n : Nd => n.slot)) : OnceP l T := by
 refine ⟨by simpa using hp.length_eq.symm, fun i h => ?_⟩
 have h1 := (List.Perm.filter (fun q : Int => decide (q = l[i].slot)) hp).length_eq
 rw [filter_map9, filter_map9, List.length_map, List.length_map] at h1
 have h2 : (l.filter fun n => decide (n.slot = l[i].slot)).length = 1 := by
  have := atS_all hs l[i].slot
  unfold atS at this
  rw [this, (hs i h).1, dif_pos ⟨om9, om9, om9⟩]
  rfl
 rw [← h2, ← h1]; rfl
theorem slots_nd {l : List Nd} (hs : SlotsP l) : (l.map fun n : Nd => n.slot).Nodup := by
 refine List.pairwise_iff_getElem.2 fun i j hi hj hij he => ?_
 rw [List.getElem_map, List.getElem_map] at he
 have h3 := (hs i (by simpa using hi)).1
 have h4 := (hs j (by simpa using hj)).1
 omega
variable {c : Cfg} {l : List Nd} {ss : List Seat}
theorem Tree.perm_s (t : Tree c l ss) : (ss.map fun x : Seat => x.n.slot).Perm (l.map fun n : Nd => n.slot) := by
 have := t.perm.map fun n : Nd => n.slot
 rwa [List.map_map] at this
theorem Tree.nodup_s (t : Tree c l ss) : (ss.map fun x : Seat => x.n.slot).Nodup := (t.perm_s.nodup_iff).2 (slots_nd t.slot)
theorem uniq_of : ∀ {L : List Seat}, (L.map fun x : Seat => x.n.slot).Nodup → ∀ {x y : Seat}, x ∈ L → y ∈ L → x.n.slot = y.n.slot → x = y
 | [], _, _, _, hx, _, _ => by cases hx
 | a :: L, h, x, y, hx, hy, e => by
  rw [List.map_cons, List.nodup_cons] at h
  rcases List.mem_cons.1 hx with e1 | h1
  ·rcases List.mem_cons.1 hy with e2 | h2
   ·rw [e1, e2]
   ·exact absurd (List.mem_map.2 ⟨y, h2, by rw [← e1]; exact e.symm⟩) h.1
  ·rcases List.mem_cons.1 hy with e2 | h2
   ·exact absurd (List.mem_map.2 ⟨x, h1, by rw [← e2]; exact e⟩) h.1
   ·exact uniq_of h.2 h1 h2 e
theorem Tree.uniq (t : Tree c l ss) {x y : Seat} (hx : x ∈ ss) (hy : y ∈ ss) (e : x.n.slot = y.n.slot) : x = y := uniq_of t.nodup_s hx hy e
theorem flat_uniq {f : Seat → List Seat} : ∀ {L : List Seat}, ((L.flatMap f).map fun x : Seat => x.n.slot).Nodup → ∀ {x z y y' : Seat}, x ∈ L → z ∈ L → y ∈ f x → y' ∈ f z → y.n.slot = y'.n.slot → x = z
 | [], _, _, _, _, _, hx, _, _, _, _ => by cases hx
 | a :: L, h, x, z, y, y', hx, hz, hy, hy', e => by
  rw [List.flatMap_cons, List.map_append, List.nodup_append] at h
  obtain ⟨h1, h2, h3⟩ := h
  rcases List.mem_cons.1 hx with e1 | g1
  ·rcases List.mem_cons.1 hz with e2 | g2
   ·rw [e1, e2]
   ·exact absurd e (h3 _ (List.mem_map.2 ⟨y, by rw [← e1]; exact hy, rfl⟩) _ (List.mem_map.2 ⟨y', List.mem_flatMap.2 ⟨z, g2, hy'⟩, rfl⟩))
  ·rcases List.mem_cons.1 hz with e2 | g2
   ·exact absurd e.symm (h3 _ (List.mem_map.2 ⟨y', by rw [← e2]; exact hy', rfl⟩) _ (List.mem_map.2 ⟨y, List.mem_flatMap.2 ⟨x, g1, hy⟩, rfl⟩))
   ·exact flat_uniq h2 g1 g2 hy hy' e
theorem flat_nd {f : Seat → List Seat} : ∀ {L : List Seat}, ((L.flatMap f).map fun x : Seat => x.n.slot).Nodup → ∀ {x : Seat}, x ∈ L → ((f x).map fun x : Seat => x.n.slot).Nodup
 | [], _, _, hx => by cases hx
 | a :: L, h, x, hx => by
  rw [List.flatMap_cons, List.map_append, List.nodup_append] at h
  rcases List.mem_cons.1 hx with rfl | hx
  ·exact h.1
  ·exact flat_nd h.2.1 hx
theorem Tree.tail_nd (t : Tree c l ss) : ((ss.flatMap (kidsD l)).map fun x : Seat => x.n.slot).Nodup := by
 have h := t.nodup_s
 rw [t.fix, List.map_cons, List.nodup_cons] at h
 exact h.2
theorem Tree.root_kid (t : Tree c l ss) {x y : Seat} (hx : x ∈ ss) (hy : y ∈ kidsD l x) : y.n.slot ≠ (rootS l 0).n.slot := fun e => by
 have h := t.nodup_s
 rw [t.fix, List.map_cons, List.nodup_cons] at h
 exact h.1 (List.mem_map.2 ⟨y, List.mem_flatMap.2 ⟨x, hx, hy⟩, e⟩)
theorem Tree.parent (t : Tree c l ss) {x z y y' : Seat} (hx : x ∈ ss) (hz : z ∈ ss) (hy : y ∈ kidsD l x) (hy' : y' ∈ kidsD l z) (e : y.n.slot = y'.n.slot) : x = z := flat_uniq t.tail_nd hx hz hy hy' e
theorem Tree.kid_nd (t : Tree c l ss) {x : Seat} (hx : x ∈ ss) {i j : Nat} (hi : i < (kidsD l x).length) (hj : j < (kidsD l x).length) (e : (kidsD l x)[i].n.slot = (kidsD l x)[j].n.slot) : i = j := by
 have h := flat_nd t.tail_nd hx
 have h2 := List.pairwise_iff_getElem.1 h
 simp only [List.length_map, List.getElem_map] at h2
 rcases Nat.lt_trichotomy i j with h3 | h3 | h3
 ·exact absurd e (h2 i j hi hj h3)
 ·exact h3
 ·exact absurd e.symm (h2 j i hj hi h3)
theorem tree_mk (hc : CfgR c) (hpos : 0 < l.length) (hsml : Sml l) (hs : SlotsP l) (hfix : ss = rootS l 0 :: ss.flatMap (kidsD l)) (hk : ∀ x ∈ ss, (kidsO l x).isSome = true)
  (hp : (ss.map fun x : Seat => x.n.slot).Perm (l.map fun n : Nd => n.slot)) (hlk : LkK (ss.map Seat.key)) (hlen : (l.length : Int) ≤ c.slots) (hseat : ∀ x ∈ ss, SeatP c x) : Tree c l ss :=
 ⟨hc, hpos, hsml, hs, seats_of (by have := find_at hs hpos; rw [show ((0 : Nat) : Int) = 0 from rfl] at this; rw [this]) hfix hk (by have := hp.length_eq; simp at this; omega),
  ⟨⟨once_of hs hp, (linked_iff ss).2 hlk, hlen⟩, fun i h => hseat _ (List.getElem_mem h)⟩⟩
theorem Tree.two (t : Tree c l ss) {x : Seat} (hx : x ∈ ss) (s : Span) : mergeN [clips s x.n.msgs, clips s x.ms] = clips s x.n.msgs ++ clips s x.ms ∧ Rst (clips s x.n.msgs ++ clips s x.ms) := by
 obtain ⟨h1, _, h3⟩ := t.msgs hx
 have hs := (t.seat hx).2.2.2
 refine merge_two (clips_rst h1) (clips_rst (t.rst x hx)) fun a ha b hb => ?_
 obtain ⟨a', ha', e1⟩ := clips_stamp ha
 obtain ⟨b', hb', e2⟩ := clips_stamp hb
 have := h3 a' ha'
 obtain ⟨i, hi, rfl⟩ := List.getElem_of_mem hb'
 have := hs i hi
 omega
theorem kidSt_ext {l l' : List Nd} {x y : Seat} {i j : Nat} (hn : (findN l (x.n.kids.getD i 0)).1 = (findN l' (y.n.kids.getD j 0)).1)
  (hs : ∀ q, (x.s.meet (rangeN x.n.pivots (i : Int))).has q = (y.s.meet (rangeN y.n.pivots (j : Int))).has q)
  (hm : ∀ s : Span, s = x.s.meet (rangeN x.n.pivots (i : Int)) → mergeN [clips s x.n.msgs, clips s x.ms] = mergeN [clips s y.n.msgs, clips s y.ms]) : kidSt l x i = kidSt l' y j := by
 have e : x.s.meet (rangeN x.n.pivots (i : Int)) = y.s.meet (rangeN y.n.pivots (j : Int)) := by
  rw [← meet_norm x.s, ← meet_norm y.s]
  exact norm_ext hs
 have h := hm _ rfl
 show (⟨_, _, _⟩ : Seat) = ⟨_, _, _⟩
 rw [hn, h, e]
end Go.Fw
