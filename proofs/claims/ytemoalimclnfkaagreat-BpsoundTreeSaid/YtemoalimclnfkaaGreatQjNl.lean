/- Sound trees: what their seats are. Plain Lean; nothing of the program is named here. No condition. -/
import Derived.Test.YtemoalimclnfkaaGreatQjNk
set_option linter.unusedVariables false
set_option linter.unusedSimpArgs false
set_option linter.unnecessarySimpa false

namespace Go.Fw
open Go Go.RowKit
def wantN (ss : List Seat) (i : Nat) : Int := if i + 1 < ss.length ∧ (ss.getD (i + 1) default).n.level = (ss.getD i default).n.level then (ss.getD (i + 1) default).n.slot else -1
def LinkedP (ss : List Seat) : Prop := ∀ i (h : i < ss.length), ss[i].n.right = wantN ss i
instance (ss : List Seat) : Decidable (LinkedP ss) := by unfold LinkedP; infer_instance
def PlacedP (x : Seat) : Prop := (x.n.top = x.s.opn ∧ x.n.high = x.s.hi) ∧ (∀ i (h : i < x.n.rows.length), x.s.has x.n.rows[i].key = true) ∧ (∀ i (h : i < x.n.pivots.length), x.s.has x.n.pivots[i] = true ∧ x.n.pivots[i] ≠ x.s.lo) ∧ ∀ i (h : i < x.n.msgs.length), x.n.msgs[i].span.meet x.s = x.n.msgs[i].span.norm
instance (x : Seat) : Decidable (PlacedP x) := by unfold PlacedP; infer_instance
def slotS (ss : List Seat) (i : Int) : List Seat := ss.filter fun x => decide (x.n.slot = i)
def OnceP (l : List Nd) (ss : List Seat) : Prop := l.length = ss.length ∧ ∀ i (h : i < l.length), (slotS ss l[i].slot).length = 1
instance (l : List Nd) (ss : List Seat) : Decidable (OnceP l ss) := by unfold OnceP; infer_instance
def StampP (x : Seat) : Prop := ∀ j (h : j < x.ms.length), x.n.seen < x.ms[j].stamp
instance (x : Seat) : Decidable (StampP x) := by unfold StampP; infer_instance
def SeatP (c : Cfg) (x : Seat) : Prop := x.n.R c.fan c.leaf c.bud ∧ PlacedP x ∧ x.n.slot < c.slots ∧ StampP x
instance (c : Cfg) (x : Seat) : Decidable (SeatP c x) := by unfold SeatP; infer_instance
def SoundQ (c : Cfg) (l : List Nd) (ss : List Seat) : Prop := (OnceP l ss ∧ LinkedP ss ∧ (l.length : Int) ≤ c.slots) ∧ ∀ i (h : i < ss.length), SeatP c ss[i]
instance (c : Cfg) (l : List Nd) (ss : List Seat) : Decidable (SoundQ c l ss) := by unfold SoundQ; infer_instance
noncomputable def soundN (c : Cfg) (l : List Nd) : Bool := match seatsN l 0 with | none => false | some ss => decide (SoundQ c l ss)
def SlotsP (l : List Nd) : Prop := ∀ i (h : i < l.length), l[i].slot = (i : Int) ∧ l[i].seen ≤ 1099511627776
instance (l : List Nd) : Decidable (SlotsP l) := by unfold SlotsP; infer_instance
noncomputable def treeN (c : Cfg) (l : List Nd) (most : Int) : Bool := decide (CfgR c ∧ 0 < l.length ∧ Light l most 2000 ∧ SlotsP l) && soundN c l
theorem soundN_t {c : Cfg} {l : List Nd} {ss : List Seat} (h : seatsN l 0 = some ss) : soundN c l = decide (SoundQ c l ss) := by rw [soundN, h]
theorem wantN_f {ss : List Seat} {i : Nat} (h : ¬ i + 1 < ss.length) : wantN ss i = -1 := by
 unfold wantN
 exact if_neg fun h2 => h h2.1
theorem seatsF_fix {l : List Nd} {r : Seat} : ∀ (f i : Nat) (out ss : List Seat), seatsF l f i out = some ss → out = r :: (out.take i).flatMap (kidsD l) → (∀ x ∈ out.take i, (kidsO l x).isSome = true) →
  ss = r :: ss.flatMap (kidsD l) ∧ ∀ x ∈ ss, (kidsO l x).isSome = true := by
 intro f
 induction f with
 | zero => intro i out ss h; cases h
 | succ f ih =>
  intro i out ss h he hs
  by_cases hi : i < out.length
  ·by_cases hl : l.length < out.length
   ·rw [seatsF_long hi hl] at h; cases h
   ·cases hk : kidsO l out[i] with
    | none => rw [seatsF_none hi hk] at h; cases h
    | some ks =>
     rw [seatsF_some hi hl hk] at h
     have e : (out ++ ks).take (i + 1) = out.take i ++ [out[i]] := by
      rw [List.take_append_of_le_length om9, List.take_succ_eq_append_getElem hi]
     refine ih _ _ _ h ?_ ?_
     ·rw [e, List.flatMap_append, ← List.cons_append, ← he]
      congr 1
      simp [kidsD, hk]
     ·intro x hx
      rw [e, List.mem_append, List.mem_singleton] at hx
      rcases hx with hx | rfl
      ·exact hs x hx
      ·rw [hk]; rfl
  ·rw [seatsF_done hi] at h
   cases h
   rw [List.take_of_length_le om9] at he hs
   exact ⟨he, hs⟩
theorem seats_fix {l : List Nd} {root : Int} {ss : List Seat} (h : seatsN l root = some ss) : (findN l root).2 = true ∧ ss = rootS l root :: ss.flatMap (kidsD l) ∧ ∀ x ∈ ss, (kidsO l x).isSome = true := by
 unfold seatsN at h
 split at h
 ·rename_i hf
  exact ⟨hf, seatsF_fix _ _ _ _ h rfl (fun x hx => by simp at hx)⟩
 ·cases h
theorem kids_all {l : List Nd} {x : Seat} (h : (kidsO l x).isSome = true) (h0 : ¬ x.n.level = 0) : kidsD l x = kidsF l x x.n.kids.length ∧ 0 < x.n.level ∧ rightN x.n.pivots x.n.kids.length = true ∧ ∀ j, j < x.n.kids.length → kidOk l x j = true := by
 unfold kidsD kidsO at *
 rw [if_neg h0] at h ⊢
 split at h
 ·cases h
 ·rename_i h1
  rw [if_neg h1]
  split at h
  ·rename_i h2
   rw [if_pos h2]
   refine ⟨rfl, om9, by simpa using fun h => h1 (.inr h), fun j hj => List.all_eq_true.1 h2 j (List.mem_range.2 hj)⟩
  ·cases h
theorem kids_leaf {l : List Nd} {x : Seat} (h0 : x.n.level = 0) : kidsD l x = [] := by rw [kidsD, kidsO_0 h0]; rfl
theorem atS_take {l : List Nd} (h : SlotsP l) (i : Int) : ∀ k, k ≤ l.length → atS (l.take k) i = if h : 0 ≤ i ∧ i < k ∧ i.toNat < l.length then [l[i.toNat]] else []
 | 0, _ => by rw [dif_neg om9]; rfl
 | k + 1, hk => by
  have ih := atS_take h i k om9
  have hs := (h k om9).1
  by_cases e : l[k].slot = i
  ·rw [atS_t om9 e, ih, dif_neg om9, dif_pos ⟨om9, om9, om9⟩, List.nil_append]
   congr 2; omega
  ·rw [atS_f om9 e, ih]
   by_cases e2 : 0 ≤ i ∧ i < k ∧ i.toNat < l.length
   ·rw [dif_pos e2, dif_pos ⟨e2.1, om9, e2.2.2⟩]
   ·rw [dif_neg e2, dif_neg om9]
theorem atS_all {l : List Nd} (h : SlotsP l) (i : Int) : atS l i = if h : 0 ≤ i ∧ i < l.length ∧ i.toNat < l.length then [l[i.toNat]] else [] := by
 have := atS_take h i l.length (Nat.le_refl _)
 rwa [List.take_length] at this
theorem find_at {l : List Nd} (h : SlotsP l) {i : Nat} (hi : i < l.length) : findN l i = (l[i], true) := by
 unfold findN
 rw [atS_all h, dif_pos ⟨om9, om9, om9⟩]
 simp
theorem find_no {l : List Nd} (h : SlotsP l) {i : Int} (hi : ¬ (0 ≤ i ∧ i < l.length)) : findN l i = (Nd.zero, false) := by
 unfold findN
 rw [atS_all h, dif_neg om9]
 rfl
theorem find_eq {l : List Nd} (h : SlotsP l) (i : Int) : findN l i = (getL l i, decide (0 ≤ i ∧ i < l.length)) := by
 by_cases hi : 0 ≤ i ∧ i < l.length
 ·obtain ⟨k, rfl⟩ : ∃ k : Nat, i = k := ⟨i.toNat, om9⟩
  rw [find_at h om9, getL_at om9, decide_eq_true hi]
 ·rw [find_no h hi, decide_eq_false hi]
  congr 1
  unfold getL
  split
  ·rw [List.getD_eq_getElem?_getD, List.getElem?_eq_none om9]; rfl
  ·rfl
structure Tree (c : Cfg) (l : List Nd) (ss : List Seat) : Prop where
 cfg : CfgR c
 pos : 0 < l.length
 sml : Sml l
 slot : SlotsP l
 sts : seatsN l 0 = some ss
 q : SoundQ c l ss
variable {c : Cfg} {l : List Nd} {ss : List Seat}
theorem Tree.fix (t : Tree c l ss) : ss = rootS l 0 :: ss.flatMap (kidsD l) := (seats_fix t.sts).2.1
theorem Tree.root (t : Tree c l ss) : rootS l 0 ∈ ss := by rw [t.fix]; simp
theorem Tree.kids (t : Tree c l ss) {x : Seat} (hx : x ∈ ss) : (kidsO l x).isSome = true := (seats_fix t.sts).2.2 x hx
theorem Tree.kid (t : Tree c l ss) {x y : Seat} (hx : x ∈ ss) (hy : y ∈ kidsD l x) : y ∈ ss := by rw [t.fix]; exact List.mem_cons_of_mem _ (List.mem_flatMap.2 ⟨x, hx, hy⟩)
theorem Tree.seat (t : Tree c l ss) {x : Seat} (hx : x ∈ ss) : SeatP c x := by
 obtain ⟨i, hi, rfl⟩ := List.getElem_of_mem hx
 exact t.q.2 i hi
theorem Tree.lvl (t : Tree c l ss) {x : Seat} (hx : x ∈ ss) : 0 ≤ x.n.level := (t.seat hx).1.1.2.1
theorem Tree.rootn (t : Tree c l ss) : (rootS l 0).n = getL l 0 := by
 show (findN l 0).1 = _
 rw [find_eq t.slot]
theorem Tree.at (t : Tree c l ss) {x : Seat} (hx : x ∈ ss) (h0 : ¬ x.n.level = 0) {j : Nat} (hj : j < x.n.kids.length) :
  kidSt l x j ∈ ss ∧ (0 ≤ x.n.kids[j] ∧ x.n.kids[j] < l.length) ∧ (kidSt l x j).n = getL l x.n.kids[j] ∧ (kidSt l x j).n.level = x.n.level - 1 := by
 obtain ⟨h1, h2, h3, h4⟩ := kids_all (t.kids hx) h0
 have hk := h4 j hj
 unfold kidOk at hk
 have ej : x.n.kids.getD j 0 = x.n.kids[j] := by rw [List.getD_eq_getElem?_getD, List.getElem?_eq_getElem hj]; rfl
 rw [ej, find_eq t.slot, Bool.and_eq_true, decide_eq_true_eq, decide_eq_true_eq] at hk
 have en : (kidSt l x j).n = getL l x.n.kids[j] := by
  show (findN l (x.n.kids.getD j 0)).1 = _
  rw [ej, find_eq t.slot]
 refine ⟨t.kid hx ?_, hk.1, en, by rw [en]; exact hk.2⟩
 rw [h1]
 exact List.mem_map.2 ⟨j, List.mem_range.2 hj, rfl⟩
theorem getL_slot (h : SlotsP l) {i : Int} (hi : 0 ≤ i ∧ i < l.length) : (getL l i).slot = i ∧ getL l i ∈ l := by
 obtain ⟨k, rfl⟩ : ∃ k : Nat, i = k := ⟨i.toNat, om9⟩
 rw [getL_at om9]
 exact ⟨(h k om9).1, List.getElem_mem _⟩
theorem Tree.nd (t : Tree c l ss) {x : Seat} (hx : x ∈ ss) : ∃ h : 0 ≤ x.n.slot ∧ x.n.slot < l.length, x.n = getL l x.n.slot ∧ x.n ∈ l := by
 have key : ∃ i : Int, (0 ≤ i ∧ i < l.length) ∧ x.n = getL l i := by
  rw [t.fix] at hx
  rcases List.mem_cons.1 hx with rfl | hx
  ·exact ⟨0, ⟨om9, by have := t.pos; omega⟩, t.rootn⟩
  ·obtain ⟨y, hy, hk⟩ := List.mem_flatMap.1 hx
   by_cases h0 : y.n.level = 0
   ·rw [kids_leaf h0] at hk; cases hk
   ·rw [(kids_all (t.kids hy) h0).1] at hk
    obtain ⟨j, hj, rfl⟩ := List.mem_map.1 hk
    have := t.at hy h0 (List.mem_range.1 hj)
    exact ⟨_, this.2.1, this.2.2.1⟩
 obtain ⟨i, hi, e⟩ := key
 obtain ⟨h1, h2⟩ := getL_slot t.slot hi
 have hs : x.n.slot = i := by rw [e]; exact h1
 exact ⟨om9, by rw [hs]; exact e, by rw [e]; exact h2⟩
theorem Tree.perm (t : Tree c l ss) : (ss.map (·.n)).Perm l := by
 have hon := t.q.1.1
 have hnl : l.Nodup := by
  refine List.pairwise_iff_getElem.2 fun i j hi hj hij he => ?_
  have h1 := (t.slot i hi).1
  have h2 := (t.slot j hj).1
  rw [he] at h1
  omega
 refine (List.perm_ext_iff_of_nodup ?_ hnl).2 fun a => ⟨fun ha => ?_, fun ha => ?_⟩
 ·rw [List.nodup_iff_count]
  intro a
  by_cases ha : a ∈ ss.map (·.n)
  ·obtain ⟨x, hx, rfl⟩ := List.mem_map.1 ha
   obtain ⟨hs, hn, hm⟩ := t.nd hx
   have h1 := hon.2 x.n.slot.toNat om9
   rw [(t.slot _ _).1, show ((x.n.slot.toNat : Nat) : Int) = x.n.slot by omega] at h1
   rw [← h1, List.count_eq_countP, List.countP_map, slotS, ← List.countP_eq_length_filter]
   refine List.countP_mono_left fun y _ hy => ?_
   simp only [Function.comp, beq_iff_eq] at hy
   simp [hy]
  ·rw [List.count_eq_zero_of_not_mem ha]; omega
 ·obtain ⟨x, hx, rfl⟩ := List.mem_map.1 ha
  exact (t.nd hx).2.2
 ·obtain ⟨i, hi, rfl⟩ := List.getElem_of_mem ha
  have h1 := hon.2 i hi
  have h2 : ∃ x, x ∈ slotS ss l[i].slot := by
   cases h : slotS ss l[i].slot with
   | nil => rw [h] at h1; simp at h1
   | cons x _ => exact ⟨x, by simp⟩
  obtain ⟨x, hx⟩ := h2
  obtain ⟨hx1, hx2⟩ := List.mem_filter.1 hx
  have hx2 := of_decide_eq_true hx2
  refine List.mem_map.2 ⟨x, hx1, ?_⟩
  have hnd := (t.nd hx1).2.1
  rw [hnd, hx2, (t.slot i hi).1, getL_at hi]
theorem Tree.len (t : Tree c l ss) : ss.length = l.length := t.q.1.1.1.symm
theorem all_has (k : Str) : Span.all.has k = true := by
 show (!k.lt Str.nil && (true || _)) = true
 rw [Str.nil_le]; rfl
theorem kidSt_has {x : Seat} (h : rightN x.n.pivots x.n.kids.length = true) {j : Nat} (hj : j < x.n.kids.length) (k : Str) : (kidSt l x j).s.has k = (x.s.has k && decide (j = routeN x.n.pivots k)) := by
 obtain ⟨h1, h2⟩ := rightN_spec h
 show (Span.meet _ _).has k = _
 rw [meet_has, range_has h1 k om9]
theorem route_lt {x : Seat} (h : rightN x.n.pivots x.n.kids.length = true) (k : Str) : routeN x.n.pivots k < x.n.kids.length := by
 have := (rightN_spec h).2
 have h2 : routeN x.n.pivots k ≤ x.n.pivots.length := List.length_filter_le _ _
 omega
theorem filter_one (b : Bool) (r : Nat) : ∀ n, (List.range n).filter (fun j => b && decide (j = r)) = if b = true ∧ r < n then [r] else []
 | 0 => by simp
 | n + 1 => by
  rw [List.range_succ, List.filter_append, filter_one b r n]
  cases b
  ·simp
  ·by_cases h : r < n
   ·rw [if_pos ⟨rfl, h⟩, if_pos ⟨rfl, om9⟩, List.filter_cons_of_neg (by simp; omega)]; simp
   ·rw [if_neg (by simp; omega)]
    by_cases h2 : r = n
    ·subst h2; rw [if_pos ⟨rfl, om9⟩, List.filter_cons_of_pos (by simp)]; simp
    ·rw [if_neg (by simp; omega), List.filter_cons_of_neg (by simp; omega)]; simp
noncomputable def stepW (l : List Nd) (k : Str) (x : Seat) : Option Seat := if x.n.level = 0 then none else some (kidSt l x (routeN x.n.pivots k))
theorem stepW_0 {k : Str} {x : Seat} (h : x.n.level = 0) : stepW l k x = none := if_pos h
theorem stepW_1 {k : Str} {x : Seat} (h : ¬ x.n.level = 0) : stepW l k x = some (kidSt l x (routeN x.n.pivots k)) := if_neg h
theorem filter_map9 {α β : Type} (p : β → Bool) (f : α → β) : ∀ (l : List α), (l.map f).filter p = (l.filter fun a => p (f a)).map f
 | [] => rfl
 | a :: l => by
  rw [List.map_cons, List.filter_cons, List.filter_cons, filter_map9 p f l]
  split <;> simp_all
theorem filter_congr9 {α : Type} {p q : α → Bool} {l : List α} (h : ∀ a ∈ l, p a = q a) : l.filter p = l.filter q := List.filter_congr h
theorem Tree.filt (t : Tree c l ss) (k : Str) {x : Seat} (hx : x ∈ ss) : ((kidsD l x).filter fun y => y.s.has k) = if x.s.has k = true then (stepW l k x).toList else [] := by
 by_cases h0 : x.n.level = 0
 ·rw [kids_leaf h0, stepW_0 h0]; simp
 ·obtain ⟨h1, h2, h3, h4⟩ := kids_all (t.kids hx) h0
  rw [h1, stepW_1 h0]
  unfold kidsF
  rw [filter_map9, filter_congr9 (q := fun j => x.s.has k && decide (j = routeN x.n.pivots k)) (fun j hj => kidSt_has h3 (List.mem_range.1 hj) k), filter_one]
  have := route_lt h3 k
  by_cases hk : x.s.has k = true
  ·rw [if_pos ⟨hk, this⟩, if_pos hk]; rfl
  ·rw [if_neg (fun h => hk h.1), if_neg hk]; rfl
def hasS (k : Str) (ss : List Seat) : List Seat := ss.filter fun y => y.s.has k
theorem Tree.has_fix (t : Tree c l ss) (k : Str) : hasS k ss = rootS l 0 :: (hasS k ss).filterMap (stepW l k) := by
 have key : ∀ (ts : List Seat), (∀ x ∈ ts, x ∈ ss) → hasS k (ts.flatMap (kidsD l)) = (hasS k ts).filterMap (stepW l k) := by
  intro ts
  induction ts with
  | nil => intro _; rfl
  | cons x ts ih =>
   intro h
   unfold hasS at *
   rw [List.flatMap_cons, List.filter_append, ih (fun y hy => h y (List.mem_cons_of_mem _ hy)), t.filt k (h x (by simp)), List.filter_cons]
   split
   ·rw [List.filterMap_cons]
    cases stepW l k x <;> rfl
   ·rfl
 have e := key ss (fun x hx => hx)
 rw [← e]
 conv => lhs; rw [t.fix]
 unfold hasS
 rw [List.filter_cons_of_pos (by exact all_has k)]
noncomputable def wayF (l : List Nd) (k : Str) : Nat → Seat → List Seat
 | 0, x => [x]
 | f + 1, x => x :: match stepW l k x with
  | none => []
  | some y => wayF l k f y
theorem max_lvl : ∀ (T : List Seat), T ≠ [] → ∃ m ∈ T, ∀ x ∈ T, x.n.level ≤ m.n.level
 | [], h => absurd rfl h
 | [x], _ => ⟨x, by simp, fun y hy => by simp at hy; subst hy; exact Int.le_refl _⟩
 | x :: y :: T, _ => by
  obtain ⟨m, hm, hx⟩ := max_lvl (y :: T) (by simp)
  by_cases h : m.n.level ≤ x.n.level
  ·exact ⟨x, by simp, fun z hz => by
    rcases List.mem_cons.1 hz with rfl | hz
    ·exact Int.le_refl _
    ·exact Int.le_trans (hx z hz) h⟩
  ·exact ⟨m, List.mem_cons_of_mem _ hm, fun z hz => by
    rcases List.mem_cons.1 hz with rfl | hz
    ·omega
    ·exact hx z hz⟩
theorem fix_nil {f : Seat → Option Seat} {T : List Seat} (h : T = T.filterMap f) (hf : ∀ x ∈ T, ∀ y, f x = some y → y.n.level < x.n.level) : T = [] := by
 apply Classical.byContradiction
 intro hn
 obtain ⟨m, hm, hx⟩ := max_lvl T hn
 have hm2 := hm
 rw [h] at hm2
 obtain ⟨x, hx1, hx2⟩ := List.mem_filterMap.1 hm2
 have := hf x hx1 m hx2
 have := hx x hx1
 omega
theorem fix_way {k : Str} : ∀ (n : Nat) (z : Seat) (T : List Seat), z.n.level.toNat = n → T = z :: T.filterMap (stepW l k) → (∀ x ∈ T, 0 ≤ x.n.level ∧ ∀ y, stepW l k x = some y → y.n.level = x.n.level - 1) → T = wayF l k n z := by
 intro n
 induction n with
 | zero =>
  intro z T hz h hf
  have hzT : z ∈ T := by rw [h]; simp
  have h0 : z.n.level = 0 := by have := (hf z hzT).1; omega
  cases T with
  | nil => cases hzT
  | cons a R =>
   have ea : a = z := (List.cons.inj h).1
   subst ea
   have hR : R = R.filterMap (stepW l k) := by
    have := (List.cons.inj h).2
    rw [List.filterMap_cons, stepW_0 h0] at this
    exact this
   rw [fix_nil hR (fun x hx y hy => by have := (hf x (List.mem_cons_of_mem _ hx)).2 y hy; omega)]
   rfl
 | succ n ih =>
  intro z T hz h hf
  have h0 : ¬ z.n.level = 0 := om9
  cases T with
  | nil => simp at h
  | cons a R =>
   have ea : a = z := (List.cons.inj h).1
   subst ea
   have hR := (List.cons.inj h).2
   rw [List.filterMap_cons, stepW_1 h0] at hR
   dsimp only at hR
   have hl := (hf a (by simp)).2 _ (stepW_1 h0)
   rw [wayF, stepW_1 h0]
   dsimp only
   rw [← ih _ R om9 hR (fun x hx => hf x (List.mem_cons_of_mem _ hx))]
noncomputable def wayN (l : List Nd) (k : Str) : List Seat := wayF l k (rootS l 0).n.level.toNat (rootS l 0)
theorem Tree.step (t : Tree c l ss) {k : Str} {x y : Seat} (hx : x ∈ ss) (h : stepW l k x = some y) : y ∈ ss ∧ y.n.level = x.n.level - 1 := by
 by_cases h0 : x.n.level = 0
 ·rw [stepW_0 h0] at h; cases h
 ·rw [stepW_1 h0] at h
  cases h
  have h3 := (kids_all (t.kids hx) h0).2.2.1
  have := t.at hx h0 (route_lt h3 k)
  exact ⟨this.1, this.2.2.2⟩
theorem Tree.way (t : Tree c l ss) (k : Str) : hasS k ss = wayN l k := by
 refine fix_way _ _ _ rfl (t.has_fix k) fun x hx => ?_
 have hx := (List.mem_filter.1 hx).1
 exact ⟨t.lvl hx, fun y hy => (t.step hx hy).2⟩
theorem way_cons {k : Str} {f : Nat} {x y : Seat} (h : stepW l k x = some y) : wayF l k (f + 1) x = x :: wayF l k f y := by rw [wayF, h]
theorem empty_iff {s : Span} : s.empty = true ↔ ∀ k, s.has k = false := by
 constructor
 ·intro h k
  have h1 : s.opn = false ∧ s.lo.lt s.hi = false := by simpa [Span.empty] using h
  unfold Span.has
  rw [h1.1, Bool.false_or, Bool.and_eq_false_iff]
  cases h2 : k.lt s.hi
  ·exact .inr rfl
  ·left
   cases h3 : k.lt s.lo
   ·have := Str.lt_of_le_of_lt h3 h2
    rw [h1.2] at this; cases this
   ·rfl
 ·intro h
  rw [← Span.empty_eq, h]; rfl
theorem norm_ext {a b : Span} (h : ∀ k, a.has k = b.has k) : a.norm = b.norm := by
 have he : a.empty = b.empty := by
  rw [Bool.eq_iff_iff, empty_iff, empty_iff]
  exact ⟨fun h1 k => by rw [← h k]; exact h1 k, fun h1 k => by rw [h k]; exact h1 k⟩
 unfold Span.norm
 rw [← he]
 cases ea : a.empty
 ·have eb : b.empty = false := he ▸ ea
  simp only [Bool.false_eq_true, if_false]
  have la : a.has a.lo = true := by have := Span.empty_eq a; rw [ea] at this; simpa using this
  have lb : b.has b.lo = true := by have := Span.empty_eq b; rw [eb] at this; simpa using this
  have l1 : a.lo.lt b.lo = false := by
   have := h a.lo; rw [la] at this
   unfold Span.has at this
   simp only [Bool.true_eq, Bool.and_eq_true, Bool.not_eq_true'] at this
   exact this.1
  have l2 : b.lo.lt a.lo = false := by
   have := h b.lo; rw [lb] at this
   unfold Span.has at this
   simp only [Bool.and_eq_true, Bool.not_eq_true'] at this
   exact this.1
  have hlo : a.lo = b.lo := Str.lt_total l1 l2
  have hop : ∀ {x y : Span}, x.lo = y.lo → (∀ k, x.has k = y.has k) → x.empty = false → y.empty = false → x.opn = true → y.opn = true := by
   intro x y hxy hk hx hy ho
   cases hyo : y.opn
   ·exfalso
    have h1 : y.lo.lt y.hi = true := by simpa [Span.empty, hyo] using hy
    have h2 : y.has y.hi = false := by unfold Span.has; rw [hyo, Str.lt_irrefl]; simp
    have h3 : x.has y.hi = true := by unfold Span.has; rw [ho, hxy, Str.lt_asymm h1]; rfl
    rw [hk, h2] at h3; cases h3
   ·rfl
  cases oa : a.opn
  ·have ob : b.opn = false := by
    cases ob : b.opn
    ·rfl
    ·have := hop hlo.symm (fun k => (h k).symm) eb ea ob; rw [oa] at this; cases this
   have hhi : ∀ {x y : Span}, x.lo = y.lo → (∀ k, x.has k = y.has k) → x.empty = false → x.opn = false → y.opn = false → x.hi.lt y.hi = false := by
    intro x y hxy hk hx ho hyo
    cases hl : x.hi.lt y.hi
    ·rfl
    ·exfalso
     have h1 : x.lo.lt x.hi = true := by simpa [Span.empty, ho] using hx
     have h2 : x.has x.hi = false := by unfold Span.has; rw [ho, Str.lt_irrefl]; simp
     have h3 : y.has x.hi = true := by unfold Span.has; rw [hyo, ← hxy, Str.lt_asymm h1, hl]; rfl
     rw [← hk, h2] at h3; cases h3
   have e : a.hi = b.hi := Str.lt_total (hhi hlo h ea oa ob) (hhi hlo.symm (fun k => (h k).symm) eb ob oa)
   rw [if_neg (by simp), if_neg (by simp [ob])]
   cases a; cases b; simp_all
  ·have ob := hop hlo h ea eb oa
   rw [if_pos rfl, if_pos ob, ob]
   cases a; cases b; simp_all
 ·simp
theorem norm_norm (s : Span) : s.norm.norm = s.norm := norm_ext fun k => norm_has s k
theorem meet_norm (a b : Span) : (a.meet b).norm = a.meet b := norm_norm _
theorem meet_ext {a b a' b' : Span} (h : ∀ k, (a.has k && b.has k) = (a'.has k && b'.has k)) : a.meet b = a'.meet b' := by
 rw [← meet_norm a b, ← meet_norm a' b']
 exact norm_ext fun k => by rw [meet_has, meet_has]; exact h k
theorem clip_no {m : Msg} {s : Span} : (m.clip s).2 = false ↔ (m.span.meet s).empty = true := by
 cases h : (m.span.meet s).empty
 ·by_cases k : m.kind = 4
  ·rw [clip_4 h k]; simp
  ·rw [clip_n h k]; simp
 ·rw [clip_e h]; simp
theorem clip_span {m : Msg} {s : Span} (h : (m.clip s).2 = true) (k : m.kind = 4) : (m.clip s).1.span = m.span.meet s := by
 rw [(clip_of h).2, if_pos k]
 show Msg.span { m with key := (m.span.meet s).lo, hi := (m.span.meet s).hi, opn := (m.span.meet s).opn } = _
 generalize m.span.meet s = z
 unfold Msg.span
 rw [if_pos k]
theorem clip_clip {m : Msg} {s t : Span} (hst : ∀ k, s.has k = true → t.has k = true) : (if (m.clip t).2 = true then (m.clip t).1.clip s else (⟨0, 0, Str.nil, Str.nil, false, Str.nil⟩, false)) = m.clip s := by
 cases h : (m.clip t).2
 ·rw [if_neg (by simp)]
  have h1 := clip_no.1 h
  have h2 : (m.span.meet s).empty = true := empty_iff.2 fun k => by
   have := empty_iff.1 h1 k
   rw [meet_has, Bool.and_eq_false_iff] at this ⊢
   rcases this with h | h
   ·exact .inl h
   ·right
    cases hs : s.has k
    ·rfl
    ·rw [hst k hs] at h; cases h
  rw [clip_e h2]
 ·rw [if_pos rfl]
  by_cases k : m.kind = 4
  ·have hs := clip_span h k
   have k2 : (m.clip t).1.kind = 4 := by rw [(clip_of h).2, if_pos k]; exact k
   have e : (m.span.meet t).meet s = m.span.meet s := meet_ext fun q => by
    rw [meet_has]
    cases hs : s.has q
    ·simp
    ·rw [hst q hs]; simp
   cases he : (m.span.meet s).empty
   ·rw [clip_4 (by rw [hs, e]; exact he) k2, clip_4 he k, hs, e, (clip_of h).2, if_pos k]
   ·rw [clip_e (by rw [hs, e]; exact he), clip_e he]
  ·rw [(clip_of h).2, if_neg k]
theorem clips_clips {s t : Span} (hst : ∀ k, s.has k = true → t.has k = true) : ∀ (L : List Msg), clips s (clips t L) = clips s L
 | [] => rfl
 | m :: L => by
  have e := clip_clip (m := m) hst
  rw [clips_cons t m L, clips_cons s m L, ← clips_clips hst L]
  cases h : (m.clip t).2
  ·rw [if_neg (by simp)]
   rw [h, if_neg (by simp)] at e
   rw [← e, if_neg (by simp)]
  ·rw [if_pos rfl, clips_cons]
   rw [h, if_pos rfl] at e
   rw [e]
theorem clips_append (s : Span) (A B : List Msg) : clips s (A ++ B) = clips s A ++ clips s B := List.filterMap_append
theorem clips_perm {s : Span} {A B : List Msg} (h : A.Perm B) : (clips s A).Perm (clips s B) := List.Perm.filterMap _ h
theorem clips_flat (s : Span) : ∀ (L : List (List Msg)), clips s L.flatten = (L.map (clips s)).flatten
 | [] => rfl
 | A :: L => by rw [List.flatten_cons, clips_append, clips_flat s L]; rfl
theorem clips_rst {s : Span} {A : List Msg} (h : Rst A) : Rst (clips s A) := by
 unfold Rst clips
 rw [List.pairwise_filterMap]
 refine List.Pairwise.imp (fun {a b} hab x hx y hy => ?_) h
 split at hx
 ·split at hy
  ·rename_i h1 h2
   cases hx; cases hy
   rw [clip_stamp h1, clip_stamp h2]; exact hab
  ·cases hy
 ·cases hx
end Go.Fw
