/- The leaves of a sound tree from the left to the right, and a sweep through them. Plain Lean; nothing of the program is named here. No condition. -/
import Derived.Test.YtcngningbcaggaaQkNm
set_option linter.unusedVariables false
set_option linter.unusedSimpArgs false
set_option linter.unnecessarySimpa false

namespace Go.Fw
open Go Go.RowKit
variable {c : Cfg} {l : List Nd} {ss : List Seat}
noncomputable def dfsF (l : List Nd) : Nat → Seat → List Seat
 | 0, x => [x]
 | n + 1, x => (kidsD l x).flatMap (dfsF l n)
theorem Tree.leaves_dfs (t : Tree c l ss) : ∀ (n : Nat) (R T : List Seat), T = R ++ T.flatMap (kidsD l) → (∀ x ∈ T, x ∈ ss) → (∀ x ∈ R, x.n.level.toNat = n) → leavesS T = R.flatMap (dfsF l n) := by
 intro n
 induction n with
 | zero =>
  intro R T hT hs hR
  have hRT : ∀ x ∈ R, x ∈ T := fun x hx => by rw [hT]; exact List.mem_append_left _ hx
  have h0 : ∀ x ∈ R, x.n.level = 0 := fun x hx => by have := t.lvl (hs x (hRT x hx)); have := hR x hx; omega
  have hK : R.flatMap (kidsD l) = [] := List.flatMap_eq_nil_iff.2 fun x hx => kids_leaf (h0 x hx)
  generalize hS : T.flatMap (kidsD l) = S at hT
  have hS2 : S = S.flatMap (kidsD l) := by
   conv => lhs; rw [← hS, hT]
   rw [List.flatMap_append, hK, List.nil_append]
  have hST : ∀ x ∈ S, x ∈ T := fun x hx => by rw [hT]; exact List.mem_append_right _ hx
  have hn := fix_nil2 hS2 fun x hx y hy => by have := (t.kid_lvl (hs x (hST x hx)) hy).2; omega
  rw [hT, hn, List.append_nil]
  unfold leavesS
  rw [List.filter_eq_self.2 fun x hx => decide_eq_true (h0 x hx)]
  exact (List.flatMap_singleton' R).symm
 | succ n ih =>
  intro R T hT hs hR
  have hRT : ∀ x ∈ R, x ∈ T := fun x hx => by rw [hT]; exact List.mem_append_left _ hx
  generalize hS : T.flatMap (kidsD l) = S at hT
  have hS2 : S = R.flatMap (kidsD l) ++ S.flatMap (kidsD l) := by
   conv => lhs; rw [← hS, hT]
   rw [List.flatMap_append]
  have hST : ∀ x ∈ S, x ∈ T := fun x hx => by rw [hT]; exact List.mem_append_right _ hx
  have h1 := ih (R.flatMap (kidsD l)) S hS2 (fun x hx => hs x (hST x hx)) fun y hy => by
   obtain ⟨x, hx, hyx⟩ := List.mem_flatMap.1 hy
   have := (t.kid_lvl (hs x (hRT x hx)) hyx).2
   have := hR x hx
   omega
  have h2 : leavesS R = [] := List.filter_eq_nil_iff.2 fun x hx => by have := hR x hx; simp; omega
  rw [hT]
  unfold leavesS at *
  rw [List.filter_append, h2, List.nil_append, h1, List.flatMap_assoc]
  rfl
theorem Tree.leaves (t : Tree c l ss) : leavesS ss = dfsF l (rootS l 0).n.level.toNat (rootS l 0) := by
 have := t.leaves_dfs (rootS l 0).n.level.toNat [rootS l 0] ss (by exact t.fix) (fun x hx => hx) (fun x hx => by simp at hx; rw [hx])
 simpa using this
def Bef (a b : Seat) : Prop := ∀ p q, a.s.has p = true → b.s.has q = true → p.lt q = true
theorem route_mono {P : List Str} {p q : Str} (h : p.lt q = false) : routeN P q ≤ routeN P p := by
 unfold routeN
 rw [← List.countP_eq_length_filter, ← List.countP_eq_length_filter]
 refine List.countP_mono_left fun x _ hx => ?_
 simp only [Bool.not_eq_true'] at hx ⊢
 exact Str.le_trans hx h
theorem kids_bef {x : Seat} (h : rightN x.n.pivots x.n.kids.length = true) : (kidsF l x x.n.kids.length).Pairwise Bef := by
 unfold kidsF
 rw [List.pairwise_map]
 refine List.Pairwise.imp_of_mem (fun {i j} hi hj hij => ?_) List.pairwise_lt_range
 intro p q hp hq
 rw [kidSt_has h (List.mem_range.1 hi), Bool.and_eq_true, decide_eq_true_eq] at hp
 rw [kidSt_has h (List.mem_range.1 hj), Bool.and_eq_true, decide_eq_true_eq] at hq
 cases hl : p.lt q
 ·have := route_mono (P := x.n.pivots) hl; omega
 ·rfl
theorem Tree.dfs (t : Tree c l ss) : ∀ (n : Nat) (x : Seat), x ∈ ss → x.n.level.toNat = n → (∀ y ∈ dfsF l n x, y ∈ ss ∧ y.n.level = 0 ∧ ∀ k, y.s.has k = true → x.s.has k = true) ∧ (dfsF l n x).Pairwise Bef := by
 intro n
 induction n with
 | zero =>
  intro x hx hn
  have h0 : x.n.level = 0 := by have := t.lvl hx; omega
  exact ⟨fun y hy => by simp [dfsF] at hy; subst hy; exact ⟨hx, h0, fun k h => h⟩, by simp [dfsF]⟩
 | succ n ih =>
  intro x hx hn
  have h0 : ¬ x.n.level = 0 := om9
  obtain ⟨h1, h2, h3, h4⟩ := kids_all (t.kids hx) h0
  have hk : ∀ y ∈ kidsD l x, y ∈ ss ∧ y.n.level.toNat = n ∧ ∀ k, y.s.has k = true → x.s.has k = true := fun y hy => by
   have := t.kid_lvl hx hy
   rw [h1] at hy
   obtain ⟨j, hj, rfl⟩ := List.mem_map.1 hy
   exact ⟨this.1, om9, fun k => kid_sub k⟩
  refine ⟨fun y hy => ?_, ?_⟩
  ·obtain ⟨z, hz, hyz⟩ := List.mem_flatMap.1 hy
   obtain ⟨a1, a2, a3⟩ := hk z hz
   obtain ⟨b1, b2, b3⟩ := (ih z a1 a2).1 y hyz
   exact ⟨b1, b2, fun k h => a3 k (b3 k h)⟩
  ·show ((kidsD l x).flatMap (dfsF l n)).Pairwise Bef
   rw [List.pairwise_flatMap]
   refine ⟨fun z hz => (ih z (hk z hz).1 (hk z hz).2.1).2, ?_⟩
   rw [h1]
   refine List.Pairwise.imp_of_mem (fun {a b} ha hb hab => ?_) (kids_bef h3)
   intro u hu v hv p q hp hq
   rw [← h1] at ha hb
   exact hab p q (((ih a (hk a ha).1 (hk a ha).2.1).1 u hu).2.2 p hp) (((ih b (hk b hb).1 (hk b hb).2.1).1 v hv).2.2 q hq)
theorem Tree.leaves_bef (t : Tree c l ss) : (leavesS ss).Pairwise Bef := by rw [t.leaves]; exact (t.dfs _ _ t.root rfl).2
theorem Tree.view_keys (t : Tree c l ss) {x : Seat} (hx : x ∈ ss) {p : Pair} (hp : p ∈ viewS x) : x.s.has p.key = true := by
 rw [t.view hx] at hp; exact (List.mem_filter.1 hp).2
theorem Tree.foldR (t : Tree c l ss) {x : Seat} (hx : x ∈ ss) : PairsR (foldN x.n.rows x.ms) := (t.rows hx).fold fun m hm => msgR_key ((t.fits x hx).2 m hm)
theorem Tree.srt (t : Tree c l ss) : Srt (mapN l) := by
 rw [mapN_t t.sts]
 unfold Srt
 rw [List.pairwise_flatMap]
 refine ⟨fun x hx => ?_, List.Pairwise.imp_of_mem (fun {a b} ha hb hab => ?_) t.leaves_bef⟩
 ·rw [t.view (List.mem_filter.1 hx).1]; exact (t.foldR (List.mem_filter.1 hx).1).srt.filter _
 ·intro p hp q hq
  exact hab _ _ (t.view_keys (List.mem_filter.1 ha).1 hp) (t.view_keys (List.mem_filter.1 hb).1 hq)
theorem Tree.mapFits (t : Tree c l ss) : PairsR (mapN l) := pairsR_iff.2 ⟨fun p hp => by
 rw [mapN_t t.sts] at hp
 obtain ⟨x, hx, hp⟩ := List.mem_flatMap.1 hp
 rw [t.view (List.mem_filter.1 hx).1] at hp
 exact (pairsR_iff.1 (t.foldR (List.mem_filter.1 hx).1)).1 p (List.mem_filter.1 hp).1, t.srt⟩
theorem Tree.map_view (t : Tree c l ss) {z : Seat} (hz : z ∈ ss) (h0 : z.n.level = 0) : (mapN l).filter (fun p => z.s.has p.key) = viewS z := by
 have hm : z ∈ leavesS ss := List.mem_filter.2 ⟨hz, decide_eq_true h0⟩
 obtain ⟨A, B, e⟩ := List.append_of_mem hm
 have ho := t.leaves_bef
 have hsub : ∀ x ∈ A ++ z :: B, x ∈ ss := fun x hx => by rw [← e] at hx; exact (List.mem_filter.1 hx).1
 rw [mapN_t t.sts, e]
 rw [e] at ho
 obtain ⟨h1, h2, h3⟩ := List.pairwise_append.1 ho
 have hA : (A.flatMap viewS).filter (fun p => z.s.has p.key) = [] := List.filter_eq_nil_iff.2 fun p hp hh => by
  obtain ⟨x, hx, hp⟩ := List.mem_flatMap.1 hp
  have := h3 x hx z (by simp) p.key p.key (t.view_keys (hsub x (List.mem_append_left _ hx)) hp) hh
  rw [Str.lt_irrefl] at this; cases this
 have hB : (B.flatMap viewS).filter (fun p => z.s.has p.key) = [] := List.filter_eq_nil_iff.2 fun p hp hh => by
  obtain ⟨x, hx, hp⟩ := List.mem_flatMap.1 hp
  have := (List.pairwise_cons.1 h2).1 x hx p.key p.key hh (t.view_keys (hsub x (List.mem_append_right _ (List.mem_cons_of_mem _ hx))) hp)
  rw [Str.lt_irrefl] at this; cases this
 have hV : (viewS z).filter (fun p => z.s.has p.key) = viewS z := List.filter_eq_self.2 fun p hp => t.view_keys hz hp
 rw [List.flatMap_append, List.flatMap_cons, List.filter_append, List.filter_append, hA, hB, hV, List.append_nil, List.nil_append]
def ptsN (A : List Msg) : Nat := (A.filter fun m => !decide (m.kind = 4)).length
def sumF (f : Nat → Nat) : Nat → Nat
 | 0 => 0
 | n + 1 => sumF f n + f n
theorem filter_split {M : List Pair} (hM : Srt M) (p : Str → Bool) (h : Str) : M.filter (fun a => p a.key) = M.filter (fun a => p a.key && a.key.lt h) ++ M.filter (fun a => p a.key && !a.key.lt h) := by
 induction M with
 | nil => rfl
 | cons a M ih =>
  have hp := List.pairwise_cons.1 hM
  rw [List.filter_cons, List.filter_cons, List.filter_cons, ih hp.2]
  cases hpa : p a.key
  ·simp
  ·cases hl : a.key.lt h
   ·have : M.filter (fun a => p a.key && a.key.lt h) = [] := List.filter_eq_nil_iff.2 fun b hb hh => by
     have hab := hp.1 b hb
     simp only [Bool.and_eq_true] at hh
     have := Str.lt_trans hab hh.2
     rw [hl] at this; cases this
    rw [this]; simp
   ·simp
structure SwOk (l : List Nd) (x : Span) (n : Int) (rest : Span) (out : List Pair) : Prop where
 eq : out ++ (mapN l).filter (fun p => rest.has p.key) = (mapN l).filter (fun p => x.has p.key)
 len : out = [] ∨ (out.length : Int) < n
theorem SwOk.init (l : List Nd) (x : Span) (n : Int) : SwOk l x n x.norm [] := ⟨by
 rw [List.nil_append]; exact List.filter_congr fun p _ => norm_has x p.key, .inl rfl⟩
theorem SwOk.empty {x rest : Span} {n : Int} {out : List Pair} (h : SwOk l x n rest out) (he : rest.empty = true) : out = scanN (mapN l) x n := by
 have h1 := h.eq
 rw [List.filter_eq_nil_iff.2 (fun p _ => by rw [empty_iff.1 he]; simp), List.append_nil] at h1
 unfold scanN
 rw [← h1]
 rcases h.len with h2 | h2
 ·rw [h2]; simp
 ·exact (List.take_of_length_le om9).symm
theorem SwOk.full {x rest : Span} {n : Int} {out : List Pair} (h : SwOk l x n rest out) (hn : n ≤ (out.length : Int)) : out = scanN (mapN l) x n := by
 have h2 : out = [] := h.len.resolve_right om9
 subst h2
 unfold scanN
 rw [show n.toNat = 0 by simp at hn; omega]; rfl
structure Leg (l : List Nd) (z : Seat) (rest s : Span) : Prop where
 se : s = rest.meet z.s
 lo : s.has rest.lo = true
theorem Leg.view (t : Tree c l ss) {z : Seat} (hz : z ∈ ss) (h0 : z.n.level = 0) {rest s : Span} (g : Leg l z rest s) : foldN (z.n.rows.filter fun p => s.has p.key) (clips s z.ms) = (mapN l).filter (fun p => s.has p.key) := by
 have hsz : ∀ k, s.has k = true → z.s.has k = true := fun k hk => by rw [g.se, meet_has, Bool.and_eq_true] at hk; exact hk.2
 have e : (mapN l).filter (fun p => s.has p.key) = ((mapN l).filter (fun p => z.s.has p.key)).filter (fun p => s.has p.key) := by
  rw [List.filter_filter]
  refine List.filter_congr fun p _ => ?_
  cases hs : s.has p.key
  ·rfl
  ·rw [hsz _ hs]; rfl
 rw [e, t.map_view hz h0, t.view hz, List.filter_filter, view_fold (t.rows hz).srt fun m hm => by have := (msgR_key ((t.fits z hz).2 m hm)).1; omega]
 refine List.filter_congr fun p _ => ?_
 cases hs : s.has p.key
 ·rfl
 ·rw [hsz _ hs]; rfl
theorem Leg.nonempty {z : Seat} {rest s : Span} (g : Leg l z rest s) : s.empty = false := by
 cases h : s.empty
 ·rfl
 ·have := empty_iff.1 h rest.lo; rw [g.lo] at this; cases this
theorem has_mid {s : Span} {a b k : Str} (ha : s.has a = true) (hb : s.has b = true) (h1 : k.lt a = false) (h2 : b.lt k = false) : s.has k = true := by
 unfold Span.has at *
 simp only [Bool.and_eq_true, Bool.not_eq_true', Bool.or_eq_true] at *
 refine ⟨Str.le_trans ha.1 h1, hb.2.imp id fun h => Str.lt_of_le_of_lt h2 h⟩
theorem Leg.fin {z : Seat} {rest s : Span} (g : Leg l z rest s) (ho : s.opn = false) : rest.lo.lt s.hi = true := by
 have h := g.lo
 unfold Span.has at h
 rw [ho] at h
 simp only [Bool.false_or, Bool.and_eq_true] at h
 exact h.2
theorem Leg.split (t : Tree c l ss) {z : Seat} {rest s : Span} (g : Leg l z rest s) (ho : s.opn = false) : (mapN l).filter (fun p => rest.has p.key) = (mapN l).filter (fun p => s.has p.key) ++ (mapN l).filter (fun p => (rest.meet ⟨s.hi, Str.nil, true⟩).has p.key) := by
 rw [filter_split t.srt (fun k => rest.has k) s.hi]
 congr 1
 ·refine List.filter_congr fun p _ => ?_
  have hr : s.has p.key = true → rest.has p.key = true := fun hk => by rw [g.se, meet_has, Bool.and_eq_true] at hk; exact hk.1
  have hl := g.lo
  cases hs : s.has p.key
  ·cases hrk : rest.has p.key
   ·rfl
   ·cases hlt : p.key.lt s.hi
    ·rfl
    ·exfalso
     have h3 : s.has p.key = true := by
      unfold Span.has at *
      rw [ho] at *
      simp only [Bool.false_or, Bool.and_eq_true, Bool.not_eq_true', Bool.or_eq_true] at *
      exact ⟨Str.le_trans hl.1 hrk.1, hlt⟩
     rw [hs] at h3; cases h3
  ·rw [hr hs]
   unfold Span.has at hs
   rw [ho] at hs
   simp only [Bool.false_or, Bool.and_eq_true] at hs
   rw [hs.2]; rfl
 ·refine List.filter_congr fun p _ => ?_
  rw [meet_has]
  congr 1
  show _ = (!p.key.lt s.hi && (true || _))
  simp
theorem Leg.open (t : Tree c l ss) {z : Seat} {rest s : Span} (g : Leg l z rest s) (ho : s.opn = true) : (mapN l).filter (fun p => rest.has p.key) = (mapN l).filter (fun p => s.has p.key) := by
 refine List.filter_congr fun p _ => ?_
 have hl := g.lo
 cases hs : s.has p.key
 ·cases hrk : rest.has p.key
  ·rfl
  ·exfalso
   have h3 : s.has p.key = true := by
    unfold Span.has at *
    rw [ho] at *
    simp only [Bool.true_or, Bool.and_true, Bool.and_eq_true, Bool.not_eq_true'] at *
    exact Str.le_trans hl hrk.1
   rw [hs] at h3; cases h3
 ·rw [g.se, meet_has, Bool.and_eq_true] at hs
  exact hs.1
theorem take_cut {A : List Pair} {n : Int} {k : Nat} (hn : 0 < n) : A.take (cutN A n) = A.take n.toNat := by
 unfold cutN
 by_cases h : (A.length : Int) ≤ n
 ·rw [List.take_of_length_le om9, List.take_of_length_le om9]
 ·congr 1; omega
theorem SwOk.last {x rest : Span} {n : Int} {out V R : List Pair} (h : SwOk l x n rest out) (hn : ¬ n ≤ (out.length : Int)) (hV : (mapN l).filter (fun p => rest.has p.key) = V ++ R) (hl : R = [] ∨ n - (out.length : Int) ≤ (V.length : Int)) :
  out ++ V.take (cutN V (n - (out.length : Int))) = scanN (mapN l) x n := by
 unfold scanN
 rw [← h.eq, hV, take_cut (k := 0) om9, List.take_append, List.take_of_length_le (by omega : out.length ≤ n.toNat), show (n - (out.length : Int)).toNat = n.toNat - out.length by omega]
 congr 1
 rcases hl with rfl | hl
 ·rw [List.append_nil]
 ·rw [List.take_append_of_le_length om9]
theorem SwOk.next {x rest r2 : Span} {n : Int} {out V : List Pair} (h : SwOk l x n rest out) (hn : ¬ n ≤ (out.length : Int)) (hV : (mapN l).filter (fun p => rest.has p.key) = V ++ (mapN l).filter (fun p => r2.has p.key)) (hl : ¬ n - (out.length : Int) ≤ (V.length : Int)) :
  SwOk l x n r2 (out ++ V) ∧ V.take (cutN V (n - (out.length : Int))) = V :=
 ⟨⟨by rw [List.append_assoc, ← hV]; exact h.eq, .inr (by rw [List.length_append]; omega)⟩, by rw [take_cut (k := 0) om9]; exact List.take_of_length_le om9⟩
def aheadN (ss : List Seat) (rest : Span) : Nat := if rest.empty = true then 0 else 1 + ((leavesS ss).filter fun y => y.s.opn || rest.lo.lt y.s.hi).length
theorem Leg.ahead {z : Seat} (hz : z ∈ ss) (h0 : z.n.level = 0) {rest s : Span} (he : rest.empty = false) (g : Leg l z rest s) (ho : s.opn = false) : aheadN ss (rest.meet ⟨s.hi, Str.nil, true⟩) < aheadN ss rest := by
 have hfin := g.fin ho
 unfold aheadN
 rw [he, if_neg (by simp : ¬ false = true)]
 split
 ·omega
 ·rename_i hne
  generalize hr : rest.meet ⟨s.hi, Str.nil, true⟩ = r2 at hne ⊢
  have hr2 : r2.has r2.lo = true := by have := Span.empty_eq r2; cases h : r2.empty; rw [h] at this; simpa using this; exact absurd h hne
  have hm : rest.has r2.lo = true ∧ r2.lo.lt s.hi = false := by
   have h1 : (rest.meet ⟨s.hi, Str.nil, true⟩).has r2.lo = true := by rw [hr]; exact hr2
   rw [meet_has, Bool.and_eq_true] at h1
   refine ⟨h1.1, ?_⟩
   have h2 := h1.2
   unfold Span.has at h2
   simp only [Bool.and_eq_true, Bool.not_eq_true'] at h2
   exact h2.1
  have hrl : rest.has rest.lo = true := by have := g.lo; rw [g.se, meet_has, Bool.and_eq_true] at this; exact this.1
  have hzl : z.s.has rest.lo = true := by have := g.lo; rw [g.se, meet_has, Bool.and_eq_true] at this; exact this.2
  have hlt : rest.lo.lt r2.lo = true := Str.lt_of_lt_of_le hfin hm.2
  have hzc : (z.s.opn || rest.lo.lt z.s.hi) = true := by
   unfold Span.has at hzl; rw [Bool.and_eq_true] at hzl; exact hzl.2
  have hzn : (z.s.opn || r2.lo.lt z.s.hi) = false := by
   cases h : (z.s.opn || r2.lo.lt z.s.hi)
   ·rfl
   ·exfalso
    have h1 : rest.has s.hi = true := has_mid hrl hm.1 (Str.lt_asymm hfin) hm.2
    have h2 : z.s.has s.hi = true := by
     have h5 := hzl
     unfold Span.has at h5 ⊢
     simp only [Bool.and_eq_true, Bool.not_eq_true', Bool.or_eq_true] at h5 h ⊢
     exact ⟨Str.le_trans h5.1 (Str.lt_asymm hfin), h.imp id fun h => Str.lt_of_le_of_lt hm.2 h⟩
    have h3 : s.has s.hi = true := by rw [g.se, meet_has, ← g.se, h1, h2]; rfl
    unfold Span.has at h3
    rw [ho, Str.lt_irrefl] at h3
    simp at h3
  have hmono : ∀ y : Seat, (y.s.opn || r2.lo.lt y.s.hi) = true → (y.s.opn || rest.lo.lt y.s.hi) = true := fun y h => by
   rw [Bool.or_eq_true] at h ⊢
   exact h.imp id fun h => Str.lt_trans hlt h
  have hzm : z ∈ leavesS ss := List.mem_filter.2 ⟨hz, decide_eq_true h0⟩
  have key : ∀ T : List Seat, z ∈ T → (T.filter fun y => y.s.opn || r2.lo.lt y.s.hi).length < (T.filter fun y => y.s.opn || rest.lo.lt y.s.hi).length := by
   intro T
   induction T with
   | nil => intro h; cases h
   | cons y T ih =>
    intro h
    have hle : (T.filter fun y => y.s.opn || r2.lo.lt y.s.hi).length ≤ (T.filter fun y => y.s.opn || rest.lo.lt y.s.hi).length := by
     rw [← List.countP_eq_length_filter, ← List.countP_eq_length_filter]
     exact List.countP_mono_left fun y _ h => hmono y h
    rw [List.filter_cons, List.filter_cons]
    rcases List.mem_cons.1 h with rfl | h
    ·rw [hzn, hzc]; simp; omega
    ·have ih := ih h
     cases ha : (y.s.opn || r2.lo.lt y.s.hi)
     ·simp only [Bool.false_eq_true, if_false]
      split
      ·simp; omega
      ·exact ih
     ·rw [hmono y ha]; simp; omega
  have := key _ hzm
  omega
theorem Leg.part (t : Tree c l ss) {z : Seat} (hz : z ∈ ss) (h0 : z.n.level = 0) {rest s : Span} (g : Leg l z rest s) (b : Str) (n : Int) :
  partN z.n.rows s z.ms b n = (((mapN l).filter (fun p => s.has p.key)).take (cutN ((mapN l).filter (fun p => s.has p.key)) n), (if s.opn = true then Str.nil else s.hi), s.opn || decide (n ≤ (((mapN l).filter (fun p => s.has p.key)).length : Int))) := by
 rw [partN_n g.nonempty rfl rfl, g.view t hz h0]
theorem SwOk.over (t : Tree c l ss) {x rest s : Span} {z : Seat} {n : Int} {out : List Pair} (h : SwOk l x n rest out) (hn : ¬ n ≤ (out.length : Int)) (g : Leg l z rest s) (ho : (s.opn || decide (n - (out.length : Int) ≤ (((mapN l).filter (fun p => s.has p.key)).length : Int))) = true) :
  out ++ ((mapN l).filter (fun p => s.has p.key)).take (cutN ((mapN l).filter (fun p => s.has p.key)) (n - (out.length : Int))) = scanN (mapN l) x n := by
 cases hs : s.opn
 ·rw [hs, Bool.false_or, decide_eq_true_eq] at ho
  exact h.last hn (g.split t hs) (.inr ho)
 ·exact h.last hn (R := []) (by rw [List.append_nil]; exact g.open t hs) (.inl rfl)
theorem SwOk.go (t : Tree c l ss) {x rest s : Span} {z : Seat} {n : Int} {out : List Pair} (h : SwOk l x n rest out) (hn : ¬ n ≤ (out.length : Int)) (g : Leg l z rest s) (ho : (s.opn || decide (n - (out.length : Int) ≤ (((mapN l).filter (fun p => s.has p.key)).length : Int))) = false) :
  s.opn = false ∧ SwOk l x n (rest.meet ⟨s.hi, Str.nil, true⟩) (out ++ (mapN l).filter (fun p => s.has p.key)) ∧ ((mapN l).filter (fun p => s.has p.key)).take (cutN ((mapN l).filter (fun p => s.has p.key)) (n - (out.length : Int))) = (mapN l).filter (fun p => s.has p.key) := by
 rw [Bool.or_eq_false_iff, decide_eq_false_iff_not] at ho
 exact ⟨ho.1, h.next hn (g.split t ho.1) ho.2⟩
def oneS (n : Nd) : Seat := ⟨n, Span.all, []⟩
theorem one_slot {n : Nd} (hs : n.slot = 0) (hseen : n.seen ≤ 1099511627776) : SlotsP [n] := fun i h => by
 have : i = 0 := by simp at h; omega
 subst this
 exact ⟨by simpa using hs, hseen⟩
theorem one_seats {n : Nd} (h0 : n.level = 0) (hs : n.slot = 0) (hseen : n.seen ≤ 1099511627776) : seatsN [n] 0 = some [oneS n] := by
 have hf : findN [n] 0 = (n, true) := find_at (one_slot hs hseen) (i := 0) (by simp)
 unfold seatsN
 rw [if_pos (by rw [hf])]
 have hr : rootS [n] 0 = oneS n := by unfold rootS oneS; rw [hf]
 rw [hr]
 show seatsF [n] (2 + 1) 0 [oneS n] = _
 rw [seatsF_some (l := [n]) (f := 2) (i := 0) (out := [oneS n]) (ks := []) (by simp) (by simp) (kidsO_0 h0)]
 exact seatsF_done (l := [n]) (f := 1) (i := 1) (out := [oneS n]) (by simp)
theorem tree_one {c : Cfg} {n : Nd} (hc : CfgR c) (h0 : n.level = 0) (hs : n.slot = 0) (hseen : n.seen ≤ 1099511627776) (hR : n.R c.fan c.leaf c.bud) (ht : n.top = true) (hS : NdS n) : Tree c [n] [oneS n] := by
 have hl := hR.2.2.2
 rw [if_pos h0] at hl
 have ht2 := hR.2.1 ht
 have hz := hl.1
 have hk := hc.2.2.2.1
 refine ⟨hc, by simp, ⟨by simp, fun m hm => by simp at hm; subst hm; exact hS⟩, one_slot hs hseen, one_seats h0 hs hseen, ⟨⟨rfl, fun i h => ?_⟩, fun i h => ?_, by simp; omega⟩, fun i h => ?_⟩
 ·have : i = 0 := by simp at h; omega
  subst this
  simp [slotS, oneS]
 ·have : i = 0 := by simp at h; omega
  subst this
  rw [wantN_f (by simp)]
  exact ht2.2
 ·have : i = 0 := by simp at h; omega
  subst this
  refine ⟨hR, ⟨⟨ht, ht2.1⟩, fun i h => all_has _, fun i h => ?_, fun i h => ?_⟩, by show n.slot < c.slots; omega, fun j h => ?_⟩
  ·have h : i < n.pivots.length := h
   omega
  ·have h : i < n.msgs.length := h
   omega
  ·have h : j < ([] : List Msg).length := h
   simp at h
theorem map_one {n : Nd} (h0 : n.level = 0) (hs : n.slot = 0) (hseen : n.seen ≤ 1099511627776) : mapN [n] = n.rows := by
 rw [mapN_t (one_seats h0 hs hseen)]
 have e : leavesS [oneS n] = [oneS n] := List.filter_eq_self.2 fun x hx => by simp at hx; subst hx; exact decide_eq_true h0
 rw [e, List.flatMap_cons, List.flatMap_nil, List.append_nil]
 show foldN (n.rows.filter fun p => Span.all.has p.key) (clips Span.all []) = n.rows
 rw [List.filter_eq_self.2 fun p _ => all_has p.key]; rfl
end Go.Fw
