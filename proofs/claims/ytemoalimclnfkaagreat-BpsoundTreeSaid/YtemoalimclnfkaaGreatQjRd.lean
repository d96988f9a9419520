/- A row fewer in a tree of rows. Plain Lean; nothing of the program is named here. No condition. -/
import Derived.Test.YtemoalimclnfkaaGreatQjMl
set_option linter.unusedVariables false
set_option linter.unusedSimpArgs false
set_option linter.unnecessarySimpa false
namespace Go.Fw
open Go Go.RowKit
def fewB (fan leaf : Int) (k : Nat) (y : BT k) : Bool := decide ((BT.cnt k y : Int) < mnB fan leaf k)
def join0 (leaf : Int) (sa sb : Int) (R : List Pair) : BT 0 × Option (Str × BT 0) := if (R.length : Int) ≤ leaf then (mkL sa R, none) else (mkL sa (rhA R), some (rhK R, mkL sb (rhB R)))
def joinP {k : Nat} (fan : Int) (sa sb : Int) (P : List Str) (K : List (BT k)) : BT (k + 1) × Option (Str × BT (k + 1)) :=
  if (K.length : Int) ≤ fan then (mkN sa P K, none)
  else (mkN sa (P.take ((K.length + 1) / 2 - 1)) (K.take ((K.length + 1) / 2)), some (P.getD ((K.length + 1) / 2 - 1) Str.nil, mkN sb (P.drop ((K.length + 1) / 2)) (K.drop ((K.length + 1) / 2))))
def joinB (fan leaf : Int) : (k : Nat) → BT k → Str → BT k → BT k × Option (Str × BT k)
  | 0, a, p, b => join0 leaf a.slot b.slot (lfR a ++ lfR b)
  | k + 1, a, p, b => joinP fan a.slot b.slot (ndP a ++ p :: ndP b) (ndK a ++ ndK b)
def mendB {k : Nat} (fan leaf : Int) (s : Int) (P : List Str) (K : List (BT k)) (i : Nat) (u : List Bool) : BT (k + 1) × List Bool :=
  match (joinB fan leaf k (K.getD i default) (P.getD i Str.nil) (K.getD (i + 1) default)).2 with
  | none => (mkN s (P.take i ++ ([] ++ P.drop (i + 1))) (K.take i ++ ([(joinB fan leaf k (K.getD i default) (P.getD i Str.nil) (K.getD (i + 1) default)).1] ++ K.drop (i + 1 + 1))), u.set (K.getD (i + 1) default).slot.toNat false)
  | some w => (mkN s (P.take i ++ ([w.1] ++ P.drop (i + 1))) (K.take i ++ ([(joinB fan leaf k (K.getD i default) (P.getD i Str.nil) (K.getD (i + 1) default)).1, w.2] ++ K.drop (i + 1 + 1))), u)
def delE : Eff := ⟨3, Str.nil⟩
def remB (fan leaf : Int) (key : Str) : (k : Nat) → BT k → List Bool → BT k × List Bool
  | 0, y, u => (mkL y.slot (withN (lfR y) key delE), u)
  | k + 1, y, u => if fewB fan leaf k (remB fan leaf key k ((ndK y).getD (routeN (ndP y) key) default) u).1 = true
      then mendB fan leaf y.slot (ndP y) ((ndK y).set (routeN (ndP y) key) (remB fan leaf key k ((ndK y).getD (routeN (ndP y) key) default) u).1) (routeN (ndP y) key - 1) (remB fan leaf key k ((ndK y).getD (routeN (ndP y) key) default) u).2
      else (mkN y.slot (ndP y) ((ndK y).set (routeN (ndP y) key) (remB fan leaf key k ((ndK y).getD (routeN (ndP y) key) default) u).1), (remB fan leaf key k ((ndK y).getD (routeN (ndP y) key) default) u).2)
section
variable {fan leaf : Int} {key : Str}
theorem del_len {l : List Pair} (h : Srt l) (k : Str) : (withN l k delE).length ≤ l.length ∧ l.length ≤ (withN l k delE).length + 1 := by
  have hap : Eff.apply delE (getN l k) = none := by simp [Eff.apply, delE]
  rw [withN_mid, h.front, hap, List.length_append, List.length_append]
  have := fndN_le l k
  cases hs : (getN l k).isSome
  · rw [h.back_no hs]
    simp [midN, List.length_take, List.length_drop]
    omega
  · have hh := h.has k
    rw [hs] at hh
    obtain ⟨q1, q2⟩ := of_decide_eq_true hh.symm
    rw [h.back_yes q1 q2]
    simp [midN, List.length_take, List.length_drop]
    omega
theorem join_ok (hf : 4 ≤ fan) (hlf : 2 ≤ leaf) : ∀ (k : Nat) {u : Span} {a b : BT k} {p : Str} {la ha lb hb : Int}, u.norm = u → u.has p = true → p ≠ u.lo → BT.ok fan leaf k la ha (loS u p) a → BT.ok fan leaf k lb hb (hiS u p) b →
    2 * mnB fan leaf k - 1 ≤ (BT.cnt k a : Int) + (BT.cnt k b : Int) → (BT.cnt k a : Int) + (BT.cnt k b : Int) ≤ 2 * mxB fan leaf k → InsOk fan leaf k (mnB fan leaf k) u (BT.rows k a ++ BT.rows k b) (joinB fan leaf k a p b) ∧ (joinB fan leaf k a p b).1.slot = a.slot ∧ ∀ w, (joinB fan leaf k a p b).2 = some w → w.2.slot = b.slot
  | 0, u, a, b, p, la, ha, lb, hb, hu, hp, hpl, hA, hB, h1, h2 => by
    have h1 : 2 * (leaf / 2) - 1 ≤ ((lfR a).length : Int) + ((lfR b).length : Int) := h1
    have h2 : ((lfR a).length : Int) + ((lfR b).length : Int) ≤ 2 * leaf := h2
    have hAB : PairsR (lfR a ++ lfR b) ∧ ∀ q ∈ lfR a ++ lfR b, u.has q.key = true := by
      have a3 : ∀ q ∈ lfR a, u.has q.key = true ∧ q.key.lt p = true := fun q hq => by have := hA.2.2 q hq; rw [loS_has, Bool.and_eq_true] at this; exact this
      have b3 : ∀ q ∈ lfR b, u.has q.key = true ∧ q.key.lt p = false := fun q hq => by have := hB.2.2 q hq; rw [hiS_has, Bool.and_eq_true, Bool.not_eq_true'] at this; exact this
      refine ⟨pairsR_iff.2 ⟨fun q hq => ?_, srt_app hA.2.1.srt hB.2.1.srt fun x hx y hy => Str.lt_of_lt_of_le (a3 x hx).2 (b3 y hy).2⟩, fun q hq => ?_⟩
      · rcases List.mem_append.1 hq with hq | hq
        · exact (pairsR_iff.1 hA.2.1).1 q hq
        · exact (pairsR_iff.1 hB.2.1).1 q hq
      · rcases List.mem_append.1 hq with hq | hq
        · exact (a3 q hq).1
        · exact (b3 q hq).1
    rw [show joinB fan leaf 0 a p b = join0 leaf a.slot b.slot (lfR a ++ lfR b) from rfl]
    unfold join0
    by_cases h5 : ((lfR a ++ lfR b).length : Int) ≤ leaf
    · rw [if_pos h5]
      refine ⟨⟨⟨⟨?_, h5⟩, hAB⟩, rfl⟩, rfl, fun w hw => by cases hw⟩
      show leaf / 2 ≤ ((lfR a ++ lfR b).length : Int)
      rw [List.length_append]; omega
    · rw [if_neg h5]
      rw [List.length_append] at h5
      have hl2 : 2 ≤ (lfR a ++ lfR b).length := by rw [List.length_append]; omega
      obtain ⟨r1, r2, r3, r4, r5, r6, r7, _⟩ := rh_rows hAB.1 hl2 hAB.2
      refine ⟨⟨r1, r2, ⟨⟨?_, ?_⟩, r3, r5⟩, ⟨⟨?_, ?_⟩, r4, r6⟩, r7⟩, rfl, fun w hw => by cases hw; rfl⟩
      · show leaf / 2 ≤ ((rhA (lfR a ++ lfR b)).length : Int)
        unfold rhA; rw [List.length_take, List.length_append]; omega
      · show ((rhA (lfR a ++ lfR b)).length : Int) ≤ leaf
        unfold rhA; rw [List.length_take, List.length_append]; omega
      · show leaf / 2 ≤ ((rhB (lfR a ++ lfR b)).length : Int)
        unfold rhB; rw [List.length_drop, List.length_append]; omega
      · show ((rhB (lfR a ++ lfR b)).length : Int) ≤ leaf
        unfold rhB; rw [List.length_drop, List.length_append]; omega
  | k + 1, u, a, b, p, la, ha, lb, hb, hu, hp, hpl, hA, hB, h1, h2 => by
    have h1 : 2 * (fan / 2) - 1 ≤ ((ndK a).length : Int) + ((ndK b).length : Int) := h1
    have h2 : ((ndK a).length : Int) + ((ndK b).length : Int) ≤ 2 * fan := h2
    have hch : Ch (BT.ok fan leaf k (mnB fan leaf k) (mxB fan leaf k)) u (ndP a ++ p :: ndP b) (ndK a ++ ndK b) := (ch_app hu hA.2.len).2 ⟨hp, hpl, hA.2, hB.2⟩
    have hlen := hch.len
    have hrw : BT.rows (k + 1) a ++ BT.rows (k + 1) b = (ndK a ++ ndK b).flatMap (BT.rows k) := by rw [List.flatMap_append]; rfl
    rw [hrw]
    have hn : (ndK a ++ ndK b).length = (ndK a).length + (ndK b).length := List.length_append
    rw [show joinB fan leaf (k + 1) a p b = joinP fan a.slot b.slot (ndP a ++ p :: ndP b) (ndK a ++ ndK b) from rfl]
    unfold joinP
    generalize ndP a ++ p :: ndP b = P at *
    generalize ndK a ++ ndK b = K at *
    by_cases h5 : (K.length : Int) ≤ fan
    · rw [if_pos h5]
      refine ⟨⟨⟨⟨?_, h5⟩, hch⟩, rfl⟩, rfl, fun w hw => by cases hw⟩
      show fan / 2 ≤ (K.length : Int)
      omega
    · rw [if_neg h5]
      have hm : (K.length + 1) / 2 - 1 < P.length := by omega
      have e1 : P.take ((K.length + 1) / 2 - 1) ++ P[(K.length + 1) / 2 - 1] :: P.drop ((K.length + 1) / 2) = P := by
        have := List.drop_eq_getElem_cons hm
        rw [show (K.length + 1) / 2 - 1 + 1 = (K.length + 1) / 2 by omega] at this
        rw [← this, List.take_append_drop]
      have e2 : K.take ((K.length + 1) / 2) ++ K.drop ((K.length + 1) / 2) = K := List.take_append_drop _ _
      have h6 : Ch (BT.ok fan leaf k (mnB fan leaf k) (mxB fan leaf k)) u (P.take ((K.length + 1) / 2 - 1) ++ P[(K.length + 1) / 2 - 1] :: P.drop ((K.length + 1) / 2)) (K.take ((K.length + 1) / 2) ++ K.drop ((K.length + 1) / 2)) := by rw [e1, e2]; exact hch
      rw [ch_app hu (by rw [List.length_take, List.length_take]; omega)] at h6
      obtain ⟨a1, a2, a3, a4⟩ := h6
      refine ⟨?_, rfl, fun w hw => by cases hw; rfl⟩
      show u.has (P.getD ((K.length + 1) / 2 - 1) Str.nil) = true ∧ _
      rw [getD_lt hm]
      refine ⟨a1, a2, ⟨⟨?_, ?_⟩, a3⟩, ⟨⟨?_, ?_⟩, a4⟩, ?_⟩
      · show fan / 2 ≤ ((K.take ((K.length + 1) / 2)).length : Int)
        rw [List.length_take]; omega
      · show ((K.take ((K.length + 1) / 2)).length : Int) ≤ fan
        rw [List.length_take]; omega
      · show fan / 2 ≤ ((K.drop ((K.length + 1) / 2)).length : Int)
        rw [List.length_drop]; omega
      · show ((K.drop ((K.length + 1) / 2)).length : Int) ≤ fan
        rw [List.length_drop]; omega
      · show (K.take ((K.length + 1) / 2)).flatMap _ ++ (K.drop ((K.length + 1) / 2)).flatMap _ = _
        rw [← List.flatMap_append, e2]
theorem two_drop {α : Type} {l : List α} {i : Nat} (h : i + 1 < l.length) : (l.drop i).take 2 = [l[i]'(by omega), l[i + 1]] := by
  rw [List.drop_eq_getElem_cons (by omega), List.take_succ_cons, List.drop_eq_getElem_cons h, List.take_succ_cons, List.take_zero]
theorem one_drop {α : Type} {l : List α} {i : Nat} (h : i < l.length) : (l.drop i).take 1 = [l[i]] := by
  rw [List.drop_eq_getElem_cons h, List.take_succ_cons, List.take_zero]
theorem mend_ok {k : Nat} (hf : 4 ≤ fan) (hlf : 2 ≤ leaf) {s : Span} (hs : s.norm = s) {sl : Int} {P : List Str} {K : List (BT k)} {i : Nat} {us : List Bool} {lo : Int} {a b : BT k} (h : Ch (BT.ok fan leaf k (mnB fan leaf k) (mxB fan leaf k)) s P K) (hi : i + 1 < K.length) (hK : (K.length : Int) ≤ fan) (hl : lo ≤ (K.length : Int))
    {u : Span} (hu : u.norm = u) {p : Str} (hP : P.getD i Str.nil = p) (hp : u.has p = true) (hpl : p ≠ u.lo) {la ha lb hb : Int} (hA : BT.ok fan leaf k la ha (loS u p) a) (hB : BT.ok fan leaf k lb hb (hiS u p) b)
    (h1 : 2 * mnB fan leaf k - 1 ≤ (BT.cnt k a : Int) + (BT.cnt k b : Int)) (h2 : (BT.cnt k a : Int) + (BT.cnt k b : Int) ≤ 2 * mxB fan leaf k)
    (hR : ∀ Q D, Ch (BT.ok fan leaf k (mnB fan leaf k) (mxB fan leaf k)) u Q D → Ch (BT.ok fan leaf k (mnB fan leaf k) (mxB fan leaf k)) s (P.take i ++ (Q ++ P.drop (i + 1))) (K.take i ++ (D ++ K.drop (i + 1 + 1))))
    {K1 : List (BT k)} (e1 : K1.take i = K.take i) (e2 : K1.drop (i + 1 + 1) = K.drop (i + 1 + 1)) (e3 : K1.getD i default = a) (e4 : K1.getD (i + 1) default = b) :
    BT.ok fan leaf (k + 1) (lo - 1) fan s (mendB fan leaf sl P K1 i us).1 ∧ BT.rows (k + 1) (mendB fan leaf sl P K1 i us).1 = (K.take i).flatMap (BT.rows k) ++ ((BT.rows k a ++ BT.rows k b) ++ (K.drop (i + 1 + 1)).flatMap (BT.rows k)) ∧ (mendB fan leaf sl P K1 i us).1.slot = sl := by
  have hj := (join_ok hf hlf k hu hp hpl hA hB h1 h2).1
  unfold mendB
  rw [e1, e2, e3, e4, hP]
  generalize joinB fan leaf k a p b = r at *
  unfold InsOk at hj
  cases hr : r.2 with
  | none =>
    rw [hr] at hj
    dsimp only at hj ⊢
    obtain ⟨g3, g4⟩ := hj
    have hch := hR [] [r.1] (ch_one.2 g3)
    refine ⟨⟨⟨?_, ?_⟩, hch⟩, ?_, rfl⟩
    · show lo - 1 ≤ ((K.take i ++ ([r.1] ++ K.drop (i + 1 + 1))).length : Int)
      simp [List.length_take, List.length_drop]; omega
    · show ((K.take i ++ ([r.1] ++ K.drop (i + 1 + 1))).length : Int) ≤ fan
      simp [List.length_take, List.length_drop]; omega
    · show (K.take i ++ ([r.1] ++ K.drop (i + 1 + 1))).flatMap _ = _
      rw [List.flatMap_append, List.flatMap_append, List.flatMap_cons, List.flatMap_nil, List.append_nil, g4]
  | some w =>
    rw [hr] at hj
    dsimp only at hj ⊢
    obtain ⟨g3, g4, g5, g6, g7⟩ := hj
    have hch := hR [w.1] [r.1, w.2] (ch_cons.2 ⟨g3, g4, g5, ch_one.2 g6⟩)
    refine ⟨⟨⟨?_, ?_⟩, hch⟩, ?_, rfl⟩
    · show lo - 1 ≤ ((K.take i ++ ([r.1, w.2] ++ K.drop (i + 1 + 1))).length : Int)
      simp [List.length_take, List.length_drop]; omega
    · show ((K.take i ++ ([r.1, w.2] ++ K.drop (i + 1 + 1))).length : Int) ≤ fan
      simp [List.length_take, List.length_drop]; omega
    · show (K.take i ++ ([r.1, w.2] ++ K.drop (i + 1 + 1))).flatMap _ = _
      rw [List.flatMap_append, List.flatMap_append, List.flatMap_cons, List.flatMap_cons, List.flatMap_nil, List.append_nil, g7]
end
section
variable {fan leaf : Int} {key : Str}
theorem route_bool {ps : List Str} (hr : rising ps = true) (q : Str) {i : Nat} (hi : i ≤ ps.length) : decide (i = routeN ps q) = ((decide (i = 0) || !q.lt (ps.getD (i - 1) Str.nil)) && (decide (i = ps.length) || q.lt (ps.getD i Str.nil))) := by
  have hrg := range_has hr q hi
  rw [← hrg]
  unfold rangeN
  rw [if_neg (by omega), norm_has]
  unfold Span.has
  dsimp only
  rw [Int.toNat_natCast]
  have e2 : (((i : Int) - 1).toNat) = i - 1 := by omega
  rw [e2]
  have e3 : decide ((ps.length : Int) ≤ (i : Int)) = decide (i = ps.length) := decide_eq_decide.2 (by omega)
  rw [e3]
  by_cases e0 : i = 0
  · rw [if_neg (by omega), Str.nil_le, decide_eq_true e0]; simp
  · rw [if_pos (by omega), decide_eq_false e0]; simp
theorem remB_t {k : Nat} {y : BT (k + 1)} {u : List Bool} (hi : routeN (ndP y) key < (ndK y).length) (h : fewB fan leaf k (remB fan leaf key k (ndK y)[routeN (ndP y) key] u).1 = true) :
    remB fan leaf key (k + 1) y u = mendB fan leaf y.slot (ndP y) ((ndK y).set (routeN (ndP y) key) (remB fan leaf key k (ndK y)[routeN (ndP y) key] u).1) (routeN (ndP y) key - 1) (remB fan leaf key k (ndK y)[routeN (ndP y) key] u).2 := by
  rw [← getD_lt (d := default) hi] at h ⊢
  exact if_pos h
theorem remB_f {k : Nat} {y : BT (k + 1)} {u : List Bool} (hi : routeN (ndP y) key < (ndK y).length) (h : fewB fan leaf k (remB fan leaf key k (ndK y)[routeN (ndP y) key] u).1 = false) :
    remB fan leaf key (k + 1) y u = (mkN y.slot (ndP y) ((ndK y).set (routeN (ndP y) key) (remB fan leaf key k (ndK y)[routeN (ndP y) key] u).1), (remB fan leaf key k (ndK y)[routeN (ndP y) key] u).2) := by
  rw [← getD_lt (d := default) hi] at h ⊢
  exact if_neg (by rw [h]; simp)
theorem set_spl9 {α : Type} {l : List α} {i : Nat} (h : i < l.length) (a : α) : l.set i a = l.take i ++ a :: l.drop (i + 1) := (List.set_eq_take_append_cons_drop ..).trans (by rw [if_pos h])
theorem rem_ok (hf : 4 ≤ fan) (hlf : 2 ≤ leaf) (hk16 : key.b.size ≤ 16) :
    ∀ (k : Nat) {lo : Int} {s : Span} {y : BT k} (u : List Bool), (k = 0 ∨ 2 ≤ lo) → s.norm = s → s.has key = true → BT.ok fan leaf k lo (mxB fan leaf k) s y →
      BT.ok fan leaf k (lo - 1) (mxB fan leaf k) s (remB fan leaf key k y u).1 ∧ BT.rows k (remB fan leaf key k y u).1 = withN (BT.rows k y) key delE ∧ (remB fan leaf key k y u).1.slot = y.slot
  | 0, lo, s, y, u, _, hs, hk, h => by
    obtain ⟨⟨h1, h2⟩, h3, h4⟩ := h
    obtain ⟨d1, d2⟩ := del_len h3.srt key
    have hP := h3.with (k := key) (e := delE) hk16 (by show Str.nil.b.size ≤ 16; decide)
    have h2 : ((lfR y).length : Int) ≤ leaf := h2
    have hap : ∀ o, Eff.apply delE o = none := fun o => by simp [Eff.apply, delE]
    refine ⟨⟨⟨?_, ?_⟩, hP, fun p hp => ?_⟩, rfl, rfl⟩
    · show lo - 1 ≤ ((withN (lfR y) key delE).length : Int)
      omega
    · show ((withN (lfR y) key delE).length : Int) ≤ leaf
      omega
    · rcases with_mem (show p ∈ withN (lfR y) key delE from hp) with h | h
      · exact h4 p h
      · rw [h]; exact hk
  | k + 1, lo, s, y, u, hlo, hs, hk, h => by
    obtain ⟨⟨h1, h2⟩, h3⟩ := h
    have hlo : 2 ≤ lo := by omega
    have h2 : ((ndK y).length : Int) ≤ fan := h2
    have hlen := h3.len
    have hr := (h3.piv hs).1
    have hi : routeN (ndP y) key ≤ (ndP y).length := List.length_filter_le _ _
    obtain ⟨v, hi2, v1, v2, v3, v4⟩ := h3.at hs hi
    have hv : v.has key = true := by rw [v2, hk, decide_eq_true rfl]; rfl
    have hmn : k = 0 ∨ 2 ≤ mnB fan leaf k := by
      by_cases e : k = 0
      · exact .inl e
      · right; unfold mnB; rw [if_neg e]; omega
    obtain ⟨g1, g2, g3⟩ := rem_ok hf hlf hk16 k u hmn v1 hv v3
    obtain ⟨ha, hc⟩ := Ch.ahead (f := BT.rows k) (fun u c hu hc => BT.ok.rows hu hc) hs h3 hk
    have hrows : withN (BT.rows (k + 1) y) key delE = ((ndK y).take (routeN (ndP y) key)).flatMap (BT.rows k) ++ (withN (BT.rows k (ndK y)[routeN (ndP y) key]) key delE ++ ((ndK y).drop (routeN (ndP y) key + 1)).flatMap (BT.rows k)) := by
      show withN ((ndK y).flatMap (BT.rows k)) key delE = _
      rw [flat_at (BT.rows k) hi2, with_mid ha hc]
    rw [hrows]
    have hIt := remB_t (fan := fan) (leaf := leaf) (u := u) hi2
    have hIf := remB_f (fan := fan) (leaf := leaf) (u := u) hi2
    generalize remB fan leaf key k (ndK y)[routeN (ndP y) key] u = r at *
    obtain ⟨c, u2⟩ := r
    dsimp only at *
    have hcc := g1.cnt
    have hcnt : ∀ j (hj : j < (ndK y).length), mnB fan leaf k ≤ (BT.cnt k (ndK y)[j] : Int) ∧ (BT.cnt k (ndK y)[j] : Int) ≤ mxB fan leaf k := fun j hj => by
      obtain ⟨_, _, _, _, h9, _⟩ := h3.at hs (i := j) (by omega)
      exact h9.cnt
    cases hfw : fewB fan leaf k c
    · rw [hIf hfw]
      have hge : mnB fan leaf k ≤ (BT.cnt k c : Int) := by unfold fewB at hfw; have := of_decide_eq_false hfw; omega
      have hch := v4 [] [c] (ch_one.2 (g1.to hge hcc.2))
      rw [List.nil_append, List.take_append_drop, List.singleton_append, ← set_spl9 hi2] at hch
      refine ⟨⟨⟨?_, ?_⟩, hch⟩, ?_, rfl⟩
      · show lo - 1 ≤ (((ndK y).set _ c).length : Int)
        rw [List.length_set]; omega
      · show (((ndK y).set _ c).length : Int) ≤ fan
        rw [List.length_set]; exact h2
      · show ((ndK y).set _ c).flatMap _ = _
        rw [set_spl9 hi2, List.flatMap_append, List.flatMap_cons, g2]
    · rw [hIt hfw]
      generalize hie : routeN (ndP y) key = i at *
      obtain ⟨w, w1, w2, w3, w4⟩ := h3.mid hs (i := i - 1) (m := 1) (by omega)
      have hi1 : i - 1 < (ndP y).length := by omega
      have hi3 : i - 1 + 1 < (ndK y).length := by omega
      rw [one_drop hi1, two_drop hi3, ch_cons, ch_one] at w3
      obtain ⟨x1, x2, x3, x4⟩ := w3
      have hPg : (ndP y).getD (i - 1) Str.nil = (ndP y)[i - 1] := getD_lt hi1
      cases i with
      | zero =>
        have ev : v = loS w (ndP y)[0 - 1] := span_eq v1 (loS_norm _ _) fun q => by
          rw [v2, loS_has, w2, route_bool hr q (by omega)]
          show (s.has q && ((decide (0 = 0) || _) && (decide (0 = (ndP y).length) || q.lt ((ndP y).getD 0 Str.nil)))) = (s.has q && (decide (0 = 0) || _) && (decide (0 + 1 = (ndP y).length) || q.lt ((ndP y).getD 1 Str.nil)) && q.lt (ndP y)[0])
          have e0 : (ndP y).getD 0 Str.nil = (ndP y)[0] := getD_lt hi1
          rw [e0, decide_eq_false (show ¬ 0 = (ndP y).length by omega)]
          cases hq : q.lt (ndP y)[0]
          · simp
          · by_cases e1 : 0 + 1 = (ndP y).length
            · simp [e1]
            · have e2 : (ndP y).getD 1 Str.nil = (ndP y)[1]'(by omega) := getD_lt (by omega)
              have e3 : q.lt ((ndP y)[1]'(by omega)) = true := Str.lt_of_lt_of_le hq (Str.lt_asymm (rising_lt hr 1 0 (by omega) (by omega)))
              rw [e2, e3]; simp
        rw [ev] at g1
        obtain ⟨m1, m2, m3⟩ := mend_ok (sl := y.slot) (us := u2) (lo := lo) (K1 := (ndK y).set 0 c) hf hlf hs h3 hi3 h2 h1 w1 hPg x1 x2 g1 x4
          (by have := hcnt _ hi3; omega) (by have := hcnt _ hi3; omega) w4 (by simp) (by rw [List.drop_set_of_lt (by omega)]) (by rw [getD_lt (by simpa using hi2)]; simp) (by rw [getD_lt (by simpa using hi3), List.getElem_set_ne (by omega)])
        refine ⟨m1, m2.trans ?_, m3⟩
        rw [g2]
        show [] ++ _ = [] ++ _
        rw [List.nil_append, List.nil_append, List.append_assoc]
        congr 1
        rw [show (ndK y).drop (0 + 1) = (ndK y)[0 - 1 + 1] :: (ndK y).drop (0 - 1 + 1 + 1) from List.drop_eq_getElem_cons hi3, List.flatMap_cons]
      | succ i =>
        have ev : v = hiS w (ndP y)[i + 1 - 1] := span_eq v1 (hiS_norm _ _) fun q => by
          rw [v2, hiS_has, w2, route_bool hr q (by omega)]
          show (s.has q && ((decide (i + 1 = 0) || !q.lt ((ndP y).getD i Str.nil)) && (decide (i + 1 = (ndP y).length) || q.lt ((ndP y).getD (i + 1) Str.nil)))) = (s.has q && (decide (i = 0) || !q.lt ((ndP y).getD (i - 1) Str.nil)) && (decide (i + 1 = (ndP y).length) || q.lt ((ndP y).getD (i + 1) Str.nil)) && !q.lt (ndP y)[i])
          have e0 : (ndP y).getD i Str.nil = (ndP y)[i] := getD_lt hi1
          rw [e0, decide_eq_false (show ¬ i + 1 = 0 by omega)]
          cases hq : q.lt (ndP y)[i]
          · by_cases e1 : i = 0
            · simp [e1]
            · have e2 : (ndP y).getD (i - 1) Str.nil = (ndP y)[i - 1]'(by omega) := getD_lt (by omega)
              have e3 : q.lt ((ndP y)[i - 1]'(by omega)) = false := by
                cases h9 : q.lt ((ndP y)[i - 1]'(by omega))
                · rfl
                · rw [Str.lt_of_lt_of_le h9 (Str.lt_asymm (rising_lt hr i (i - 1) (by omega) (by omega)))] at hq; cases hq
              rw [e2, e3]; simp
          · simp
        rw [ev] at g1
        have hii : i < (ndK y).length := by omega
        obtain ⟨m1, m2, m3⟩ := mend_ok (sl := y.slot) (us := u2) (lo := lo) (K1 := (ndK y).set (i + 1) c) hf hlf hs h3 hi3 h2 h1 w1 hPg x1 x2 x3 g1
          (by have := hcnt _ hii; show _ ≤ (BT.cnt k (ndK y)[i] : Int) + _; omega) (by have := hcnt _ hii; show (BT.cnt k (ndK y)[i] : Int) + _ ≤ _; omega) w4
          (by rw [show i + 1 - 1 = i from rfl, List.take_set_of_le (by omega)]) (by rw [List.drop_set_of_lt (by omega)]) ((getD_lt (by rw [List.length_set]; omega)).trans (List.getElem_set_ne (by omega) (by rw [List.length_set]; omega))) ((getD_lt (i := i + 1) (by rw [List.length_set]; exact hi2)).trans (by simp))
        refine ⟨m1, m2.trans ?_, m3⟩
        rw [g2]
        show ((ndK y).take i).flatMap _ ++ ((BT.rows k (ndK y)[i] ++ _) ++ _) = _
        rw [show (ndK y).take (i + 1) = (ndK y).take i ++ [(ndK y)[i]] from List.take_succ_eq_append_getElem hii, List.flatMap_append, List.flatMap_cons, List.flatMap_nil, List.append_nil, List.append_assoc, List.append_assoc]
        rfl
end
/-! ## Lending -/
theorem putAll_in : ∀ {M : MH} {G : GH} {b : Nat} {o : Obj}, (∀ p ∈ M, p.1 ≠ b) → putAll G M b = G b
  | [], _, _, _, _ => rfl
  | p :: M, G, b, o, h => by
    have h1 : ¬ b = p.1 := fun e => h p (by simp) e.symm
    show (if b = p.1 then some p.2 else putAll G M b) = _
    rw [if_neg h1]
    exact putAll_in (o := o) fun q hq => h q (by simp [hq])
theorem putAll_mem : ∀ {M : MH} {G : GH}, (M.map (·.1)).Nodup → ∀ p ∈ M, putAll G M p.1 = some p.2
  | q :: M, G, hn, p, hp => by
    rw [List.map_cons, List.nodup_cons] at hn
    show (if p.1 = q.1 then some q.2 else putAll G M p.1) = _
    rcases List.mem_cons.1 hp with rfl | hp
    · rw [if_pos rfl]
    · rw [if_neg fun e : p.1 = q.1 => hn.1 (e ▸ List.mem_map_of_mem (f := Prod.fst) hp)]
      exact putAll_mem hn.2 p hp
theorem putAll_le {M : MH} {G : GH} (h : ∀ p ∈ M, G p.1 = none) : Le G (putAll G M) := fun b o hb => by
  rw [putAll_in (o := o) fun p hp e => by rw [← e, h p hp] at hb; cases hb]
  exact hb
theorem putAll_or : ∀ {M : MH} {G : GH} {b : Nat} {o : Obj}, putAll G M b = some o → G b = some o ∨ ∃ p ∈ M, p.1 = b ∧ p.2 = o
  | [], _, _, _, h => .inl h
  | q :: M, G, b, o, h => by
    have h : (if b = q.1 then some q.2 else putAll G M b) = some o := h
    by_cases e : b = q.1
    · rw [if_pos e] at h; cases h
      exact .inr ⟨q, by simp, e.symm, rfl⟩
    · rw [if_neg e] at h
      rcases putAll_or h with h | ⟨p, hp, h1, h2⟩
      · exact .inl h
      · exact .inr ⟨p, by simp [hp], h1, h2⟩
theorem putAll_none {M : MH} {G : GH} {b : Nat} (h : G b = none) (hb : ∀ p ∈ M, p.1 ≠ b) : putAll G M b = none := by
  cases hg : putAll G M b with
  | none => rfl
  | some o =>
    rcases putAll_or hg with h2 | ⟨p, hp, h1, _⟩
    · rw [h] at h2; cases h2
    · exact absurd h1 (hb p hp)
theorem Fc.lend {P : Program} {g : FuncId} {vs : List Value} {G : GH} {Ml Mp : MH} {Q : Value → MH → Prop}
    (hn : Callable P g) (hc : ∀ G1, Le G G1 → (∀ p ∈ Ml, G1 p.1 = some p.2) → Fc P g vs G1 Mp (fun v _ M' => Q v M')) :
    Fc P g vs G (Ml ++ Mp) (fun v _ M' => ∃ Mq, M' = Ml ++ Mq ∧ Q v Mq) := by
  refine ⟨hn, fun w hw => ?_⟩
  have hnd := hw.nd
  simp only [List.map_append, List.nodup_append] at hnd
  obtain ⟨n1, n2, n3⟩ := hnd
  have hle : Le G (putAll G Ml) := putAll_le fun p hp => hw.dis p (by simp [hp])
  have hmem := putAll_mem (G := G) n1
  have hw2 : Real w (fun b => b ∈ Mp.map (·.1)) (putAll G Ml) Mp w := by
    refine ⟨rfl, rfl, rfl, Nat.le_refl _, fun _ _ _ => rfl, fun b o hb => ?_, fun p hp => hw.mu p (by simp [hp]), fun p hp => ?_, n2, fun p hp => .inr (List.mem_map_of_mem hp)⟩
    · rcases putAll_or hb with h | ⟨p, hp, rfl, rfl⟩
      · exact hw.ro b o h
      · exact hw.mu p (by simp [hp])
    · exact putAll_none (hw.dis p (by simp [hp])) fun q hq e => n3 q.1 (List.mem_map_of_mem hq) p.1 (List.mem_map_of_mem hp) e
  refine ((hc _ hle hmem).2 w hw2).mono ?_
  rintro e w' ⟨v, G', M', rfl, h2, h3, h4, h5⟩
  have hlo : ∀ p ∈ M', w.heap.size ≤ p.1 ∨ p.1 ∈ Mp.map (·.1) := h2.lo
  refine ⟨v, G, Ml ++ M', rfl, ⟨h2.os, h2.tape, h2.output, h2.size, ?_, ?_, ?_, ?_, ?_, ?_⟩, Le.rfl, fun b h1 h => absurd h1 h, M', rfl, h5⟩
  · intro b hb ho
    exact h2.keep b hb fun hm => ho (by rw [List.map_append]; exact List.mem_append_right _ hm)
  · intro b o hb; exact h2.ro b o (h3 b o (hle b o hb))
  · intro p hp
    rcases List.mem_append.1 hp with hp | hp
    · exact h2.ro _ _ (h3 _ _ (hmem p hp))
    · exact h2.mu p hp
  · intro p hp
    rcases List.mem_append.1 hp with hp | hp
    · exact hw.dis p (by simp [hp])
    · have := h2.dis p hp
      cases hg : G p.1 with
      | none => rfl
      | some o => rw [h3 _ _ (hle _ _ hg)] at this; cases this
  · rw [List.map_append, List.nodup_append]
    refine ⟨n1, h2.nd, fun a ha b hb e => ?_⟩
    subst e
    obtain ⟨p, hp, rfl⟩ := List.mem_map.1 ha
    obtain ⟨q, hq, e⟩ := List.mem_map.1 hb
    have h6 := h2.dis q hq
    rw [e, h3 _ _ (hmem p hp)] at h6; cases h6
  · intro p hp
    rcases List.mem_append.1 hp with hp | hp
    · exact .inr (List.mem_map_of_mem (by simp [hp]))
    · rcases hlo p hp with h | h
      · exact .inl h
      · right; rw [List.map_append]; exact List.mem_append_right _ h
theorem OwnR.lent {α : Type} {e : Enc α} {T : TypeId} {G G1 : GH} {v : Value} {l : List α} {Ms : MH} (ho : OwnR e T G v l Ms) (hl : Le G G1) (hm : ∀ p ∈ Ms, G1 p.1 = some p.2) : SlR e G1 v l := by
  obtain ⟨css, h1, ⟨h2, h3⟩, h4⟩ := ho
  rcases h3 with ⟨rfl, hn, rfl⟩ | ⟨b, cap, cur, rfl, h5, h6, h7, h8, rfl⟩
  · have : l = [] := List.eq_nil_of_length_eq_zero hn
    subst this
    exact SlR.nil
  · refine SlR.of_block (hm (b, .cells cur T (0, 0)) (by simp)) (fun i hi => ?_) (h1.mono hl) rfl h5 h6 h4
    rw [h2] at hi
    rw [← h8, List.getElem?_take, if_pos hi]
    simp
theorem cellsG_at {G : GH} {b : Nat} {L : List Value} {T : TypeId} {fr : Nat × Nat} (h : G b = some (.cells L.toArray T fr)) : CellsG G b 0 L := ⟨_, _, _, h, fun j hj => by simp⟩
theorem CellsG.drop {G : GH} {b : Nat} {cs : List Value} (h : CellsG G b 0 cs) (o : Nat) : CellsG G b o (cs.drop o) := by
  obtain ⟨c, T, fr, h1, h2⟩ := h
  refine ⟨c, T, fr, h1, fun j hj => ?_⟩
  rw [List.length_drop] at hj
  have := h2 (o + j) (by omega)
  rw [Nat.zero_add] at this
  rw [this, List.getElem?_drop]
theorem in_of {M : MH} {G : GH} {i b : Nat} {o : Obj} (h : ∀ p ∈ M, G p.1 = some p.2) (hm : nthM M i = some (b, o)) : G b = some o := h _ (nthM_mem hm)
theorem sub_of {A M : MH} {G : GH} (hs : A.Sublist M) (h : ∀ p ∈ M, G p.1 = some p.2) : ∀ p ∈ A, G p.1 = some p.2 := fun p hp => h p (hs.subset hp)
section
variable {E : Env} {Q : Exit → Kt} {f : Fr} {G : GH} {M : MH} {ops rest : List Oper} {q : Bool} {K : Kt} {d : Nat} {ty : TypeId} {pos : String} {aft : Array Edge}
theorem W.lendQ {g : FuncId} {args : List Operand} {at' : Array TypeId} {vs : List Value} {v : Value} (hc : ∀ G1, Le G G1 → (∀ p ∈ M, G1 p.1 = some p.2) → Fc E.P g vs G1 [] (fun v' _ _ => v' = v)) (hn : Callable E.P g) (ha : args.map (ev f) = vs)
    (k : W E ops.toArray q rest (upd f d v) G M K) (hd : Nat.blt d E.n = true := by rfl) :
    W E ops.toArray q (⟨some d, .call { callee := .value (.func g), args := args.toArray, argTypes := at' }, ty, pos, aft, none⟩ :: rest) f G M K := by
  have hL : Fc E.P g vs G (M ++ []) (fun v' _ M' => ∃ Mq, M' = M ++ Mq ∧ (v' = v ∧ Mq = [])) := Fc.lend (Q := fun v' M' => v' = v ∧ M' = []) hn fun G1 h1 h2 => by
    obtain ⟨c1, c2⟩ := hc G1 h1 h2
    refine ⟨c1, fun w hw => (c2 w hw).mono ?_⟩
    rintro e w' ⟨v', G', M', a1, a2, a3, a4, a5⟩
    exact ⟨v', G', [], a1, a2.sub (List.nil_sublist _), a3, a4, a5, rfl⟩
  rw [List.append_nil] at hL
  have hrun : ∀ w, (execOp (ev f) ⟨some d, .call { callee := .value (.func g), args := args.toArray, argTypes := at' }, ty, pos, aft, none⟩).run E.P w = .ok (.enter g vs.toArray) w := fun w => by
    simp [execOp, resolve, invoke, ev, Deferred.ofValue, ha, hn _ w]
  have hcall : ∀ w, E.real G M w → Calls E.P g vs.toArray w fun e w' => e = .returned v ∧ E.real G M w' := fun w hr => by
    have hw : Real w (fun b => b ∈ M.map (·.1)) G M w := ⟨rfl, rfl, rfl, Nat.le_refl _, fun _ _ _ => rfl, hr.r.ro, hr.r.mu, hr.r.dis, hr.r.nd, fun p hp => .inr (List.mem_map_of_mem hp)⟩
    refine (hL.2 w hw).mono ?_
    rintro e w' ⟨v', G', M', rfl, h2, h3, h4, Mq, e5, rfl, rfl⟩
    rw [List.append_nil] at e5; subst e5
    have h5 := Real.call (Mp := M') (Mr := []) (by rw [List.append_nil]; exact hr.r) h2 h4
    rw [List.append_nil] at h5
    refine ⟨rfl, Env.real.anti (G' := G') ⟨h5, hr.le.trans h3, ?_⟩ h3 hr.le⟩
    intro b hb hb'
    cases hg : G b with
    | none =>
      rcases h4 b hg hb' with h7 | h7
      · exact .inl (Nat.le_trans hr.r.size h7)
      · obtain ⟨p, hp, e⟩ := List.mem_map.1 h7
        rcases hr.r.lo p hp with h8 | h8
        · exact .inl (e ▸ h8)
        · exact .inr (e ▸ h8)
    | some o => exact hr.nw b hb (by simp [hg])
  cases q
  · intro a w Q hi hr hK
    refine wpList_plain rfl fun K' hK' => ?_
    unfold Oper.wp
    rw [hi.eval, hrun w]
    refine (hcall w hr).mono ?_
    rintro e w' ⟨rfl, h⟩
    exact hK' _ _ (k _ w' Q (hi.put hd v) h hK)
  · intro a hi
    refine wpQuiet_step fun K' hK' => ?_
    rw [if_pos (by rfl)]
    refine ⟨v, fun w hr => ?_, hK' _ (k _ (hi.put hd v))⟩
    unfold Oper.quietAt
    rw [hi.eval, hrun w]
    exact ⟨rfl, hcall w hr⟩
theorem W.lendO {g : FuncId} {args : List Operand} {at' : Array TypeId} {vs : List Value} {R : Value → MH → Prop} (hc : ∀ G1, Le G G1 → (∀ p ∈ M, G1 p.1 = some p.2) → Fc E.P g vs G1 [] (fun v' _ M' => R v' M')) (hn : Callable E.P g) (ha : args.map (ev f) = vs)
    (k : ∀ v' G' Mq, Le G G' → R v' Mq → W E ops.toArray false rest (upd f d v') G' (M ++ Mq) K) (hd : Nat.blt d E.n = true := by rfl) :
    W E ops.toArray false (⟨some d, .call { callee := .value (.func g), args := args.toArray, argTypes := at' }, ty, pos, aft, none⟩ :: rest) f G M K := by
  refine W.call (Mp := M ++ []) (Mr := []) (Fc.lend (Q := R) hn hc) ha (by simp) ?_ hd
  rintro v' G' M' hl ⟨Mq, rfl, h⟩
  have := k v' G' Mq hl h
  simpa using this
end
theorem mem_nthM : ∀ {M : MH} {p : Nat × Obj}, p ∈ M → ∃ i, nthM M i = some p
  | q :: M, p, h => by
    rcases List.mem_cons.1 h with rfl | h
    · exact ⟨0, rfl⟩
    · obtain ⟨i, hi⟩ := mem_nthM h
      exact ⟨i + 1, hi⟩
theorem ok_loadM {E : Env} {f : Fr} {G : GH} {M : MH} {d : Nat} {ty t : TypeId} {pos : String} {aft : Array Edge} {x : Operand} {b o : Nat} {L vs : List Value} {T : TypeId} {bb : Bool} {j : Nat} (hm : (b, Obj.cells L.toArray T (0, 0)) ∈ M) (ht : tyK E.P t = some (bb, j)) (hx : ev f x = .pointer (some ⟨b, o, none⟩))
    (hv : (L.drop o).take j = vs) (hl : vs.length = j) (hb : bb = false → j = 1) : Ok E f G M ⟨some d, .load t x, ty, pos, aft, none⟩ (mkV bb vs) := by
  obtain ⟨i, hi⟩ := mem_nthM hm
  exact ok_loadB (i := i) ht hx hi hv hl hb
/-! ## Pointers -/
def ePt : Enc (Option Nat) where
  k := 1
  w := 8
  R := fun _ cs o => cs = [.pointer (o.map fun b => ⟨b, 0, none⟩)]
  mono := fun _ h => h
  len := fun h => by rw [h]; rfl
  one := fun h u hu => by rw [h] at hu; simp at hu; subst hu; rfl
instance : EqE ePt (fun o => [.pointer (o.map fun b => ⟨b, 0, none⟩)]) := ⟨fun _ _ _ h => h⟩
def FlatE {α : Type} (e : Enc α) : Prop := ∀ G G' cs a, e.R G cs a → e.R G' cs a
theorem FlatE.all {α : Type} {e : Enc α} (he : FlatE e) {G G' : GH} : ∀ {css : List (List Value)} {l : List α}, AllR e G css l → AllR e G' css l
  | [], [], _ => trivial
  | _ :: _, _ :: _, h => ⟨he _ _ _ _ h.1, FlatE.all he h.2⟩
  | [], _ :: _, h => h.elim
  | _ :: _, [], h => h.elim
theorem FlatE.own {α : Type} {e : Enc α} (he : FlatE e) {T : TypeId} {G G' : GH} {v : Value} {l : List α} {Ms : MH} (h : OwnR e T G v l Ms) : OwnR e T G' v l Ms := by
  obtain ⟨css, h1, h2⟩ := h
  exact ⟨css, he.all h1, h2⟩
theorem flat_pt : FlatE ePt := fun _ _ _ _ h => h
theorem flat_pair : FlatE ePair := fun _ _ _ _ h => h
theorem flat_str : FlatE eStr := fun _ _ _ _ h => h
theorem flat_int : FlatE eInt := fun _ _ _ _ h => h
/-! ## Nodes in boxes -/
structure BNd where
  slot : Int
  lvl : Int
  P : List Str
  K : List Int
  R : List Pair
def BoxM (Tn Ts : TypeId) (b : Nat) (n : BNd) (G : GH) (Ms : MH) : Prop := ∃ vp vk vr Mp, Ms = (b, .cells (List.toArray [.int .i64 n.lvl, vp, vk, vr]) Tn (0, 0)) :: Mp ∧ OwnR eStr Ts G vp n.P Mp ∧ SlR eInt G vk n.K ∧ SlR ePair G vr n.R
def BoxG (b : Nat) (n : BNd) (G : GH) : Prop := ∃ vp vk vr, CellsG G b 0 [.int .i64 n.lvl, vp, vk, vr] ∧ SlR eStr G vp n.P ∧ SlR eInt G vk n.K ∧ SlR ePair G vr n.R
def Blk (cells : List (Option Nat)) (s : Int) (b : Nat) : Prop := 0 ≤ s ∧ cells[s.toNat]? = some (some b)
def NdM (Tn Ts : TypeId) (cells : List (Option Nat)) (n : BNd) (G : GH) (Ms : MH) : Prop := ∃ b, Blk cells n.slot b ∧ BoxM Tn Ts b n G Ms
def NdG (cells : List (Option Nat)) (n : BNd) (G : GH) : Prop := ∃ b, Blk cells n.slot b ∧ BoxG b n G
def NsM (Tn Ts : TypeId) (cells : List (Option Nat)) : List BNd → GH → MH → Prop
  | [], _, Ms => Ms = []
  | n :: l, G, Ms => ∃ A B, Ms = A ++ B ∧ NdM Tn Ts cells n G A ∧ NsM Tn Ts cells l G B
def NsG (cells : List (Option Nat)) (l : List BNd) (G : GH) : Prop := ∀ n ∈ l, NdG cells n G
section
variable {Tn Ts : TypeId} {cells cells' : List (Option Nat)} {G G' : GH}
theorem BoxM.mono {b : Nat} {n : BNd} {Ms : MH} (hl : Le G G') (h : BoxM Tn Ts b n G Ms) : BoxM Tn Ts b n G' Ms := by
  obtain ⟨vp, vk, vr, Mp, h1, h2, h3, h4⟩ := h
  exact ⟨vp, vk, vr, Mp, h1, h2.mono hl, h3.mono hl, h4.mono hl⟩
theorem BoxM.lent {b : Nat} {n : BNd} {Ms : MH} (h : BoxM Tn Ts b n G Ms) (hl : Le G G') (hm : ∀ p ∈ Ms, G' p.1 = some p.2) : BoxG b n G' := by
  obtain ⟨vp, vk, vr, Mp, rfl, h2, h3, h4⟩ := h
  exact ⟨vp, vk, vr, cellsG_at (hm _ (List.mem_cons_self ..)), h2.lent hl fun p hp => hm p (List.mem_cons_of_mem _ hp), h3.mono hl, h4.mono hl⟩
theorem BoxG.mono {b : Nat} {n : BNd} (hl : Le G G') (h : BoxG b n G) : BoxG b n G' := by
  obtain ⟨vp, vk, vr, h1, h2, h3, h4⟩ := h
  exact ⟨vp, vk, vr, h1.mono hl, h2.mono hl, h3.mono hl, h4.mono hl⟩
theorem NdM.mono {n : BNd} {Ms : MH} (hl : Le G G') (h : NdM Tn Ts cells n G Ms) : NdM Tn Ts cells n G' Ms := by
  obtain ⟨b, h1, h2⟩ := h
  exact ⟨b, h1, h2.mono hl⟩
theorem NsM.mono (hl : Le G G') : ∀ {l : List BNd} {Ms : MH}, NsM Tn Ts cells l G Ms → NsM Tn Ts cells l G' Ms
  | [], _, h => h
  | _ :: _, _, ⟨A, B, e, h1, h2⟩ => ⟨A, B, e, h1.mono hl, NsM.mono hl h2⟩
theorem NsG.mono (hl : Le G G') {l : List BNd} (h : NsG cells l G) : NsG cells l G' := fun n hn => by
  obtain ⟨b, h1, h2⟩ := h n hn
  exact ⟨b, h1, h2.mono hl⟩
theorem NsM.lent (hl : Le G G') : ∀ {l : List BNd} {Ms : MH}, NsM Tn Ts cells l G Ms → (∀ p ∈ Ms, G' p.1 = some p.2) → NsG cells l G'
  | [], _, _, _ => fun n hn => by cases hn
  | n :: l, _, ⟨A, B, rfl, ⟨b, h1, h2⟩, h3⟩, hm => fun m hmem => by
    rcases List.mem_cons.1 hmem with rfl | hmem
    · exact ⟨b, h1, h2.lent hl fun p hp => hm p (by simp [hp])⟩
    · exact NsM.lent hl h3 (fun p hp => hm p (by simp [hp])) m hmem
theorem NsM.app : ∀ {l1 l2 : List BNd} {Ms : MH}, NsM Tn Ts cells (l1 ++ l2) G Ms ↔ ∃ A B, Ms = A ++ B ∧ NsM Tn Ts cells l1 G A ∧ NsM Tn Ts cells l2 G B
  | [], l2, Ms => ⟨fun h => ⟨[], Ms, rfl, rfl, h⟩, fun ⟨A, B, e, h1, h2⟩ => by
      have h1 : A = [] := h1
      subst h1; subst e; exact h2⟩
  | n :: l1, l2, Ms => by
    constructor
    · rintro ⟨A, B, rfl, h1, h2⟩
      obtain ⟨C, D, rfl, h3, h4⟩ := NsM.app.1 h2
      exact ⟨A ++ C, D, by simp, ⟨A, C, rfl, h1, h3⟩, h4⟩
    · rintro ⟨A, B, rfl, ⟨C, D, rfl, h1, h2⟩, h3⟩
      exact ⟨C, D ++ B, by simp, h1, NsM.app.2 ⟨D, B, rfl, h2, h3⟩⟩
theorem NsM.perm {l l' : List BNd} (hp : l.Perm l') : ∀ {Ms : MH}, NsM Tn Ts cells l G Ms → ∃ Ms', Ms'.Perm Ms ∧ NsM Tn Ts cells l' G Ms' := by
  induction hp with
  | nil => exact fun {Ms} h => ⟨Ms, List.Perm.refl _, h⟩
  | cons n hp ih =>
    rintro Ms ⟨A, B, rfl, h1, h2⟩
    obtain ⟨B', h3, h4⟩ := ih h2
    exact ⟨A ++ B', List.Perm.append_left _ h3, A, B', rfl, h1, h4⟩
  | swap n m l =>
    rintro Ms ⟨A, B, rfl, h1, C, D, rfl, h2, h3⟩
    refine ⟨C ++ (A ++ D), ?_, C, A ++ D, rfl, h2, A, D, rfl, h1, h3⟩
    rw [← List.append_assoc, ← List.append_assoc]
    exact List.Perm.append_right _ List.perm_append_comm
  | trans _ _ ih1 ih2 =>
    rintro Ms h
    obtain ⟨M1, h1, h2⟩ := ih1 h
    obtain ⟨M2, h3, h4⟩ := ih2 h2
    exact ⟨M2, h3.trans h1, h4⟩
theorem Blk.agree {s : Int} {b : Nat} (h : Blk cells s b) (ha : cells'[s.toNat]? = cells[s.toNat]?) : Blk cells' s b := ⟨h.1, ha.trans h.2⟩
theorem Blk.one {s : Int} {b c : Nat} (h : Blk cells s b) (h2 : Blk cells s c) : b = c := by
  have := h.2.symm.trans h2.2; simpa using this
theorem NsM.agree : ∀ {l : List BNd} {Ms : MH}, NsM Tn Ts cells l G Ms → (∀ n ∈ l, cells'[n.slot.toNat]? = cells[n.slot.toNat]?) → NsM Tn Ts cells' l G Ms
  | [], _, h, _ => h
  | n :: l, _, ⟨A, B, e, ⟨b, h1, h2⟩, h3⟩, ha => ⟨A, B, e, ⟨b, h1.agree (ha n (by simp)), h2⟩, NsM.agree h3 fun m hm => ha m (by simp [hm])⟩
theorem NsM.blk : ∀ {l : List BNd} {Ms : MH}, NsM Tn Ts cells l G Ms → ∀ n ∈ l, ∃ b, Blk cells n.slot b
  | _ :: _, _, ⟨A, B, e, ⟨b, h1, h2⟩, h3⟩, m, hm => by
    rcases List.mem_cons.1 hm with rfl | hm
    · exact ⟨b, h1⟩
    · exact NsM.blk h3 m hm
theorem NsM.mem : ∀ {l : List BNd} {Ms : MH}, NsM Tn Ts cells l G Ms → ∀ n ∈ l, ∃ b vp vk vr Mp, Blk cells n.slot b ∧ (b, Obj.cells (List.toArray [.int .i64 n.lvl, vp, vk, vr]) Tn (0, 0)) ∈ Ms ∧ Mp.Sublist Ms ∧ OwnR eStr Ts G vp n.P Mp ∧ SlR eInt G vk n.K ∧ SlR ePair G vr n.R
  | n :: l, _, ⟨A, B, e, ⟨b, h1, vp, vk, vr, Mp, e2, h2, h3, h4⟩, h5⟩, m, hm => by
    subst e e2
    rcases List.mem_cons.1 hm with rfl | hm
    · exact ⟨b, vp, vk, vr, Mp, h1, by simp, ((List.sublist_append_left Mp B).cons _), h2, h3, h4⟩
    · obtain ⟨b, vp, vk, vr, Mp, h1, h2, h3, h4⟩ := NsM.mem h5 m hm
      exact ⟨b, vp, vk, vr, Mp, h1, List.mem_append_right _ h2, h3.trans (List.sublist_append_right _ _), h4⟩
theorem NsM.two {l1 l2 : List BNd} {A B : MH} (h1 : NsM Tn Ts cells l1 G A) (h2 : NsM Tn Ts cells l2 G B) : NsM Tn Ts cells (l1 ++ l2) G (A ++ B) := NsM.app.2 ⟨A, B, rfl, h1, h2⟩
end
def TrG (bt ba : Nat) (root fan leaf : Int) (cells : List (Option Nat)) (u : List Bool) (G : GH) : Prop :=
  CellsG G bt 0 [.pointer (some ⟨ba, 0, none⟩), .int .i64 root, .int .i64 fan, .int .i64 leaf] ∧ ∃ vc vu vf, CellsG G ba 0 [vc, vu, vf] ∧ SlR ePt G vc cells ∧ SlR eBool G vu u ∧ cells.length = u.length ∧ u.length ≤ 4096 ∧ ∃ f : List Int, SlR eInt G vf f ∧ f.length = (freeN u).length
theorem TrG.mono {bt ba : Nat} {root fan leaf : Int} {cells : List (Option Nat)} {u : List Bool} {G G' : GH} (hl : Le G G') (h : TrG bt ba root fan leaf cells u G) : TrG bt ba root fan leaf cells u G' := by
  obtain ⟨h1, vc, vu, vf, h2, h3, h4, h5, h6, f, h7, h8⟩ := h
  exact ⟨h1.mono hl, vc, vu, vf, h2.mono hl, h3.mono hl, h4.mono hl, h5, h6, f, h7.mono hl, h8⟩
theorem ArR.lent {Te TB TI Tb : TypeId} {bt ba : Nat} {root fan leaf : Int} {st : List (Option Nat) × List Bool} {G G' : GH} {Ms : MH} (h : ArR ePt Te TB TI Tb ba G st Ms) (hl : Le G G') (hm : ∀ p ∈ Ms, G' p.1 = some p.2) {Tt : TypeId}
    (ht : G' bt = some (.cells (List.toArray [.pointer (some ⟨ba, 0, none⟩), .int .i64 root, .int .i64 fan, .int .i64 leaf]) Tt (0, 0))) : TrG bt ba root fan leaf st.1 st.2 G' := by
  obtain ⟨f, ⟨vc, vu, vf, Mc, Mu, Mf, rfl, h2, h3, h4⟩, h5, h6, _, h8⟩ := h
  exact ⟨cellsG_at ht, vc, vu, vf, cellsG_at (hm _ (List.mem_cons_self ..)), h2.lent hl fun p hp => hm p (by simp [hp]), h3.lent hl fun p hp => hm p (by simp [hp]), h5, h6, f, h4.lent hl fun p hp => hm p (by simp [hp]), h8.length_eq⟩
end Go.Fw
