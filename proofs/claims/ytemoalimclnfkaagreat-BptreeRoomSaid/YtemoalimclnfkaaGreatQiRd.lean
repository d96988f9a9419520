/- A row fewer in a tree of rows. Plain Lean; nothing of the program is named here. No condition. -/
import Derived.Test.YtemoalimclnfkaaGreatQiMl
set_option linter.unusedVariables false
set_option linter.unusedSimpArgs false
set_option linter.unnecessarySimpa false
namespace Go.Fw
open Go Go.RowKit
def fewB (fan leaf : Int) (k : Nat) (y : BT k) : Bool := decide ((BT.cnt k y : Int) < mnB fan leaf k)
def join0 (leaf : Int) (sa sb : Int) (R : List Pair) : BT 0 × Option (Str × BT 0) := if (R.length : Int) ≤ leaf then (mkL sa R, none) else (mkL sa (rhA R), some (rhK R, mkL sb (rhB R)))
def joinP {k : Nat} (fan : Int) (sa sb : Int) (P : List Str) (K : List (BT k)) : BT (k + 1) × Option (Str × BT (k + 1)) :=
  if (K.length : Int) ≤ fan then (mkN sa P K, none)
  else (mkN sa (P.take ((K.length + 1) / 2 - 1)) (K.take ((K.length + 1) / 2)), some (P.getD ((K.length + 1) / 2 - 1) Str.nil, mkN sb (P.drop ((K.length + 1) / 2)) (K.drop ((K.length + 1) / 2))))
def joinB (fan leaf : Int) : (k : Nat) → BT k → Str → BT k → BT k × Option (Str × BT k)
  | 0, a, p, b => join0 leaf a.slot b.slot (lfR a ++ lfR b)
  | k + 1, a, p, b => joinP fan a.slot b.slot (ndP a ++ p :: ndP b) (ndK a ++ ndK b)
def mendB {k : Nat} (fan leaf : Int) (s : Int) (P : List Str) (K : List (BT k)) (i : Nat) (u : List Bool) : BT (k + 1) × List Bool :=
  match (joinB fan leaf k (K.getD i default) (P.getD i Str.nil) (K.getD (i + 1) default)).2 with
  | none => (mkN s (P.take i ++ ([] ++ P.drop (i + 1))) (K.take i ++ ([(joinB fan leaf k (K.getD i default) (P.getD i Str.nil) (K.getD (i + 1) default)).1] ++ K.drop (i + 1 + 1))), u.set (K.getD (i + 1) default).slot.toNat false)
  | some w => (mkN s (P.take i ++ ([w.1] ++ P.drop (i + 1))) (K.take i ++ ([(joinB fan leaf k (K.getD i default) (P.getD i Str.nil) (K.getD (i + 1) default)).1, w.2] ++ K.drop (i + 1 + 1))), u)
def delE : Eff := ⟨3, Str.nil⟩
def remB (fan leaf : Int) (key : Str) : (k : Nat) → BT k → List Bool → BT k × List Bool
  | 0, y, u => (mkL y.slot (withN (lfR y) key delE), u)
  | k + 1, y, u => if fewB fan leaf k (remB fan leaf key k ((ndK y).getD (routeN (ndP y) key) default) u).1 = true
      then mendB fan leaf y.slot (ndP y) ((ndK y).set (routeN (ndP y) key) (remB fan leaf key k ((ndK y).getD (routeN (ndP y) key) default) u).1) (routeN (ndP y) key - 1) (remB fan leaf key k ((ndK y).getD (routeN (ndP y) key) default) u).2
      else (mkN y.slot (ndP y) ((ndK y).set (routeN (ndP y) key) (remB fan leaf key k ((ndK y).getD (routeN (ndP y) key) default) u).1), (remB fan leaf key k ((ndK y).getD (routeN (ndP y) key) default) u).2)
section
variable {fan leaf : Int} {key : Str}
theorem del_len {l : List Pair} (h : Srt l) (k : Str) : (withN l k delE).length ≤ l.length ∧ l.length ≤ (withN l k delE).length + 1 := by
  have hap : Eff.apply delE (getN l k) = none := by simp [Eff.apply, delE]
  rw [withN_mid, h.front, hap, List.length_append, List.length_append]
  have := fndN_le l k
  cases hs : (getN l k).isSome
  · rw [h.back_no hs]
    simp [midN, List.length_take, List.length_drop]
    omega
  · have hh := h.has k
    rw [hs] at hh
    obtain ⟨q1, q2⟩ := of_decide_eq_true hh.symm
    rw [h.back_yes q1 q2]
    simp [midN, List.length_take, List.length_drop]
    omega
theorem join_ok (hf : 4 ≤ fan) (hlf : 2 ≤ leaf) : ∀ (k : Nat) {u : Span} {a b : BT k} {p : Str} {la ha lb hb : Int}, u.norm = u → u.has p = true → p ≠ u.lo → BT.ok fan leaf k la ha (loS u p) a → BT.ok fan leaf k lb hb (hiS u p) b →
    2 * mnB fan leaf k - 1 ≤ (BT.cnt k a : Int) + (BT.cnt k b : Int) → (BT.cnt k a : Int) + (BT.cnt k b : Int) ≤ 2 * mxB fan leaf k → InsOk fan leaf k (mnB fan leaf k) u (BT.rows k a ++ BT.rows k b) (joinB fan leaf k a p b) ∧ (joinB fan leaf k a p b).1.slot = a.slot ∧ ∀ w, (joinB fan leaf k a p b).2 = some w → w.2.slot = b.slot
  | 0, u, a, b, p, la, ha, lb, hb, hu, hp, hpl, hA, hB, h1, h2 => by
    have h1 : 2 * (leaf / 2) - 1 ≤ ((lfR a).length : Int) + ((lfR b).length : Int) := h1
    have h2 : ((lfR a).length : Int) + ((lfR b).length : Int) ≤ 2 * leaf := h2
    have hAB : PairsR (lfR a ++ lfR b) ∧ ∀ q ∈ lfR a ++ lfR b, u.has q.key = true := by
      have a3 : ∀ q ∈ lfR a, u.has q.key = true ∧ q.key.lt p = true := fun q hq => by have := hA.2.2 q hq; rw [loS_has, Bool.and_eq_true] at this; exact this
      have b3 : ∀ q ∈ lfR b, u.has q.key = true ∧ q.key.lt p = false := fun q hq => by have := hB.2.2 q hq; rw [hiS_has, Bool.and_eq_true, Bool.not_eq_true'] at this; exact this
      refine ⟨pairsR_iff.2 ⟨fun q hq => ?_, srt_app hA.2.1.srt hB.2.1.srt fun x hx y hy => Str.lt_of_lt_of_le (a3 x hx).2 (b3 y hy).2⟩, fun q hq => ?_⟩
      · rcases List.mem_append.1 hq with hq | hq
        · exact (pairsR_iff.1 hA.2.1).1 q hq
        · exact (pairsR_iff.1 hB.2.1).1 q hq
      · rcases List.mem_append.1 hq with hq | hq
        · exact (a3 q hq).1
        · exact (b3 q hq).1
    rw [show joinB fan leaf 0 a p b = join0 leaf a.slot b.slot (lfR a ++ lfR b) from rfl]
    unfold join0
    by_cases h5 : ((lfR a ++ lfR b).length : Int) ≤ leaf
    · rw [if_pos h5]
      refine ⟨⟨⟨⟨?_, h5⟩, hAB⟩, rfl⟩, rfl, fun w hw => by cases hw⟩
      show leaf / 2 ≤ ((lfR a ++ lfR b).length : Int)
      rw [List.length_append]; omega
    · rw [if_neg h5]
      rw [List.length_append] at h5
      have hl2 : 2 ≤ (lfR a ++ lfR b).length := by rw [List.length_append]; omega
      obtain ⟨r1, r2, r3, r4, r5, r6, r7, _⟩ := rh_rows hAB.1 hl2 hAB.2
      refine ⟨⟨r1, r2, ⟨⟨?_, ?_⟩, r3, r5⟩, ⟨⟨?_, ?_⟩, r4, r6⟩, r7⟩, rfl, fun w hw => by cases hw; rfl⟩
      · show leaf / 2 ≤ ((rhA (lfR a ++ lfR b)).length : Int)
        unfold rhA; rw [List.length_take, List.length_append]; omega
      · show ((rhA (lfR a ++ lfR b)).length : Int) ≤ leaf
        unfold rhA; rw [List.length_take, List.length_append]; omega
      · show leaf / 2 ≤ ((rhB (lfR a ++ lfR b)).length : Int)
        unfold rhB; rw [List.length_drop, List.length_append]; omega
      · show ((rhB (lfR a ++ lfR b)).length : Int) ≤ leaf
        unfold rhB; rw [List.length_drop, List.length_append]; omega
  | k + 1, u, a, b, p, la, ha, lb, hb, hu, hp, hpl, hA, hB, h1, h2 => by
    have h1 : 2 * (fan / 2) - 1 ≤ ((ndK a).length : Int) + ((ndK b).length : Int) := h1
    have h2 : ((ndK a).length : Int) + ((ndK b).length : Int) ≤ 2 * fan := h2
    have hch : Ch (BT.ok fan leaf k (mnB fan leaf k) (mxB fan leaf k)) u (ndP a ++ p :: ndP b) (ndK a ++ ndK b) := (ch_app hu hA.2.len).2 ⟨hp, hpl, hA.2, hB.2⟩
    have hlen := hch.len
    have hrw : BT.rows (k + 1) a ++ BT.rows (k + 1) b = (ndK a ++ ndK b).flatMap (BT.rows k) := by rw [List.flatMap_append]; rfl
    rw [hrw]
    have hn : (ndK a ++ ndK b).length = (ndK a).length + (ndK b).length := List.length_append
    rw [show joinB fan leaf (k + 1) a p b = joinP fan a.slot b.slot (ndP a ++ p :: ndP b) (ndK a ++ ndK b) from rfl]
    unfold joinP
    generalize ndP a ++ p :: ndP b = P at *
    generalize ndK a ++ ndK b = K at *
    by_cases h5 : (K.length : Int) ≤ fan
    · rw [if_pos h5]
      refine ⟨⟨⟨⟨?_, h5⟩, hch⟩, rfl⟩, rfl, fun w hw => by cases hw⟩
      show fan / 2 ≤ (K.length : Int)
      omega
    · rw [if_neg h5]
      have hm : (K.length + 1) / 2 - 1 < P.length := by omega
      have e1 : P.take ((K.length + 1) / 2 - 1) ++ P[(K.length + 1) / 2 - 1] :: P.drop ((K.length + 1) / 2) = P := by
        have := List.drop_eq_getElem_cons hm
        rw [show (K.length + 1) / 2 - 1 + 1 = (K.length + 1) / 2 by omega] at this
        rw [← this, List.take_append_drop]
      have e2 : K.take ((K.length + 1) / 2) ++ K.drop ((K.length + 1) / 2) = K := List.take_append_drop _ _
      have h6 : Ch (BT.ok fan leaf k (mnB fan leaf k) (mxB fan leaf k)) u (P.take ((K.length + 1) / 2 - 1) ++ P[(K.length + 1) / 2 - 1] :: P.drop ((K.length + 1) / 2)) (K.take ((K.length + 1) / 2) ++ K.drop ((K.length + 1) / 2)) := by rw [e1, e2]; exact hch
      rw [ch_app hu (by rw [List.length_take, List.length_take]; omega)] at h6
      obtain ⟨a1, a2, a3, a4⟩ := h6
      refine ⟨?_, rfl, fun w hw => by cases hw; rfl⟩
      show u.has (P.getD ((K.length + 1) / 2 - 1) Str.nil) = true ∧ _
      rw [getD_lt hm]
      refine ⟨a1, a2, ⟨⟨?_, ?_⟩, a3⟩, ⟨⟨?_, ?_⟩, a4⟩, ?_⟩
      · show fan / 2 ≤ ((K.take ((K.length + 1) / 2)).length : Int)
        rw [List.length_take]; omega
      · show ((K.take ((K.length + 1) / 2)).length : Int) ≤ fan
        rw [List.length_take]; omega
      · show fan / 2 ≤ ((K.drop ((K.length + 1) / 2)).length : Int)
        rw [List.length_drop]; omega
      · show ((K.drop ((K.length + 1) / 2)).length : Int) ≤ fan
        rw [List.length_drop]; omega
      · show (K.take ((K.length + 1) / 2)).flatMap _ ++ (K.drop ((K.length + 1) / 2)).flatMap _ = _
        rw [← List.flatMap_append, e2]
theorem two_drop {α : Type} {l : List α} {i : Nat} (h : i + 1 < l.length) : (l.drop i).take 2 = [l[i]'(by omega), l[i + 1]] := by
  rw [List.drop_eq_getElem_cons (by omega), List.take_succ_cons, List.drop_eq_getElem_cons h, List.take_succ_cons, List.take_zero]
theorem one_drop {α : Type} {l : List α} {i : Nat} (h : i < l.length) : (l.drop i).take 1 = [l[i]] := by
  rw [List.drop_eq_getElem_cons h, List.take_succ_cons, List.take_zero]
theorem mend_ok {k : Nat} (hf : 4 ≤ fan) (hlf : 2 ≤ leaf) {s : Span} (hs : s.norm = s) {sl : Int} {P : List Str} {K : List (BT k)} {i : Nat} {us : List Bool} {lo : Int} {a b : BT k} (h : Ch (BT.ok fan leaf k (mnB fan leaf k) (mxB fan leaf k)) s P K) (hi : i + 1 < K.length) (hK : (K.length : Int) ≤ fan) (hl : lo ≤ (K.length : Int))
    {u : Span} (hu : u.norm = u) {p : Str} (hP : P.getD i Str.nil = p) (hp : u.has p = true) (hpl : p ≠ u.lo) {la ha lb hb : Int} (hA : BT.ok fan leaf k la ha (loS u p) a) (hB : BT.ok fan leaf k lb hb (hiS u p) b)
    (h1 : 2 * mnB fan leaf k - 1 ≤ (BT.cnt k a : Int) + (BT.cnt k b : Int)) (h2 : (BT.cnt k a : Int) + (BT.cnt k b : Int) ≤ 2 * mxB fan leaf k)
    (hR : ∀ Q D, Ch (BT.ok fan leaf k (mnB fan leaf k) (mxB fan leaf k)) u Q D → Ch (BT.ok fan leaf k (mnB fan leaf k) (mxB fan leaf k)) s (P.take i ++ (Q ++ P.drop (i + 1))) (K.take i ++ (D ++ K.drop (i + 1 + 1))))
    {K1 : List (BT k)} (e1 : K1.take i = K.take i) (e2 : K1.drop (i + 1 + 1) = K.drop (i + 1 + 1)) (e3 : K1.getD i default = a) (e4 : K1.getD (i + 1) default = b) :
    BT.ok fan leaf (k + 1) (lo - 1) fan s (mendB fan leaf sl P K1 i us).1 ∧ BT.rows (k + 1) (mendB fan leaf sl P K1 i us).1 = (K.take i).flatMap (BT.rows k) ++ ((BT.rows k a ++ BT.rows k b) ++ (K.drop (i + 1 + 1)).flatMap (BT.rows k)) ∧ (mendB fan leaf sl P K1 i us).1.slot = sl := by
  have hj := (join_ok hf hlf k hu hp hpl hA hB h1 h2).1
  unfold mendB
  rw [e1, e2, e3, e4, hP]
  generalize joinB fan leaf k a p b = r at *
  unfold InsOk at hj
  cases hr : r.2 with
  | none =>
    rw [hr] at hj
    dsimp only at hj ⊢
    obtain ⟨g3, g4⟩ := hj
    have hch := hR [] [r.1] (ch_one.2 g3)
    refine ⟨⟨⟨?_, ?_⟩, hch⟩, ?_, rfl⟩
    · show lo - 1 ≤ ((K.take i ++ ([r.1] ++ K.drop (i + 1 + 1))).length : Int)
      simp [List.length_take, List.length_drop]; omega
    · show ((K.take i ++ ([r.1] ++ K.drop (i + 1 + 1))).length : Int) ≤ fan
      simp [List.length_take, List.length_drop]; omega
    · show (K.take i ++ ([r.1] ++ K.drop (i + 1 + 1))).flatMap _ = _
      rw [List.flatMap_append, List.flatMap_append, List.flatMap_cons, List.flatMap_nil, List.append_nil, g4]
  | some w =>
    rw [hr] at hj
    dsimp only at hj ⊢
    obtain ⟨g3, g4, g5, g6, g7⟩ := hj
    have hch := hR [w.1] [r.1, w.2] (ch_cons.2 ⟨g3, g4, g5, ch_one.2 g6⟩)
    refine ⟨⟨⟨?_, ?_⟩, hch⟩, ?_, rfl⟩
    · show lo - 1 ≤ ((K.take i ++ ([r.1, w.2] ++ K.drop (i + 1 + 1))).length : Int)
      simp [List.length_take, List.length_drop]; omega
    · show ((K.take i ++ ([r.1, w.2] ++ K.drop (i + 1 + 1))).length : Int) ≤ fan
      simp [List.length_take, List.length_drop]; omega
    · show (K.take i ++ ([r.1, w.2] ++ K.drop (i + 1 + 1))).flatMap _ = _
      rw [List.flatMap_append, List.flatMap_append, List.flatMap_cons, List.flatMap_cons, List.flatMap_nil, List.append_nil, g7]
end
section
variable {fan leaf : Int} {key : Str}
theorem route_bool {ps : List Str} (hr : rising ps = true) (q : Str) {i : Nat} (hi : i ≤ ps.length) : decide (i = routeN ps q) = ((decide (i = 0) || !q.lt (ps.getD (i - 1) Str.nil)) && (decide (i = ps.length) || q.lt (ps.getD i Str.nil))) := by
  have hrg := range_has hr q hi
  rw [← hrg]
  unfold rangeN
  rw [if_neg (by omega), norm_has]
  unfold Span.has
  dsimp only
  rw [Int.toNat_natCast]
  have e2 : (((i : Int) - 1).toNat) = i - 1 := by omega
  rw [e2]
  have e3 : decide ((ps.length : Int) ≤ (i : Int)) = decide (i = ps.length) := decide_eq_decide.2 (by omega)
  rw [e3]
  by_cases e0 : i = 0
  · rw [if_neg (by omega), Str.nil_le, decide_eq_true e0]; simp
  · rw [if_pos (by omega), decide_eq_false e0]; simp
theorem remB_t {k : Nat} {y : BT (k + 1)} {u : List Bool} (hi : routeN (ndP y) key < (ndK y).length) (h : fewB fan leaf k (remB fan leaf key k (ndK y)[routeN (ndP y) key] u).1 = true) :
    remB fan leaf key (k + 1) y u = mendB fan leaf y.slot (ndP y) ((ndK y).set (routeN (ndP y) key) (remB fan leaf key k (ndK y)[routeN (ndP y) key] u).1) (routeN (ndP y) key - 1) (remB fan leaf key k (ndK y)[routeN (ndP y) key] u).2 := by
  rw [← getD_lt (d := default) hi] at h ⊢
  exact if_pos h
theorem remB_f {k : Nat} {y : BT (k + 1)} {u : List Bool} (hi : routeN (ndP y) key < (ndK y).length) (h : fewB fan leaf k (remB fan leaf key k (ndK y)[routeN (ndP y) key] u).1 = false) :
    remB fan leaf key (k + 1) y u = (mkN y.slot (ndP y) ((ndK y).set (routeN (ndP y) key) (remB fan leaf key k (ndK y)[routeN (ndP y) key] u).1), (remB fan leaf key k (ndK y)[routeN (ndP y) key] u).2) := by
  rw [← getD_lt (d := default) hi] at h ⊢
  exact if_neg (by rw [h]; simp)
theorem set_spl9 {α : Type} {l : List α} {i : Nat} (h : i < l.length) (a : α) : l.set i a = l.take i ++ a :: l.drop (i + 1) := (List.set_eq_take_append_cons_drop ..).trans (by rw [if_pos h])
theorem rem_ok (hf : 4 ≤ fan) (hlf : 2 ≤ leaf) (hk16 : key.b.size ≤ 16) :
    ∀ (k : Nat) {lo : Int} {s : Span} {y : BT k} (u : List Bool), (k = 0 ∨ 2 ≤ lo) → s.norm = s → s.has key = true → BT.ok fan leaf k lo (mxB fan leaf k) s y →
      BT.ok fan leaf k (lo - 1) (mxB fan leaf k) s (remB fan leaf key k y u).1 ∧ BT.rows k (remB fan leaf key k y u).1 = withN (BT.rows k y) key delE ∧ (remB fan leaf key k y u).1.slot = y.slot
  | 0, lo, s, y, u, _, hs, hk, h => by
    obtain ⟨⟨h1, h2⟩, h3, h4⟩ := h
    obtain ⟨d1, d2⟩ := del_len h3.srt key
    have hP := h3.with (k := key) (e := delE) hk16 (by show Str.nil.b.size ≤ 16; decide)
    have h2 : ((lfR y).length : Int) ≤ leaf := h2
    have hap : ∀ o, Eff.apply delE o = none := fun o => by simp [Eff.apply, delE]
    refine ⟨⟨⟨?_, ?_⟩, hP, fun p hp => ?_⟩, rfl, rfl⟩
    · show lo - 1 ≤ ((withN (lfR y) key delE).length : Int)
      omega
    · show ((withN (lfR y) key delE).length : Int) ≤ leaf
      omega
    · rcases with_mem (show p ∈ withN (lfR y) key delE from hp) with h | h
      · exact h4 p h
      · rw [h]; exact hk
  | k + 1, lo, s, y, u, hlo, hs, hk, h => by
    obtain ⟨⟨h1, h2⟩, h3⟩ := h
    have hlo : 2 ≤ lo := by omega
    have h2 : ((ndK y).length : Int) ≤ fan := h2
    have hlen := h3.len
    have hr := (h3.piv hs).1
    have hi : routeN (ndP y) key ≤ (ndP y).length := List.length_filter_le _ _
    obtain ⟨v, hi2, v1, v2, v3, v4⟩ := h3.at hs hi
    have hv : v.has key = true := by rw [v2, hk, decide_eq_true rfl]; rfl
    have hmn : k = 0 ∨ 2 ≤ mnB fan leaf k := by
      by_cases e : k = 0
      · exact .inl e
      · right; unfold mnB; rw [if_neg e]; omega
    obtain ⟨g1, g2, g3⟩ := rem_ok hf hlf hk16 k u hmn v1 hv v3
    obtain ⟨ha, hc⟩ := Ch.ahead (f := BT.rows k) (fun u c hu hc => BT.ok.rows hu hc) hs h3 hk
    have hrows : withN (BT.rows (k + 1) y) key delE = ((ndK y).take (routeN (ndP y) key)).flatMap (BT.rows k) ++ (withN (BT.rows k (ndK y)[routeN (ndP y) key]) key delE ++ ((ndK y).drop (routeN (ndP y) key + 1)).flatMap (BT.rows k)) := by
      show withN ((ndK y).flatMap (BT.rows k)) key delE = _
      rw [flat_at (BT.rows k) hi2, with_mid ha hc]
    rw [hrows]
    have hIt := remB_t (fan := fan) (leaf := leaf) (u := u) hi2
    have hIf := remB_f (fan := fan) (leaf := leaf) (u := u) hi2
    generalize remB fan leaf key k (ndK y)[routeN (ndP y) key] u = r at *
    obtain ⟨c, u2⟩ := r
    dsimp only at *
    have hcc := g1.cnt
    have hcnt : ∀ j (hj : j < (ndK y).length), mnB fan leaf k ≤ (BT.cnt k (ndK y)[j] : Int) ∧ (BT.cnt k (ndK y)[j] : Int) ≤ mxB fan leaf k := fun j hj => by
      obtain ⟨_, _, _, _, h9, _⟩ := h3.at hs (i := j) (by omega)
      exact h9.cnt
    cases hfw : fewB fan leaf k c
    · rw [hIf hfw]
      have hge : mnB fan leaf k ≤ (BT.cnt k c : Int) := by unfold fewB at hfw; have := of_decide_eq_false hfw; omega
      have hch := v4 [] [c] (ch_one.2 (g1.to hge hcc.2))
      rw [List.nil_append, List.take_append_drop, List.singleton_append, ← set_spl9 hi2] at hch
      refine ⟨⟨⟨?_, ?_⟩, hch⟩, ?_, rfl⟩
      · show lo - 1 ≤ (((ndK y).set _ c).length : Int)
        rw [List.length_set]; omega
      · show (((ndK y).set _ c).length : Int) ≤ fan
        rw [List.length_set]; exact h2
      · show ((ndK y).set _ c).flatMap _ = _
        rw [set_spl9 hi2, List.flatMap_append, List.flatMap_cons, g2]
    · rw [hIt hfw]
      generalize hie : routeN (ndP y) key = i at *
      obtain ⟨w, w1, w2, w3, w4⟩ := h3.mid hs (i := i - 1) (m := 1) (by omega)
      have hi1 : i - 1 < (ndP y).length := by omega
      have hi3 : i - 1 + 1 < (ndK y).length := by omega
      rw [one_drop hi1, two_drop hi3, ch_cons, ch_one] at w3
      obtain ⟨x1, x2, x3, x4⟩ := w3
      have hPg : (ndP y).getD (i - 1) Str.nil = (ndP y)[i - 1] := getD_lt hi1
      cases i with
      | zero =>
        have ev : v = loS w (ndP y)[0 - 1] := span_eq v1 (loS_norm _ _) fun q => by
          rw [v2, loS_has, w2, route_bool hr q (by omega)]
          show (s.has q && ((decide (0 = 0) || _) && (decide (0 = (ndP y).length) || q.lt ((ndP y).getD 0 Str.nil)))) = (s.has q && (decide (0 = 0) || _) && (decide (0 + 1 = (ndP y).length) || q.lt ((ndP y).getD 1 Str.nil)) && q.lt (ndP y)[0])
          have e0 : (ndP y).getD 0 Str.nil = (ndP y)[0] := getD_lt hi1
          rw [e0, decide_eq_false (show ¬ 0 = (ndP y).length by omega)]
          cases hq : q.lt (ndP y)[0]
          · simp
          · by_cases e1 : 0 + 1 = (ndP y).length
            · simp [e1]
            · have e2 : (ndP y).getD 1 Str.nil = (ndP y)[1]'(by omega) := getD_lt (by omega)
              have e3 : q.lt ((ndP y)[1]'(by omega)) = true := Str.lt_of_lt_of_le hq (Str.lt_asymm (rising_lt hr 1 0 (by omega) (by omega)))
              rw [e2, e3]; simp
        rw [ev] at g1
        obtain ⟨m1, m2, m3⟩ := mend_ok (sl := y.slot) (us := u2) (lo := lo) (K1 := (ndK y).set 0 c) hf hlf hs h3 hi3 h2 h1 w1 hPg x1 x2 g1 x4
          (by have := hcnt _ hi3; omega) (by have := hcnt _ hi3; omega) w4 (by simp) (by rw [List.drop_set_of_lt (by omega)]) (by rw [getD_lt (by simpa using hi2)]; simp) (by rw [getD_lt (by simpa using hi3), List.getElem_set_ne (by omega)])
        refine ⟨m1, m2.trans ?_, m3⟩
        rw [g2]
        show [] ++ _ = [] ++ _
        rw [List.nil_append, List.nil_append, List.append_assoc]
        congr 1
        rw [show (ndK y).drop (0 + 1) = (ndK y)[0 - 1 + 1] :: (ndK y).drop (0 - 1 + 1 + 1) from List.drop_eq_getElem_cons hi3, List.flatMap_cons]
      | succ i =>
        have ev : v = hiS w (ndP y)[i + 1 - 1] := span_eq v1 (hiS_norm _ _) fun q => by
          rw [v2, hiS_has, w2, route_bool hr q (by omega)]
          show (s.has q && ((decide (i + 1 = 0) || !q.lt ((ndP y).getD i Str.nil)) && (decide (i + 1 = (ndP y).length) || q.lt ((ndP y).getD (i + 1) Str.nil)))) = (s.has q && (decide (i = 0) || !q.lt ((ndP y).getD (i - 1) Str.nil)) && (decide (i + 1 = (ndP y).length) || q.lt ((ndP y).getD (i + 1) Str.nil)) && !q.lt (ndP y)[i])
          have e0 : (ndP y).getD i Str.nil = (ndP y)[i] := getD_lt hi1
          rw [e0, decide_eq_false (show ¬ i + 1 = 0 by omega)]
          cases hq : q.lt (ndP y)[i]
          · by_cases e1 : i = 0
            · simp [e1]
            · have e2 : (ndP y).getD (i - 1) Str.nil = (ndP y)[i - 1]'(by omega) := getD_lt (by omega)
              have e3 : q.lt ((ndP y)[i - 1]'(by omega)) = false := by
                cases h9 : q.lt ((ndP y)[i - 1]'(by omega))
                · rfl
                · rw [Str.lt_of_lt_of_le h9 (Str.lt_asymm (rising_lt hr i (i - 1) (by omega) (by omega)))] at hq; cases hq
              rw [e2, e3]; simp
          · simp
        rw [ev] at g1
        have hii : i < (ndK y).length := by omega
        obtain ⟨m1, m2, m3⟩ := mend_ok (sl := y.slot) (us := u2) (lo := lo) (K1 := (ndK y).set (i + 1) c) hf hlf hs h3 hi3 h2 h1 w1 hPg x1 x2 x3 g1
          (by have := hcnt _ hii; show _ ≤ (BT.cnt k (ndK y)[i] : Int) + _; omega) (by have := hcnt _ hii; show (BT.cnt k (ndK y)[i] : Int) + _ ≤ _; omega) w4
          (by rw [show i + 1 - 1 = i from rfl, List.take_set_of_le (by omega)]) (by rw [List.drop_set_of_lt (by omega)]) ((getD_lt (by rw [List.length_set]; omega)).trans (List.getElem_set_ne (by omega) (by rw [List.length_set]; omega))) ((getD_lt (i := i + 1) (by rw [List.length_set]; exact hi2)).trans (by simp))
        refine ⟨m1, m2.trans ?_, m3⟩
        rw [g2]
        show ((ndK y).take i).flatMap _ ++ ((BT.rows k (ndK y)[i] ++ _) ++ _) = _
        rw [show (ndK y).take (i + 1) = (ndK y).take i ++ [(ndK y)[i]] from List.take_succ_eq_append_getElem hii, List.flatMap_append, List.flatMap_cons, List.flatMap_nil, List.append_nil, List.append_assoc, List.append_assoc]
        rfl
end
end Go.Fw
