/- The two ways to tell whether nodes are a plain tree agree. Plain Lean; nothing of the program is named here. No condition. -/
import Derived.Test.YtcngningbcaggaaQgQa
set_option linter.unusedVariables false
set_option linter.unusedSimpArgs false
set_option linter.unnecessarySimpa false
namespace Go.Fw
open Go Go.RowKit
section
variable {c : Cfg} {l : List Nd} {root : Int}
theorem all_found {ss : List Seat} (hf : (findN l root).2 = true) (he : ss = rootS l root :: ss.flatMap (kidsD l)) (hk : ∀ x ∈ ss, (kidsO l x).isSome = true) : ∀ x ∈ ss, findN l x.n.slot = (x.n, true) := fun x hx => by
  rw [he] at hx
  rcases List.mem_cons.1 hx with rfl | hx
  · exact root_found hf
  · obtain ⟨y, hy, hxy⟩ := List.mem_flatMap.1 hx
    exact (kid_found (hk y hy) hxy).1
theorem top_idx {ss : List Seat} (he : ss = rootS l root :: ss.flatMap (kidsD l)) : (∀ i (h : i < ss.length), Seat17 c (decide (i = 0)) ss[i]) ↔ Seat17 c true (rootS l root) ∧ ∀ x ∈ ss, ∀ y ∈ kidsD l x, Seat17 c false y := by
  constructor
  · intro h
    have hp : 0 < ss.length := by rw [he]; simp
    refine ⟨?_, fun x hx y hy => ?_⟩
    · have h0 := h 0 hp
      have e : ss[0] = rootS l root := by
        have : ss[0]? = some (rootS l root) := by rw [he]; rfl
        rw [List.getElem?_eq_getElem hp] at this
        exact Option.some.inj this
      rw [e] at h0
      exact h0
    · have hm : y ∈ ss.flatMap (kidsD l) := List.mem_flatMap.2 ⟨x, hx, hy⟩
      obtain ⟨j, hj, e⟩ := List.getElem_of_mem hm
      have hlen : ss.length = (ss.flatMap (kidsD l)).length + 1 := (congrArg List.length he).trans List.length_cons
      have h1 := h (j + 1) (by omega)
      have e2 : ss[j + 1]'(by omega) = y := by
        have : ss[j + 1]? = some y := by
          conv => lhs; rw [he]
          rw [List.getElem?_cons_succ, List.getElem?_eq_getElem hj, e]
        rw [List.getElem?_eq_getElem (by omega)] at this
        exact Option.some.inj this
      rw [e2] at h1
      simpa using h1
  · rintro ⟨h1, h2⟩ i hi
    cases i with
    | zero =>
      have e : ss[0] = rootS l root := by
        have : ss[0]? = some (rootS l root) := by rw [he]; rfl
        rw [List.getElem?_eq_getElem hi] at this
        exact Option.some.inj this
      rw [e]; exact h1
    | succ j =>
      have hlen : ss.length = (ss.flatMap (kidsD l)).length + 1 := (congrArg List.length he).trans List.length_cons
      have hj : j < (ss.flatMap (kidsD l)).length := by omega
      have e2 : ss[j + 1] = (ss.flatMap (kidsD l))[j] := by
        have : ss[j + 1]? = some (ss.flatMap (kidsD l))[j] := by
          conv => lhs; rw [he]
          rw [List.getElem?_cons_succ, List.getElem?_eq_getElem hj]
        rw [List.getElem?_eq_getElem hi] at this
        exact Option.some.inj this
      obtain ⟨x, hx, hy⟩ := List.mem_flatMap.1 (List.getElem_mem hj)
      rw [e2]
      have := h2 x hx _ hy
      simpa using this
theorem Good17.seats (h : Good17 c root l) : ∃ ss, seatsN l root = some ss ∧ Sound17 c l ss ∧ leavesS ss = dfsF l (findN l root).1.level.toNat (rootS l root) := by
  have hw := wf_all _ _ _ h.wf
  have hl : (rootS l root).n.level = (((findN l root).1.level.toNat : Nat) : Int) := by show (findN l root).1.level = _; have := h.lvl; omega
  have hP := pre_kids _ _ _ h.wf
  have hlen := h.len
  unfold preS at hlen
  rw [List.length_map] at hlen
  obtain ⟨ss, hs, R, hR⟩ := seats_some hP (fun x hx => (hw x hx).1) (by omega) (l.length + 2) 0 [rootS l root] rfl ⟨_, hP⟩ (by simp) (by omega)
  have hsN : seatsN l root = some ss := by unfold seatsN; rw [if_pos h.found]; exact hs
  obtain ⟨f1, f2, f3⟩ := seats_fix hsN
  obtain ⟨hp, hlv⟩ := pre_perm9 (findN l root).1.level.toNat [rootS l root] ss f2 f3 (fun x hx => by simp at hx; rw [hx]; exact hl)
  rw [List.flatMap_cons, List.flatMap_nil, List.append_nil] at hp hlv
  have hps := hp.map fun y : Seat => y.n.slot
  refine ⟨ss, hsN, ⟨(once_of (all_found f1 f2 f3)).2 ⟨h.nd, (hps.nodup_iff).2 h.pre, ?_⟩, (top_idx f2).2 ⟨(wf_top h.wf).1, fun x hx y hy => ?_⟩⟩, hlv⟩
  · rw [hp.length_eq]; exact hlen
  · exact (hw x (hp.mem_iff.1 hx)).2 y hy
/-! ## Going down with what has been met -/
structure After (l : List Nd) (n : Nat) (x : Seat) (mt mt' : List (Int × Bool)) : Prop where
  len : mt'.length = mt.length + (preS l n x).length
  get : ∀ s, getM mt' s = if s ∈ preS l n x then some true else getM mt s
def Down (c : Cfg) (l : List Nd) (n : Nat) (top : Bool) (x : Seat) (mt : List (Int × Bool)) : Prop := wfF c l n top x ∧ (preS l n x).Nodup ∧ ∀ s ∈ preS l n x, getM mt s = none
theorem preS_succ (n : Nat) (x : Seat) : preS l (n + 1) x = x.n.slot :: (kidsD l x).flatMap (preS l n) := by
  unfold preS
  rw [preF, List.map_cons, List.map_flatMap]
noncomputable def preK (l : List Nd) (n : Nat) (x : Seat) (j : Nat) : List Int := x.n.slot :: (kidsF l x j).flatMap (preS l n)
theorem preK_0 (n : Nat) (x : Seat) : preK l n x 0 = [x.n.slot] := rfl
theorem preK_succ (n : Nat) (x : Seat) (j : Nat) : preK l n x (j + 1) = preK l n x j ++ preS l n (kidSt l x j) := by
  unfold preK
  rw [kidsF_succ, List.flatMap_append]
  simp
theorem preK_all {n : Nat} {x : Seat} (h : (kidsO l x).isSome = true) (h0 : ¬ x.n.level = 0) : preK l n x x.n.kids.length = preS l (n + 1) x := by
  unfold preK
  rw [preS_succ, (kids_all h h0).1]
theorem kidsF_take (x : Seat) {j m : Nat} (h : j ≤ m) : kidsF l x m = kidsF l x j ++ (kidsF l x m).drop j := by
  have : kidsF l x j = (kidsF l x m).take j := by
    unfold kidsF
    rw [← List.map_take, List.take_range, Nat.min_eq_left h]
  conv => lhs; rw [← List.take_append_drop j (kidsF l x m)]
  rw [this]
theorem preK_sub {n : Nat} {x : Seat} {j : Nat} (h : (kidsO l x).isSome = true) (h0 : ¬ x.n.level = 0) (hj : j ≤ x.n.kids.length) : ∃ R, preS l (n + 1) x = preK l n x j ++ R := by
  refine ⟨((kidsF l x x.n.kids.length).drop j).flatMap (preS l n), ?_⟩
  rw [← preK_all h h0]
  unfold preK
  rw [List.cons_append, ← List.flatMap_append, ← kidsF_take x hj]
theorem put_len : ∀ (m : List (Int × Bool)) (k : Int) (a : Bool), getM m k = none → (putM m k a).length = m.length + 1
  | [], _, _, _ => rfl
  | p :: m, k, a, h => by
    rw [getM_cons] at h
    rw [putM]
    by_cases e : p.1 = k
    · rw [if_pos e] at h; cases h
    · rw [if_neg e] at h
      rw [if_neg e, List.length_cons, put_len m k a h, List.length_cons]
structure InK (c : Cfg) (l : List Nd) (n : Nat) (x : Seat) (mt : List (Int × Bool)) (j : Nat) (mt' : List (Int × Bool)) : Prop where
  len : mt'.length = mt.length + (preK l n x j).length
  get : ∀ s, getM mt' s = if s ∈ preK l n x j then some true else getM mt s
  nd : (preK l n x j).Nodup
  no : ∀ s ∈ preK l n x j, getM mt s = none
  wf : ∀ i, i < j → wfF c l n false (kidSt l x i)
  ok : ∀ i, i < j → kidOk l x i = true
theorem InK.zero {n : Nat} {x : Seat} {mt : List (Int × Bool)} (h : getM mt x.n.slot = none) : InK c l n x mt 0 (putM mt x.n.slot true) := by
  refine ⟨by rw [put_len _ _ _ h]; rfl, fun s => ?_, by simp [preK_0], fun s hs => ?_, fun i hi => by omega, fun i hi => by omega⟩
  · rw [getM_put, preK_0]; simp
  · rw [preK_0] at hs; simp at hs; rw [hs]; exact h
theorem InK.succ {n : Nat} {x : Seat} {mt m1 m2 : List (Int × Bool)} {j : Nat} (h : InK c l n x mt j m1) (hd : Down c l n false (kidSt l x j) m1) (ha : After l n (kidSt l x j) m1 m2) (hok : kidOk l x j = true) : InK c l n x mt (j + 1) m2 := by
  have e := preK_succ (l := l) n x j
  have hno : ∀ s ∈ preS l n (kidSt l x j), s ∉ preK l n x j ∧ getM mt s = none := fun s hs => by
    have h1 := hd.2.2 s hs
    rw [h.get] at h1
    by_cases h2 : s ∈ preK l n x j
    · rw [if_pos h2] at h1; cases h1
    · rw [if_neg h2] at h1; exact ⟨h2, h1⟩
  refine ⟨?_, fun s => ?_, ?_, fun s hs => ?_, fun i hi => ?_, fun i hi => ?_⟩
  · rw [ha.len, h.len, e, List.length_append]; omega
  · rw [ha.get, h.get, e]
    by_cases h1 : s ∈ preS l n (kidSt l x j)
    · rw [if_pos h1, if_pos (List.mem_append_right _ h1)]
    · rw [if_neg h1]
      by_cases h2 : s ∈ preK l n x j
      · rw [if_pos h2, if_pos (List.mem_append_left _ h2)]
      · rw [if_neg h2, if_neg fun h3 => (List.mem_append.1 h3).elim h2 h1]
  · rw [e, List.nodup_append]
    exact ⟨h.nd, hd.2.1, fun a ha b hb e => (hno b hb).1 (e ▸ ha)⟩
  · rw [e] at hs
    rcases List.mem_append.1 hs with hs | hs
    · exact h.no s hs
    · exact (hno s hs).2
  · by_cases e2 : i = j
    · rw [e2]; exact hd.1
    · exact h.wf i (by omega)
  · by_cases e2 : i = j
    · rw [e2]; exact hok
    · exact h.ok i (by omega)
theorem InK.next {n : Nat} {x : Seat} {mt m1 : List (Int × Bool)} {j : Nat} {top : Bool} (h : InK c l n x mt j m1) (hj : j < x.n.kids.length) (hd : Down c l (n + 1) top x mt) : Down c l n false (kidSt l x j) m1 ∧ kidOk l x j = true := by
  obtain ⟨h1, h2, h3⟩ := hd
  have h0 : ¬ x.n.level = 0 := by have := h1.1; omega
  have hka := kids_all h1.2.1 h0
  obtain ⟨R, hR⟩ := preK_sub (n := n) h1.2.1 h0 (show j + 1 ≤ x.n.kids.length by omega)
  rw [hR, preK_succ, List.nodup_append, List.nodup_append] at h2
  refine ⟨⟨h1.2.2.2 _ (by rw [hka.1]; exact List.mem_map.2 ⟨j, List.mem_range.2 hj, rfl⟩), h2.1.2.1, fun s hs => ?_⟩, hka.2.2.2 j hj⟩
  rw [h.get, if_neg]
  · exact h3 s (by rw [hR, preK_succ]; exact List.mem_append_left _ (List.mem_append_right _ hs))
  · intro h4
    exact h2.1.2.2 s h4 s hs rfl
theorem InK.done {n : Nat} {x : Seat} {mt m1 : List (Int × Bool)} {j : Nat} {top : Bool} (h : InK c l n x mt j m1) (hj : j = x.n.kids.length) (hl : x.n.level = ((n + 1 : Nat) : Int)) (hr : rightN x.n.pivots x.n.kids.length = true) (hs : Seat17 c top x) : Down c l (n + 1) top x mt ∧ After l (n + 1) x mt m1 := by
  subst hj
  have h0 : ¬ x.n.level = 0 := by omega
  have hko := kidsO_t h0 (by omega) hr h.ok
  have hk : (kidsO l x).isSome = true := by rw [hko]; rfl
  have e := preK_all (n := n) hk h0
  have h1 := h.len
  have h2 := h.get
  have h3 := h.nd
  have h4 := h.no
  rw [e] at h1 h2 h3 h4
  refine ⟨⟨⟨hl, hk, hs, fun y hy => ?_⟩, h3, h4⟩, h1, h2⟩
  rw [(kids_all hk h0).1] at hy
  obtain ⟨i, hi, rfl⟩ := List.mem_map.1 hy
  exact h.wf i (List.mem_range.1 hi)
noncomputable def rowsK (l : List Nd) (n : Nat) (x : Seat) (j : Nat) : List Pair := (kidsF l x j).flatMap (rowsF l n)
end
end Go.Fw
