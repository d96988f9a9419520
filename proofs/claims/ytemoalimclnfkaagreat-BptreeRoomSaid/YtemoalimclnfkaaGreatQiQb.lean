/- The two ways to tell whether nodes are a plain tree agree. Plain Lean; nothing of the program is named here. No condition. -/
import Derived.Test.YtemoalimclnfkaaGreatQiSo
set_option linter.unusedVariables false
set_option linter.unusedSimpArgs false
set_option linter.unnecessarySimpa false
namespace Go.Fw
open Go Go.RowKit
section
variable {c : Cfg} {l : List Nd} {root : Int}
theorem all_found {ss : List Seat} (hf : (findN l root).2 = true) (he : ss = rootS l root :: ss.flatMap (kidsD l)) (hk : ∀ x ∈ ss, (kidsO l x).isSome = true) : ∀ x ∈ ss, findN l x.n.slot = (x.n, true) := fun x hx => by
  rw [he] at hx
  rcases List.mem_cons.1 hx with rfl | hx
  · exact root_found hf
  · obtain ⟨y, hy, hxy⟩ := List.mem_flatMap.1 hx
    exact (kid_found (hk y hy) hxy).1
theorem top_idx {ss : List Seat} (he : ss = rootS l root :: ss.flatMap (kidsD l)) : (∀ i (h : i < ss.length), Seat17 c (decide (i = 0)) ss[i]) ↔ Seat17 c true (rootS l root) ∧ ∀ x ∈ ss, ∀ y ∈ kidsD l x, Seat17 c false y := by
  constructor
  · intro h
    have hp : 0 < ss.length := by rw [he]; simp
    refine ⟨?_, fun x hx y hy => ?_⟩
    · have h0 := h 0 hp
      have e : ss[0] = rootS l root := by
        have : ss[0]? = some (rootS l root) := by rw [he]; rfl
        rw [List.getElem?_eq_getElem hp] at this
        exact Option.some.inj this
      rw [e] at h0
      exact h0
    · have hm : y ∈ ss.flatMap (kidsD l) := List.mem_flatMap.2 ⟨x, hx, hy⟩
      obtain ⟨j, hj, e⟩ := List.getElem_of_mem hm
      have hlen : ss.length = (ss.flatMap (kidsD l)).length + 1 := (congrArg List.length he).trans List.length_cons
      have h1 := h (j + 1) (by omega)
      have e2 : ss[j + 1]'(by omega) = y := by
        have : ss[j + 1]? = some y := by
          conv => lhs; rw [he]
          rw [List.getElem?_cons_succ, List.getElem?_eq_getElem hj, e]
        rw [List.getElem?_eq_getElem (by omega)] at this
        exact Option.some.inj this
      rw [e2] at h1
      simpa using h1
  · rintro ⟨h1, h2⟩ i hi
    cases i with
    | zero =>
      have e : ss[0] = rootS l root := by
        have : ss[0]? = some (rootS l root) := by rw [he]; rfl
        rw [List.getElem?_eq_getElem hi] at this
        exact Option.some.inj this
      rw [e]; exact h1
    | succ j =>
      have hlen : ss.length = (ss.flatMap (kidsD l)).length + 1 := (congrArg List.length he).trans List.length_cons
      have hj : j < (ss.flatMap (kidsD l)).length := by omega
      have e2 : ss[j + 1] = (ss.flatMap (kidsD l))[j] := by
        have : ss[j + 1]? = some (ss.flatMap (kidsD l))[j] := by
          conv => lhs; rw [he]
          rw [List.getElem?_cons_succ, List.getElem?_eq_getElem hj]
        rw [List.getElem?_eq_getElem hi] at this
        exact Option.some.inj this
      obtain ⟨x, hx, hy⟩ := List.mem_flatMap.1 (List.getElem_mem hj)
      rw [e2]
      have := h2 x hx _ hy
      simpa using this
theorem good_of (h : sound17 c root l = true) : Good17 c root l := by
  cases hs : seatsN l root with
  | none => rw [sound17_f hs] at h; cases h
  | some ss =>
    rw [sound17_t hs] at h
    obtain ⟨h1, h2⟩ := of_decide_eq_true h
    obtain ⟨f1, f2, f3⟩ := seats_fix hs
    have hf := all_found f1 f2 f3
    obtain ⟨n1, n2, n3⟩ := (once_of17 hf).1 h1
    obtain ⟨t1, t2⟩ := (top_idx f2).1 h2
    have hr : rootS l root ∈ ss := by rw [f2]; simp
    have hl := lvl_pos (f3 _ hr)
    have hl2 : 0 ≤ (findN l root).1.level := hl
    have hp := (pre_perm9 (findN l root).1.level.toNat [rootS l root] ss f2 f3 (fun x hx => by simp at hx; rw [hx]; show (findN l root).1.level = _; omega)).1
    rw [List.flatMap_cons, List.flatMap_nil, List.append_nil] at hp
    have hps := hp.map fun y : Seat => y.n.slot
    have hwf : ∀ (n : Nat) (top : Bool) (x : Seat), x ∈ ss → x.n.level = n → Seat17 c top x → wfF c l n top x := by
      intro n
      induction n with
      | zero => intro top x hx hn hq; exact ⟨hn, hq⟩
      | succ n ih =>
        intro top x hx hn hq
        refine ⟨hn, f3 x hx, hq, fun y hy => ih false y ?_ ?_ (t2 x hx y hy)⟩
        · rw [f2]; exact List.mem_cons_of_mem _ (List.mem_flatMap.2 ⟨x, hx, hy⟩)
        · have := (kid_found (f3 x hx) hy).2.1; omega
    refine ⟨f1, n1, hl2, hwf _ true _ hr (by show (findN l root).1.level = _; omega) t1, (hps.nodup_iff).1 n2, ?_⟩
    unfold preS
    rw [← hps.length_eq, List.length_map, n3]
theorem Good17.seats (h : Good17 c root l) : ∃ ss, seatsN l root = some ss ∧ Sound17 c l ss ∧ leavesS ss = dfsF l (findN l root).1.level.toNat (rootS l root) := by
  have hw := wf_all _ _ _ h.wf
  have hl : (rootS l root).n.level = (((findN l root).1.level.toNat : Nat) : Int) := by show (findN l root).1.level = _; have := h.lvl; omega
  have hP := pre_kids _ _ _ h.wf
  have hlen := h.len
  unfold preS at hlen
  rw [List.length_map] at hlen
  obtain ⟨ss, hs, R, hR⟩ := seats_some hP (fun x hx => (hw x hx).1) (by omega) (l.length + 2) 0 [rootS l root] rfl ⟨_, hP⟩ (by simp) (by omega)
  have hsN : seatsN l root = some ss := by unfold seatsN; rw [if_pos h.found]; exact hs
  obtain ⟨f1, f2, f3⟩ := seats_fix hsN
  obtain ⟨hp, hlv⟩ := pre_perm9 (findN l root).1.level.toNat [rootS l root] ss f2 f3 (fun x hx => by simp at hx; rw [hx]; exact hl)
  rw [List.flatMap_cons, List.flatMap_nil, List.append_nil] at hp hlv
  have hps := hp.map fun y : Seat => y.n.slot
  refine ⟨ss, hsN, ⟨(once_of17 (all_found f1 f2 f3)).2 ⟨h.nd, (hps.nodup_iff).2 h.pre, ?_⟩, (top_idx f2).2 ⟨(wf_top h.wf).1, fun x hx y hy => ?_⟩⟩, hlv⟩
  · rw [hp.length_eq]; exact hlen
  · exact (hw x (hp.mem_iff.1 hx)).2 y hy
theorem sound_iff17 : sound17 c root l = true ↔ Good17 c root l := by
  constructor
  · exact good_of
  · intro h
    obtain ⟨ss, h1, h2, _⟩ := h.seats
    rw [sound17_t h1]; exact decide_eq_true h2
theorem map17_good (h : Good17 c root l) : map17 c root l = rowsF l (findN l root).1.level.toNat (rootS l root) := by
  obtain ⟨ss, h1, h2, h3⟩ := h.seats
  unfold map17
  rw [if_pos (sound_iff17.2 h), h1]
  show ss.flatMap _ = _
  unfold rowsF
  rw [← h3]
  obtain ⟨f1, f2, f3⟩ := seats_fix h1
  obtain ⟨t1, t2⟩ := (top_idx f2).1 h2.2
  have hz : ∀ x ∈ ss, ¬ x.n.level = 0 → x.n.rows = [] := fun x hx h0 => by
    have key : ∀ top, Seat17 c top x → x.n.rows = [] := fun top hq => by
      unfold Seat17 at hq
      rw [if_neg h0] at hq
      exact List.eq_nil_of_length_eq_zero hq.1.1
    have hx2 := hx
    rw [f2] at hx2
    rcases List.mem_cons.1 hx2 with e | hx2
    · exact key true (e ▸ t1)
    · obtain ⟨y, hy, hxy⟩ := List.mem_flatMap.1 hx2
      exact key false (t2 y hy x hxy)
  have key : ∀ L : List Seat, (∀ x ∈ L, x ∈ ss) → (L.flatMap fun x => x.n.rows) = (leavesS L).flatMap fun x => x.n.rows := by
    intro L
    induction L with
    | nil => intro _; rfl
    | cons x L ih =>
      intro hL
      have ih := ih fun y hy => hL y (List.mem_cons_of_mem _ hy)
      unfold leavesS at ih ⊢
      rw [List.flatMap_cons, List.filter_cons, ih]
      by_cases h0 : x.n.level = 0
      · rw [if_pos (decide_eq_true h0), List.flatMap_cons]
      · rw [if_neg (by simpa using h0), hz x (hL x (by simp)) h0]; rfl
  exact key ss fun x hx => hx
/-! ## Going down with what has been met -/
structure After (l : List Nd) (n : Nat) (x : Seat) (mt mt' : List (Int × Bool)) : Prop where
  len : mt'.length = mt.length + (preS l n x).length
  get : ∀ s, getM mt' s = if s ∈ preS l n x then some true else getM mt s
def Down (c : Cfg) (l : List Nd) (n : Nat) (top : Bool) (x : Seat) (mt : List (Int × Bool)) : Prop := wfF c l n top x ∧ (preS l n x).Nodup ∧ ∀ s ∈ preS l n x, getM mt s = none
theorem preS_succ (n : Nat) (x : Seat) : preS l (n + 1) x = x.n.slot :: (kidsD l x).flatMap (preS l n) := by
  unfold preS
  rw [preF, List.map_cons, List.map_flatMap]
noncomputable def preK (l : List Nd) (n : Nat) (x : Seat) (j : Nat) : List Int := x.n.slot :: (kidsF l x j).flatMap (preS l n)
theorem preK_0 (n : Nat) (x : Seat) : preK l n x 0 = [x.n.slot] := rfl
theorem preK_succ (n : Nat) (x : Seat) (j : Nat) : preK l n x (j + 1) = preK l n x j ++ preS l n (kidSt l x j) := by
  unfold preK
  rw [kidsF_succ, List.flatMap_append]
  simp
theorem preK_all {n : Nat} {x : Seat} (h : (kidsO l x).isSome = true) (h0 : ¬ x.n.level = 0) : preK l n x x.n.kids.length = preS l (n + 1) x := by
  unfold preK
  rw [preS_succ, (kids_all h h0).1]
theorem kidsF_take (x : Seat) {j m : Nat} (h : j ≤ m) : kidsF l x m = kidsF l x j ++ (kidsF l x m).drop j := by
  have : kidsF l x j = (kidsF l x m).take j := by
    unfold kidsF
    rw [← List.map_take, List.take_range, Nat.min_eq_left h]
  conv => lhs; rw [← List.take_append_drop j (kidsF l x m)]
  rw [this]
theorem preK_sub {n : Nat} {x : Seat} {j : Nat} (h : (kidsO l x).isSome = true) (h0 : ¬ x.n.level = 0) (hj : j ≤ x.n.kids.length) : ∃ R, preS l (n + 1) x = preK l n x j ++ R := by
  refine ⟨((kidsF l x x.n.kids.length).drop j).flatMap (preS l n), ?_⟩
  rw [← preK_all h h0]
  unfold preK
  rw [List.cons_append, ← List.flatMap_append, ← kidsF_take x hj]
theorem put_len : ∀ (m : List (Int × Bool)) (k : Int) (a : Bool), getM m k = none → (putM m k a).length = m.length + 1
  | [], _, _, _ => rfl
  | p :: m, k, a, h => by
    rw [getM_cons] at h
    rw [putM]
    by_cases e : p.1 = k
    · rw [if_pos e] at h; cases h
    · rw [if_neg e] at h
      rw [if_neg e, List.length_cons, put_len m k a h, List.length_cons]
structure InK (c : Cfg) (l : List Nd) (n : Nat) (x : Seat) (mt : List (Int × Bool)) (j : Nat) (mt' : List (Int × Bool)) : Prop where
  len : mt'.length = mt.length + (preK l n x j).length
  get : ∀ s, getM mt' s = if s ∈ preK l n x j then some true else getM mt s
  nd : (preK l n x j).Nodup
  no : ∀ s ∈ preK l n x j, getM mt s = none
  wf : ∀ i, i < j → wfF c l n false (kidSt l x i)
  ok : ∀ i, i < j → kidOk l x i = true
theorem InK.zero {n : Nat} {x : Seat} {mt : List (Int × Bool)} (h : getM mt x.n.slot = none) : InK c l n x mt 0 (putM mt x.n.slot true) := by
  refine ⟨by rw [put_len _ _ _ h]; rfl, fun s => ?_, by simp [preK_0], fun s hs => ?_, fun i hi => by omega, fun i hi => by omega⟩
  · rw [getM_put, preK_0]; simp
  · rw [preK_0] at hs; simp at hs; rw [hs]; exact h
theorem InK.succ {n : Nat} {x : Seat} {mt m1 m2 : List (Int × Bool)} {j : Nat} (h : InK c l n x mt j m1) (hd : Down c l n false (kidSt l x j) m1) (ha : After l n (kidSt l x j) m1 m2) (hok : kidOk l x j = true) : InK c l n x mt (j + 1) m2 := by
  have e := preK_succ (l := l) n x j
  have hno : ∀ s ∈ preS l n (kidSt l x j), s ∉ preK l n x j ∧ getM mt s = none := fun s hs => by
    have h1 := hd.2.2 s hs
    rw [h.get] at h1
    by_cases h2 : s ∈ preK l n x j
    · rw [if_pos h2] at h1; cases h1
    · rw [if_neg h2] at h1; exact ⟨h2, h1⟩
  refine ⟨?_, fun s => ?_, ?_, fun s hs => ?_, fun i hi => ?_, fun i hi => ?_⟩
  · rw [ha.len, h.len, e, List.length_append]; omega
  · rw [ha.get, h.get, e]
    by_cases h1 : s ∈ preS l n (kidSt l x j)
    · rw [if_pos h1, if_pos (List.mem_append_right _ h1)]
    · rw [if_neg h1]
      by_cases h2 : s ∈ preK l n x j
      · rw [if_pos h2, if_pos (List.mem_append_left _ h2)]
      · rw [if_neg h2, if_neg fun h3 => (List.mem_append.1 h3).elim h2 h1]
  · rw [e, List.nodup_append]
    exact ⟨h.nd, hd.2.1, fun a ha b hb e => (hno b hb).1 (e ▸ ha)⟩
  · rw [e] at hs
    rcases List.mem_append.1 hs with hs | hs
    · exact h.no s hs
    · exact (hno s hs).2
  · by_cases e2 : i = j
    · rw [e2]; exact hd.1
    · exact h.wf i (by omega)
  · by_cases e2 : i = j
    · rw [e2]; exact hok
    · exact h.ok i (by omega)
theorem InK.next {n : Nat} {x : Seat} {mt m1 : List (Int × Bool)} {j : Nat} {top : Bool} (h : InK c l n x mt j m1) (hj : j < x.n.kids.length) (hd : Down c l (n + 1) top x mt) : Down c l n false (kidSt l x j) m1 ∧ kidOk l x j = true := by
  obtain ⟨h1, h2, h3⟩ := hd
  have h0 : ¬ x.n.level = 0 := by have := h1.1; omega
  have hka := kids_all h1.2.1 h0
  obtain ⟨R, hR⟩ := preK_sub (n := n) h1.2.1 h0 (show j + 1 ≤ x.n.kids.length by omega)
  rw [hR, preK_succ, List.nodup_append, List.nodup_append] at h2
  refine ⟨⟨h1.2.2.2 _ (by rw [hka.1]; exact List.mem_map.2 ⟨j, List.mem_range.2 hj, rfl⟩), h2.1.2.1, fun s hs => ?_⟩, hka.2.2.2 j hj⟩
  rw [h.get, if_neg]
  · exact h3 s (by rw [hR, preK_succ]; exact List.mem_append_left _ (List.mem_append_right _ hs))
  · intro h4
    exact h2.1.2.2 s h4 s hs rfl
theorem InK.done {n : Nat} {x : Seat} {mt m1 : List (Int × Bool)} {j : Nat} {top : Bool} (h : InK c l n x mt j m1) (hj : j = x.n.kids.length) (hl : x.n.level = ((n + 1 : Nat) : Int)) (hr : rightN x.n.pivots x.n.kids.length = true) (hs : Seat17 c top x) : Down c l (n + 1) top x mt ∧ After l (n + 1) x mt m1 := by
  subst hj
  have h0 : ¬ x.n.level = 0 := by omega
  have hko := kidsO_t h0 (by omega) hr h.ok
  have hk : (kidsO l x).isSome = true := by rw [hko]; rfl
  have e := preK_all (n := n) hk h0
  have h1 := h.len
  have h2 := h.get
  have h3 := h.nd
  have h4 := h.no
  rw [e] at h1 h2 h3 h4
  refine ⟨⟨⟨hl, hk, hs, fun y hy => ?_⟩, h3, h4⟩, h1, h2⟩
  rw [(kids_all hk h0).1] at hy
  obtain ⟨i, hi, rfl⟩ := List.mem_map.1 hy
  exact h.wf i (List.mem_range.1 hi)
noncomputable def rowsK (l : List Nd) (n : Nat) (x : Seat) (j : Nat) : List Pair := (kidsF l x j).flatMap (rowsF l n)
theorem rowsF_0 (x : Seat) : rowsF l 0 x = x.n.rows := by simp [rowsF, dfsF]
end
section
variable {α : Type} {G : GH} {V : VEnc α} {P : Program} {t et : TypeId} {m : List (Int × α)}
end
/-! ## Nodes by their slots -/
theorem nodup_len {α : Type} [DecidableEq α] : ∀ {A B : List α}, A.Nodup → (∀ a ∈ A, a ∈ B) → A.length ≤ B.length
  | [], _, _, _ => Nat.zero_le _
  | a :: A, B, hA, hs => by
    obtain ⟨h1, h2⟩ := List.nodup_cons.1 hA
    have hm := hs a (by simp)
    have ih := nodup_len (A := A) (B := B.erase a) h2 fun x hx => (List.mem_erase_of_ne fun (e : x = a) => h1 (e ▸ hx)).2 (hs x (List.mem_cons_of_mem _ hx))
    have := List.length_erase_of_mem hm
    have := List.length_pos_of_mem hm
    rw [List.length_cons]; omega
structure Met (l : List Nd) (mt : List (Int × Bool)) : Prop where
  nd : (mt.map (·.1)).Nodup
  sub : ∀ s ∈ mt.map (·.1), s ∈ l.map fun n : Nd => n.slot
  tr : ∀ s, getM mt s ≠ some false
theorem Met.len {l : List Nd} {mt : List (Int × Bool)} (h : Met l mt) : mt.length ≤ l.length := by
  have := nodup_len h.nd h.sub
  simpa using this
theorem put_keys : ∀ (m : List (Int × Bool)) (k : Int) (a : Bool), getM m k = none → (putM m k a).map (·.1) = m.map (·.1) ++ [k]
  | [], _, _, _ => rfl
  | p :: m, k, a, h => by
    rw [getM_cons] at h
    rw [putM]
    by_cases e : p.1 = k
    · rw [if_pos e] at h; cases h
    · rw [if_neg e] at h
      rw [if_neg e, List.map_cons, put_keys m k a h]; rfl
theorem getM_key : ∀ {m : List (Int × Bool)} {k : Int}, getM m k = none → k ∉ m.map (·.1)
  | [], _, _ => by simp
  | p :: m, k, h => by
    rw [getM_cons] at h
    by_cases e : p.1 = k
    · rw [if_pos e] at h; cases h
    · rw [if_neg e] at h
      rw [List.map_cons, List.mem_cons]
      rintro (e2 | h2)
      · exact e e2.symm
      · exact getM_key h h2
theorem Met.put {l : List Nd} {mt : List (Int × Bool)} (h : Met l mt) {k : Int} (hk : getM mt k = none) (hl : k ∈ l.map fun n : Nd => n.slot) : Met l (putM mt k true) := by
  refine ⟨?_, fun s hs => ?_, fun s hs => ?_⟩
  · rw [put_keys _ _ _ hk, List.nodup_append]
    exact ⟨h.nd, by simp, fun a ha b hb e => getM_key hk (by simp at hb; rw [← hb, ← e]; exact ha)⟩
  · rw [put_keys _ _ _ hk] at hs
    rcases List.mem_append.1 hs with hs | hs
    · exact h.sub s hs
    · simp at hs; rw [hs]; exact hl
  · rw [getM_put] at hs
    split at hs
    · cases hs
    · exact h.tr s hs
theorem Met.nil (l : List Nd) : Met l [] := ⟨by simp, fun s hs => by simp at hs, fun s h => by cases h⟩
theorem Met.none {l : List Nd} {mt : List (Int × Bool)} (h : Met l mt) {s : Int} (hs : (getM mt s).getD false = false) : getM mt s = none := by
  cases hg : getM mt s with
  | none => rfl
  | some b =>
    cases b
    · exact absurd hg (h.tr s)
    · rw [hg] at hs; cases hs
/-! ## Seats without messages -/
def SeatC17 (G : GH) (cs : List Value) (x : Seat) : Prop :=
  ∃ a1 c1 a2 c2 a3 c3 a4 c4, cs = [.int .i64 x.n.slot, .int .i64 x.n.level, .slice a1 x.n.pivots.length c1, .slice a2 x.n.kids.length c2, .string x.n.high.b, .bool x.n.top, .int .i64 x.n.right, .int .i64 x.n.seen, .slice a3 x.n.msgs.length c3, .slice a4 x.n.rows.length c4, .string x.s.lo.b, .string x.s.hi.b, .bool x.s.opn] ∧
    x.n.Ok ∧ SlR eStr G (.slice a1 x.n.pivots.length c1) x.n.pivots ∧ SlR eInt G (.slice a2 x.n.kids.length c2) x.n.kids ∧ SlR eMsg G (.slice a3 x.n.msgs.length c3) x.n.msgs ∧ SlR ePair G (.slice a4 x.n.rows.length c4) x.n.rows
theorem SeatC17.mono {G G' : GH} {cs x} (hl : Le G G') (h : SeatC17 G cs x) : SeatC17 G' cs x := by
  obtain ⟨a1, c1, a2, c2, a3, c3, a4, c4, h0, h6, h1, h2, h3, h4⟩ := h
  exact ⟨a1, c1, a2, c2, a3, c3, a4, c4, h0, h6, h1.mono hl, h2.mono hl, h3.mono hl, h4.mono hl⟩
def eSeat17 : Enc Seat where
  k := 13
  w := 192
  R := SeatC17
  mono := fun hl h => h.mono hl
  len := fun h => by obtain ⟨a1, c1, a2, c2, a3, c3, a4, c4, h0, _⟩ := h; rw [h0]; rfl
  one := fun h u hu => by
    obtain ⟨a1, c1, a2, c2, a3, c3, a4, c4, h0, _⟩ := h
    rw [h0] at hu
    simp at hu
    rcases hu with rfl | rfl | rfl | rfl | rfl | rfl | rfl | rfl | rfl | rfl | rfl | rfl | rfl <;> rfl
theorem kid_rel17 {G : GH} {cs : List Value} {l : List Nd} {x : Seat} {j : Nat} (hj : j < x.n.kids.length) {ms : List Msg} (h : SeatC17 G cs ⟨(findN l x.n.kids[j]).1, x.s.meet (rangeN x.n.pivots (j : Int)), ms⟩) : SeatC17 G cs (kidSt l x j) := by
  have e : (kidSt l x j).n = (findN l x.n.kids[j]).1 := by
    show (findN l (x.n.kids.getD j 0)).1 = _
    rw [List.getD_eq_getElem?_getD, List.getElem?_eq_getElem hj]; rfl
  have e2 : (kidSt l x j).s = x.s.meet (rangeN x.n.pivots (j : Int)) := rfl
  unfold SeatC17 at h ⊢
  rw [e, e2]; exact h
theorem tdiv2 {m : Int} (h : i64 m) : -9223372036854775808 ≤ m.tdiv 2 ∧ m.tdiv 2 ≤ 9223372036854775807 := by
  obtain ⟨h1, h2⟩ := h
  rcases Int.le_total 0 m with h3 | h3
  · rw [Int.tdiv_eq_ediv_of_nonneg h3]; omega
  · have e : m.tdiv 2 = -((-m).tdiv 2) := by rw [Int.neg_tdiv]; omega
    rw [e, Int.tdiv_eq_ediv_of_nonneg (by omega)]; omega
def rows17 (L : List Seat) : List Pair := L.flatMap fun x => x.n.rows
/-! ## What goes through a plain tree -/
def LkR (TW tp bk : Nat) (c : Cfg) (m : List (Int × Nd)) (G : GH) (st : List (Int × Bool) × List Pair) (M : MH) : Prop :=
  ∃ (vat : Value) (bm : Nat) (vo : Value) (Mm Mo : MH), M = (bk, .cells (List.toArray [.int .i64 c.fan, .int .i64 c.leaf, .int .i64 c.bud, .int .i64 c.slots, .int .i64 c.rest, vat, .map (some bm), vo]) TW (0, 0)) :: (Mm ++ Mo) ∧
    MpG vNode G vat m ∧ MpR vBool bm G st.1 Mm ∧ OwnR ePair tp G vo st.2 Mo
theorem LkR.mono {TW tp bk : Nat} {c : Cfg} {m : List (Int × Nd)} {G G' : GH} {st : List (Int × Bool) × List Pair} {M : MH} (hl : Le G G') (h : LkR TW tp bk c m G st M) : LkR TW tp bk c m G' st M := by
  obtain ⟨vat, bm, vo, Mm, Mo, h1, h2, h3, h4⟩ := h
  exact ⟨vat, bm, vo, Mm, Mo, h1, h2.mono hl, h3.mono hl, h4.mono hl⟩
theorem LkR.cast {TW tp bk : Nat} {c : Cfg} {m : List (Int × Nd)} {G : GH} {st st' : List (Int × Bool) × List Pair} {M : MH} (h : LkR TW tp bk c m G st M) (e : st = st') : LkR TW tp bk c m G st' M := e ▸ h
def DfsQ (c : Cfg) (l : List Nd) (lv : Int) (top : Bool) (x : Seat) (slot : Int) (mt : List (Int × Bool)) (rows : List Pair) (b : Bool) (mt' : List (Int × Bool)) (rows' : List Pair) : Prop :=
  (b = true → (0 ≤ lv ∧ (findN l slot).2 = true ∧ Down c l lv.toNat top x mt) ∧ After l lv.toNat x mt mt' ∧ rows' = rows ++ rowsF l lv.toNat x ∧ Met l mt' ∧ rows'.length ≤ 4000 * mt'.length) ∧
  (b = false → ¬ (0 ≤ lv ∧ (findN l slot).2 = true ∧ Down c l lv.toNat top x mt))
section
variable {c : Cfg} {l : List Nd} {lv slot : Int} {top : Bool} {x : Seat} {mt mt' : List (Int × Bool)} {rows rows' : List Pair}
end
def toNd (n : BNd) : Nd := { Nd.zero with slot := n.slot, level := n.lvl, pivots := n.P, kids := n.K, top := true, right := -1, rows := n.R }
def atB (L : List BNd) (s : Int) : BNd := (L.find? fun n => decide (n.slot = s)).getD ⟨0, 0, [], [], []⟩
theorem atB_mem {L : List BNd} (hn : (L.map BNd.slot).Nodup) {n : BNd} (h : n ∈ L) : atB L n.slot = n := by
  induction L with
  | nil => cases h
  | cons a L ih =>
    unfold atB
    rw [List.map_cons, List.nodup_cons] at hn
    rcases List.mem_cons.1 h with rfl | h
    · rw [List.find?_cons_of_pos (by simp)]; rfl
    · rw [List.find?_cons_of_neg (by
        have : a.slot ≠ n.slot := fun e => hn.1 (by rw [e]; exact List.mem_map_of_mem h)
        simpa using this)]
      exact ih hn.2 h
def ndsN (t : BTr) : List Nd := (usedN t.u).map fun s => toNd (atB (nds t.k t.y) s)
theorem map_atB {L : List BNd} (hn : (L.map BNd.slot).Nodup) : (L.map BNd.slot).map (fun s => toNd (atB L s)) = L.map toNd := by
  rw [List.map_map]
  exact List.map_congr_left fun n hn2 => by show toNd (atB L n.slot) = _; rw [atB_mem hn hn2]
section
variable {fan leaf : Int} {t : BTr}
theorem TOk.ndsP (h : TOk fan leaf t) : (ndsN t).Perm ((nds t.k t.y).map toNd) := by
  rw [← map_atB h.nd]
  exact h.perm.map _
theorem TOk.ndsL (h : TOk fan leaf t) : (ndsN t).length = (nds t.k t.y).length := by rw [h.ndsP.length_eq, List.length_map]
theorem TOk.used (h : TOk fan leaf t) : (usedN t.u).length = (ndsN t).length := by unfold ndsN; rw [List.length_map]
theorem find_one {l : List Nd} (hn : (l.map fun n : Nd => n.slot).Nodup) {n : Nd} (h : n ∈ l) : findN l n.slot = (n, true) := by
  have h1 : atS l n.slot = [n] := by
    unfold atS
    induction l with
    | nil => cases h
    | cons a l ih =>
      rw [List.map_cons, List.nodup_cons] at hn
      rcases List.mem_cons.1 h with rfl | h
      · rw [List.filter_cons_of_pos (by simp), List.filter_eq_nil_iff.2 fun b hb => ?_]
        have : b.slot ≠ n.slot := fun e => hn.1 (by rw [← e]; exact List.mem_map_of_mem (f := fun n : Nd => n.slot) hb)
        simpa using this
      · rw [List.filter_cons_of_neg (by
          have : a.slot ≠ n.slot := fun e => hn.1 (by rw [e]; exact List.mem_map_of_mem (f := fun n : Nd => n.slot) h)
          simpa using this)]
        exact ih hn.2 h
  unfold findN
  rw [h1]; rfl
theorem TOk.ndN (h : TOk fan leaf t) : SlotsNd (ndsN t) := by
  unfold SlotsNd
  refine ((h.ndsP.map fun n : Nd => n.slot).nodup_iff).2 ?_
  rw [List.map_map]
  exact h.nd
theorem TOk.find (h : TOk fan leaf t) {n : BNd} (hn : n ∈ nds t.k t.y) : findN (ndsN t) n.slot = (toNd n, true) :=
  find_one h.ndN (n := toNd n) (h.ndsP.mem_iff.2 (List.mem_map_of_mem hn))
theorem quo_nn {a : Int} (h : 0 ≤ a) : a.tdiv 2 = a / 2 := Int.tdiv_eq_ediv_of_nonneg h
structure SeatOf (k : Nat) (y : BT k) (s : Span) (x : Seat) : Prop where
  n : x.n = toNd (ndB k y)
  s : x.s = s
theorem kid_seats {l : List Nd} {k : Nat} {y : BT (k + 1)} {lo hi : Int} {s : Span} {x : Seat} (hs : s.norm = s) (hok : BT.ok fan leaf (k + 1) lo hi s y) (hx : SeatOf (k + 1) y s x)
    (hf : ∀ c ∈ ndK y, findN l c.slot = (toNd (ndB k c), true)) : kidsO l x = some (kidsF l x (ndK y).length) ∧ ∀ j (hj : j < (ndK y).length), ∃ u : Span, u.norm = u ∧ BT.ok fan leaf k (mnB fan leaf k) (mxB fan leaf k) u (ndK y)[j] ∧ SeatOf k (ndK y)[j] u (kidSt l x j) := by
  have hlen := hok.2.len
  have hpv := hok.2.piv hs
  have hxk : x.n.kids = (ndK y).map BT.slot := by rw [hx.n]; rfl
  have hxp : x.n.pivots = ndP y := by rw [hx.n]; rfl
  have hxl : x.n.level = ((k + 1 : Nat) : Int) := by rw [hx.n]; rfl
  have hkj : ∀ j (hj : j < (ndK y).length), findN l (x.n.kids.getD j 0) = (toNd (ndB k (ndK y)[j]), true) := fun j hj => by
    rw [hxk, List.getD_eq_getElem?_getD, List.getElem?_eq_getElem (by rw [List.length_map]; exact hj)]
    show findN l ((List.map BT.slot (ndK y))[j]'(by rw [List.length_map]; exact hj)) = _
    rw [List.getElem_map]
    exact hf _ (List.getElem_mem hj)
  refine ⟨?_, fun j hj => ?_⟩
  · have hkl : x.n.kids.length = (ndK y).length := by rw [hxk, List.length_map]
    have h9 := kidsO_t (l := l) (x := x) (by omega) (by omega) (by unfold rightN; rw [hxp, hpv.1, hkl, hlen]; simp) (fun j hj => by
      unfold kidOk
      rw [hkj j (by omega)]
      show (true && decide ((ndB k _).lvl = _)) = true
      rw [ndB_lvl, hxl]; simp)
    rw [h9, hkl]
  · obtain ⟨u, hj2, u1, u2, u3, _⟩ := hok.2.at hs (i := j) (by omega)
    refine ⟨u, u1, u3, by show (findN l (x.n.kids.getD j 0)).1 = _; rw [hkj j hj], ?_⟩
    show x.s.meet (rangeN x.n.pivots (j : Int)) = u
    refine span_eq (meet_norm _ _) u1 fun q => ?_
    rw [u2, meet_has, hx.s, hxp, range_has hpv.1 q (by omega)]
theorem kidsF_flat {β : Type} {l : List Nd} {k : Nat} {x : Seat} {K : List (BT k)} {f : Seat → List β} {g : BT k → List β} (h : ∀ j (hj : j < K.length), f (kidSt l x j) = g K[j]) : (kidsF l x K.length).flatMap f = K.flatMap g := by
  have h1 : (kidsF l x K.length).map f = K.map g := by
    unfold kidsF
    refine List.ext_getElem (by simp) fun j h1 h2 => ?_
    simp only [List.getElem_map, List.getElem_range]
    exact h j (by simpa using h2)
  rw [List.flatMap_def, List.flatMap_def, h1]
theorem tree_wf {c : Cfg} {l : List Nd} (hfan : c.fan = fan) (hleaf : c.leaf = leaf) (hf0 : 0 ≤ fan) (hl0 : 0 ≤ leaf) : ∀ (k : Nat) {y : BT k} {lo : Int} {s : Span} {x : Seat} {top : Bool}, s.norm = s →
    BT.ok fan leaf k lo (mxB fan leaf k) s y → SeatOf k y s x → (if top = true then (if k = 0 then (0 : Int) else 2) else mnB fan leaf k) ≤ lo → (∀ n ∈ nds k y, findN l n.slot = (toNd n, true)) →
    wfF c l k top x ∧ preS l k x = (nds k y).map BNd.slot ∧ rowsF l k x = BT.rows k y
  | 0, y, lo, s, x, top, hs, hok, hx, hlo, hf => by
    have hlv : x.n.level = 0 := by rw [hx.n]; rfl
    refine ⟨⟨hlv, (seat17_l hlv).2 ⟨⟨by rw [hx.n]; rfl, by rw [hx.n, hleaf]; exact hok.1.2, ?_⟩, by rw [hx.n]; exact hok.2.1, fun i hi => ?_⟩⟩, ?_, ?_⟩
    · rw [hx.n, hleaf, quo_nn hl0]
      have h1 := hok.1.1
      show _ ≤ ((lfR y).length : Int)
      cases top
      · have h2 : leaf / 2 ≤ lo := hlo
        rw [if_neg (by decide)]; omega
      · rw [if_pos rfl]; omega
    · rw [hx.s]
      have h9 : x.n.rows = lfR y := by rw [hx.n]; rfl
      exact hok.2.2 _ (by rw [← h9]; exact List.getElem_mem hi)
    · show [x.n.slot] = _
      rw [hx.n]; rfl
    · rw [rowsF_0, hx.n]; rfl
  | k + 1, y, lo, s, x, top, hs, hok, hx, hlo, hf => by
    have hlv : x.n.level = ((k + 1 : Nat) : Int) := by rw [hx.n]; rfl
    have hpv := hok.2.piv hs
    obtain ⟨h1, h2⟩ := kid_seats (l := l) hs hok hx fun c hc => by
      have h9 := hf _ (nds_kid hc nds_head)
      rw [ndB_slot] at h9; exact h9
    have hkd : kidsD l x = kidsF l x (ndK y).length := by unfold kidsD; rw [h1]; rfl
    have ih : ∀ j (hj : j < (ndK y).length), wfF c l k false (kidSt l x j) ∧ preS l k (kidSt l x j) = (nds k (ndK y)[j]).map BNd.slot ∧ rowsF l k (kidSt l x j) = BT.rows k (ndK y)[j] := fun j hj => by
      obtain ⟨u, u1, u2, u3⟩ := h2 j hj
      exact tree_wf hfan hleaf hf0 hl0 k u1 u2 u3 (by rw [if_neg (by decide)]; exact Int.le_refl _) fun n hn => hf n (nds_kid (List.getElem_mem hj) hn)
    refine ⟨⟨hlv, by rw [h1]; rfl, (seat17_i (by omega)).2 ⟨⟨by rw [hx.n]; rfl, ?_, ?_⟩, fun i hi => ?_⟩, fun z hz => ?_⟩, ?_, ?_⟩
    · rw [hx.n, hfan]
      have h9 := hok.1.2
      show (((ndK y).map BT.slot).length : Int) ≤ fan
      rw [List.length_map]; exact h9
    · rw [hx.n, hfan, quo_nn hf0]
      have h9 := hok.1.1
      show _ ≤ (((ndK y).map BT.slot).length : Int)
      rw [List.length_map]
      cases top
      · have h8 : fan / 2 ≤ lo := hlo
        rw [if_neg (by decide)]; omega
      · rw [if_pos rfl] at hlo ⊢
        rw [if_neg (by omega)] at hlo
        omega
    · have h9 : x.n.pivots = ndP y := by rw [hx.n]; rfl
      have h8 := hpv.2 _ (by rw [← h9]; exact List.getElem_mem hi)
      rw [hx.s]; exact h8
    · rw [hkd] at hz
      obtain ⟨j, hj, rfl⟩ := List.mem_map.1 hz
      exact (ih j (List.mem_range.1 hj)).1
    · have h9 : preS l (k + 1) x = x.n.slot :: (kidsD l x).flatMap (preS l k) := preS_succ k x
      rw [h9, hkd, kidsF_flat (g := fun c => (nds k c).map BNd.slot) fun j hj => (ih j hj).2.1, nds_succ, List.map_cons, flatMap_map9, hx.n]; rfl
    · have h9 : rowsF l (k + 1) x = (kidsD l x).flatMap (rowsF l k) := by
        unfold rowsF
        show ((kidsD l x).flatMap (dfsF l k)).flatMap _ = _
        rw [List.flatMap_assoc]
      rw [h9, hkd, kidsF_flat (g := BT.rows k) fun j hj => (ih j hj).2.2]; rfl
theorem TOk.root (h : TOk fan leaf t) : findN (ndsN t) t.y.slot = (toNd (ndB t.k t.y), true) := by
  have h9 := h.find nds_head
  rw [ndB_slot] at h9; exact h9
theorem TOk.good (h : TOk fan leaf t) {c : Cfg} (hfan : c.fan = fan) (hleaf : c.leaf = leaf) : Good17 c t.y.slot (ndsN t) ∧ map17 c t.y.slot (ndsN t) = t.rows := by
  have hr := h.root
  have hc := h.cfg
  have hlv : (findN (ndsN t) t.y.slot).1.level = (t.k : Int) := by rw [hr]; exact ndB_lvl
  obtain ⟨w1, w2, w3⟩ := tree_wf (c := c) (l := ndsN t) (top := true) (x := rootS (ndsN t) t.y.slot) hfan hleaf (by omega) (by omega) t.k allS_norm h.ok ⟨by show (findN (ndsN t) t.y.slot).1 = _; rw [hr], rfl⟩ (by rw [if_pos rfl]; exact Int.le_refl _) fun n hn => h.find hn
  have hg : Good17 c t.y.slot (ndsN t) := by
    refine ⟨by rw [hr], h.ndN, by rw [hlv]; omega, ?_, ?_, ?_⟩
    · rw [hlv]; exact w1
    · rw [hlv]; show (preS _ t.k _).Nodup; rw [w2]; exact h.nd
    · rw [hlv]; show (preS _ t.k _).length = _; rw [w2, List.length_map, h.ndsL]
  refine ⟨hg, ?_⟩
  rw [map17_good hg, hlv]
  exact w3
theorem TOk.sound (h : TOk fan leaf t) {c : Cfg} (hfan : c.fan = fan) (hleaf : c.leaf = leaf) : sound17 c t.y.slot (ndsN t) = true := sound_iff17.2 (h.good hfan hleaf).1
/-! ## How many nodes there are -/
theorem flat_len9 {α β γ : Type} {f : α → List β} {g : α → List γ} : ∀ {l : List α}, (∀ c ∈ l, (f c).length + 1 ≤ 2 * (g c).length) → (l.flatMap f).length + l.length ≤ 2 * (l.flatMap g).length
  | [], _ => Nat.le_refl _
  | c :: l, h => by
    rw [List.flatMap_cons, List.flatMap_cons, List.length_append, List.length_append, List.length_cons]
    have h1 := h c (List.mem_cons_self ..)
    have h2 := flat_len9 (l := l) fun d hd => h d (List.mem_cons_of_mem _ hd)
    omega
theorem nds_rows (hf : 4 ≤ fan) (hl : 2 ≤ leaf) : ∀ (k : Nat) {y : BT k} {lo hi : Int} {s : Span}, s.norm = s → BT.ok fan leaf k lo hi s y → (if k = 0 then (1 : Int) else 2) ≤ lo → (nds k y).length + 1 ≤ 2 * (BT.rows k y).length
  | 0, y, lo, hi, s, hs, hok, hlo => by
    have h1 := hok.1.1
    rw [if_pos rfl] at hlo
    show 1 + 1 ≤ 2 * (lfR y).length
    omega
  | k + 1, y, lo, hi, s, hs, hok, hlo => by
    have h1 := hok.1.1
    rw [if_neg (by omega)] at hlo
    have h2 := flat_len9 (f := nds k) (g := BT.rows k) (l := ndK y) fun c hc => by
      obtain ⟨j, hj, rfl⟩ := List.getElem_of_mem hc
      have hlen := hok.2.len
      obtain ⟨u, hj2, u1, u2, u3, _⟩ := hok.2.at hs (i := j) (by omega)
      exact nds_rows hf hl k u1 u3 (by unfold mnB; split <;> omega)
    rw [nds_succ, List.length_cons]
    show _ ≤ 2 * ((ndK y).flatMap (BT.rows k)).length
    omega
end
end Go.Fw
