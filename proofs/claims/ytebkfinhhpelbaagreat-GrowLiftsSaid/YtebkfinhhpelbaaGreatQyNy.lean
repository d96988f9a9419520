/- A sound tree with a kid in two is sound, and stands for the same map. Plain Lean; nothing of the program is named here. No condition. -/
import Derived.Test.YtebkfinhhpelbaaGreatQyNx
set_option linter.unusedVariables false
set_option linter.unusedSimpArgs false
set_option linter.unnecessarySimpa false
namespace Go.Fw
open Go Go.RowKit
namespace PartOf
variable {c : Cfg} {l : List Nd} {ss : List Seat} {P : Seat} {i : Nat} {a b : Nd} {k : Str} {h : Nat}
theorem msA (p : PartOf c l ss P i a b k h) : ∀ m ∈ (nA l P i a b k).n.msgs, ∃ m' ∈ (kidSt l P i).n.msgs, (m'.clip ⟨Str.nil, k, false⟩).2 = true ∧ (m'.clip ⟨Str.nil, k, false⟩).1 = m := fun m hm => by
  rw [p.an] at hm
  by_cases h0 : (kidSt l P i).n.level = 0
  · rw [(p.m0 h0).1, p.t.nomsgs p.km.1 h0] at hm; cases hm
  · rw [(p.m1 h0).1] at hm; exact clips_mem hm
theorem msB (p : PartOf c l ss P i a b k h) : ∀ m ∈ (nB l P i a b k).n.msgs, ∃ m' ∈ (kidSt l P i).n.msgs, (m'.clip ⟨k, Str.nil, true⟩).2 = true ∧ (m'.clip ⟨k, Str.nil, true⟩).1 = m := fun m hm => by
  rw [p.bn] at hm
  by_cases h0 : (kidSt l P i).n.level = 0
  · rw [(p.m0 h0).2, p.t.nomsgs p.km.1 h0] at hm; cases hm
  · rw [(p.m1 h0).2] at hm; exact clips_mem hm
theorem kin9 (p : PartOf c l ss P i a b k h) : (kidSt l P i).s.has k = true ∧ k ≠ (kidSt l P i).s.lo := p.t.k_in p.km.1 p.hv p.nk
theorem phas (p : PartOf c l ss P i a b k h) : P.s.has k = true ∧ k ≠ P.s.lo := by
  obtain ⟨k1, k2⟩ := p.kin9
  have h1 : P.s.has k = true := kid_sub (l := l) (j := i) k k1
  refine ⟨h1, fun e => ?_⟩
  have he : (kidSt l P i).s.empty = false := by
    cases e9 : (kidSt l P i).s.empty
    · rfl
    · have := empty_iff.1 e9 k; rw [k1] at this; cases this
  have h2 := kid_sub (l := l) (j := i) _ (lo_in he)
  have h3 := (span_has.1 h2).1
  have h4 := (span_has.1 k1).1
  rw [← e] at h3
  exact k2 (Str.lt_total h4 h3)
theorem pR (p : PartOf c l ss P i a b k h) : (adoptNd P.n i k l.length).R c.fan c.leaf c.bud := by
  obtain ⟨q1, q4, q5, q6⟩ := (p.t.seat p.mem).1
  rw [if_neg p.h0] at q6
  obtain ⟨⟨r1, r2, r3⟩, r4, r5, r6, r7, r8, r9⟩ := q6
  obtain ⟨⟨p1, p2⟩, _⟩ := (p.t.seat p.mem).2.1
  refine ⟨q1, q4, q5, ?_⟩
  rw [if_neg (show ¬ (adoptNd P.n i k l.length).level = 0 from p.h0)]
  have hkl := p.klen
  have hl : (adoptNd P.n i k l.length).kids.length = P.n.kids.length + 1 := hkl
  have hf := p.full
  refine ⟨⟨r1, by omega, by omega⟩, p.rt', r5, r6, fun j hj => ?_, fun j hj => ?_, r9⟩
  · have hm : (adoptNd P.n i k l.length).kids[j] ∈ (P.n.kids.take (i + 1) ++ [(l.length : Int)]) ++ P.n.kids.drop (i + 1) := List.getElem_mem hj
    have all : ∀ z ∈ P.n.kids, 0 ≤ z := fun z hz => by obtain ⟨q, hq, rfl⟩ := List.getElem_of_mem hz; exact r7 q hq
    rcases List.mem_append.1 hm with hm | hm
    · rcases List.mem_append.1 hm with hm | hm
      · exact all _ (List.mem_of_mem_take hm)
      · rw [List.mem_singleton] at hm; rw [hm]; omega
    · exact all _ (List.mem_of_mem_drop hm)
  · have hm : (adoptNd P.n i k l.length).pivots[j] ∈ (P.n.pivots.take i ++ [k]) ++ P.n.pivots.drop i := List.getElem_mem hj
    have all : ∀ z ∈ P.n.pivots, P.n.parts z := fun z hz => by obtain ⟨q, hq, rfl⟩ := List.getElem_of_mem hz; exact r8 q hq
    rcases List.mem_append.1 hm with hm | hm
    · rcases List.mem_append.1 hm with hm | hm
      · exact all _ (List.mem_of_mem_take hm)
      · rw [List.mem_singleton] at hm; rw [hm]
        refine ⟨p.hv.size.1, p.hv.size.2, ?_⟩
        show (P.n.top || k.lt P.n.high) = true
        rw [p1, p2, Bool.or_eq_true]
        exact (span_has.1 p.phas.1).2
    · exact all _ (List.mem_of_mem_drop hm)
theorem pP (p : PartOf c l ss P i a b k h) : PlacedP (nP l P i k) := by
  obtain ⟨p0, p3, p4, p5⟩ := (p.t.seat p.mem).2.1
  refine ⟨p0, p3, fun j hj => ?_, p5⟩
  have hm : (nP l P i k).n.pivots[j] ∈ (P.n.pivots.take i ++ [k]) ++ P.n.pivots.drop i := List.getElem_mem hj
  have all : ∀ z ∈ P.n.pivots, P.s.has z = true ∧ z ≠ P.s.lo := fun z hz => by obtain ⟨q, hq, rfl⟩ := List.getElem_of_mem hz; exact p4 q hq
  rcases List.mem_append.1 hm with hm | hm
  · rcases List.mem_append.1 hm with hm | hm
    · exact all _ (List.mem_of_mem_take hm)
    · rw [List.mem_singleton] at hm; rw [hm]; exact p.phas
  · exact all _ (List.mem_of_mem_drop hm)
theorem seats9 (p : PartOf c l ss P i a b k h) : ∀ z ∈ ss.flatMap (fP l P i a b k), SeatP c z := fun z hz => by
  obtain ⟨x, hx, hz⟩ := List.mem_flatMap.1 hz
  have sK := p.t.seat p.km.1
  have room := p.room
  by_cases c1 : x.n.slot = (kidSt l P i).n.slot
  · rw [p.t.uniq hx p.km.1 c1, f_k] at hz
    simp only [List.mem_cons, List.not_mem_nil, or_false] at hz
    have st : ∀ {s : Span} {ms : List Msg}, ms = clips s (kidSt l P i).ms → ∀ j (hj : j < ms.length), (kidSt l P i).n.seen < ms[j].stamp := fun e j hj => by
      subst e
      obtain ⟨m0, hm0, e⟩ := clips_stamp (List.getElem_mem hj)
      rw [e]
      obtain ⟨q, hq, rfl⟩ := List.getElem_of_mem hm0
      exact sK.2.2.2 q hq
    rcases hz with rfl | rfl
    · refine ⟨by rw [p.an]; exact p.aR, HSeat.placedA p.t p.km.1 p.hs (meet_norm _ _) p.nk p.msA, by rw [p.an, p.sa]; exact sK.2.2.1, fun j hj => ?_⟩
      rw [p.an, p.ea]; exact st p.ams j hj
    · refine ⟨by rw [p.bn]; exact p.bR, HSeat.placedB p.t p.km.1 p.hs (meet_norm _ _) p.nk p.msB, by rw [p.bn, p.sb]; exact room, fun j hj => ?_⟩
      rw [p.bn, p.eb]; exact st p.bms j hj
  · by_cases c2 : x.n.slot = P.n.slot
    · rw [p.t.uniq hx p.mem c2, p.f_p, List.mem_singleton] at hz
      rw [hz]
      have sP := p.t.seat p.mem
      exact ⟨p.pR, p.pP, sP.2.2.1, sP.2.2.2⟩
    · rw [f_x c2 c1, List.mem_singleton] at hz
      rw [hz]; exact p.t.seat hx
theorem tree (p : PartOf c l ss P i a b k h) : Tree c (partL l P.n i a b k) (ss.flatMap (fP l P i a b k)) := by
  have hfew := p.few
  have hroom := p.room
  refine tree_mk p.t.cfg (by rw [p.len]; omega) (sml_R p.t.cfg (by rw [p.len]; omega) fun n hn => ?_) p.slots p.fix (fun z hz => ?_) p.perm ?_ (by rw [p.len]; omega) p.seats9
  · have old : ∀ n ∈ l, n.R c.fan c.leaf c.bud := fun n hn => by
      have := (p.t.perm.mem_iff).2 hn
      obtain ⟨x, hx, rfl⟩ := List.mem_map.1 this
      exact (p.t.seat hx).1
    unfold partL at hn
    rcases List.mem_append.1 hn with hn | hn
    · rcases List.mem_or_eq_of_mem_set hn with hn | rfl
      · rcases List.mem_or_eq_of_mem_set hn with hn | rfl
        · exact old n hn
        · exact p.aR
      · exact p.pR
    · rw [List.mem_singleton] at hn; rw [hn]; exact p.bR
  · obtain ⟨x, hx, hz⟩ := List.mem_flatMap.1 hz
    exact (p.each hx).1 z hz
  · obtain ⟨S1, S2, e1, e2⟩ := p.keys
    rw [e2]
    have := (linked_iff ss).1 p.t.q.1.2.1
    rw [e1] at this
    exact lk_part S1 S2 this
theorem map (p : PartOf c l ss P i a b k h) : mapN (partL l P.n i a b k) = mapN l := by
  rw [mapN_t p.tree.sts, mapN_t p.t.sts]
  refine leaves_flat fun x hx => ?_
  by_cases c1 : x.n.slot = (kidSt l P i).n.slot
  · rw [p.t.uniq hx p.km.1 c1, f_k]
    exact HSeat.view p.t p.km.1 p.hs (fun _ => by rw [p.ams, clips_clips fun _ h => h]) fun _ => by rw [p.bms, clips_clips fun _ h => h]
  · by_cases c2 : x.n.slot = P.n.slot
    · rw [p.t.uniq hx p.mem c2, p.f_p]
      have e1 : ¬ P.n.level = 0 := p.h0
      have e2 : ¬ (nP l P i k).n.level = 0 := p.h0
      simp [leavesS, List.filter_cons, e1, e2]
    · rw [f_x c2 c1]
end PartOf
end Go.Fw
