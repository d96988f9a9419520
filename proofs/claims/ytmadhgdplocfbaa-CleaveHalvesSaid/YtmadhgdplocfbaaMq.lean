/- The halves of a node that may be may be. No condition. -/
import Derived.Test.YtmadhgdplocfbaaMp
set_option linter.unusedVariables false
namespace Go.Fw
open Go
theorem PairsR.lt {l : List Pair} (hr : PairsR l) : ∀ (j i : Nat) (hij : i < j) (hj : j < l.length), l[i].key.lt l[j].key = true
  | 0, i, h, _ => by omega
  | j + 1, i, h, hj => by
    have h1 : l[j].key.lt l[j + 1].key = true := (hr (j + 1) hj).2 (by omega)
    by_cases e : i = j
    · subst e; exact h1
    · exact Str.lt_trans (PairsR.lt hr j i (by omega) (by omega)) h1
theorem PairsR.take {l : List Pair} (h : PairsR l) (n : Nat) : PairsR (l.take n) := fun i hi => by
  simp at hi
  have := h i (by omega)
  refine ⟨by simpa using this.1, fun h0 => by simpa using this.2 h0⟩
theorem PairsR.drop {l : List Pair} (h : PairsR l) (n : Nat) : PairsR (l.drop n) := fun i hi => by
  simp at hi
  have := h (n + i) (by omega)
  refine ⟨by simpa using this.1, fun h0 => ?_⟩
  have h2 := this.2 (by omega)
  simp only [List.getElem_drop]
  have e : n + (i - 1) = n + i - 1 := by omega
  simp only [e]; exact h2
/-! ### Messages -/
theorem less_next : ∀ {a k : List UInt8}, Op.bytesLess a k = true → Op.bytesLess k (a ++ [0]) = false
  | _, [], h => by cases ‹List UInt8› <;> simp [Op.bytesLess] at h
  | [], y :: k, h => by
    simp only [List.nil_append, Op.bytesLess, Bool.or_eq_false_iff, Bool.and_eq_false_iff, decide_eq_false_iff_not]
    refine ⟨fun h => ?_, .inr (by cases k <;> trivial)⟩
    exact absurd (UInt8.lt_iff_toNat_lt.1 h) (by simp)
  | x :: a, y :: k, h => by
    simp only [Op.bytesLess, Bool.or_eq_true, Bool.and_eq_true, decide_eq_true_eq, beq_iff_eq] at h
    simp only [List.cons_append, Op.bytesLess, Bool.or_eq_false_iff, Bool.and_eq_false_iff, decide_eq_false_iff_not, beq_eq_false_iff_ne]
    rcases h with h | ⟨rfl, h⟩
    · exact ⟨fun h2 => UInt8.lt_asymm h h2, .inl fun e => by subst e; exact UInt8.lt_irrefl _ h⟩
    · exact ⟨UInt8.lt_irrefl _, .inr (less_next h)⟩
theorem Str.next_le {a k : Str} (ha : a.b.size < 140737488355328) (h : a.lt k = true) : k.lt a.next = false := by
  show Op.bytesLess k.b.toList a.next.b.toList = false
  have e : a.next.b.toList = a.b.toList ++ [0] := by
    rw [Str.next_b ha, ByteArray.toList_eq, ByteArray.toList_eq]; simp
  rw [e]; exact less_next h
theorem MsgsR.iff {l : List Msg} : MsgsR l ↔ (∀ m ∈ l, m.R) ∧ l.Pairwise fun a b => a.stamp < b.stamp := by
  constructor
  · intro h
    refine ⟨fun m hm => ?_, List.pairwise_iff_getElem.2 fun i j hi hj hij => ?_⟩
    · obtain ⟨i, hi, rfl⟩ := List.getElem_of_mem hm; exact (h i hi).1
    · induction j with
      | zero => omega
      | succ j ih =>
        have h1 : l[j].stamp < l[j + 1].stamp := (h (j + 1) hj).2 (by omega)
        by_cases e : i = j
        · subst e; exact h1
        · have := ih (by omega) (by omega); omega
  · rintro ⟨h1, h2⟩ i hi
    exact ⟨h1 _ (List.getElem_mem hi), fun h0 => List.pairwise_iff_getElem.1 h2 (i - 1) i (by omega) hi (by omega)⟩
theorem clips_mem {s : Span} {l : List Msg} {m : Msg} (h : m ∈ clips s l) : ∃ a ∈ l, (a.clip s).2 = true ∧ (a.clip s).1 = m := by
  obtain ⟨a, ha, h⟩ := List.mem_filterMap.1 h
  split at h
  · rename_i hc; exact ⟨a, ha, hc, by simpa using h⟩
  · cases h
theorem clip_of {m : Msg} {s : Span} (h : (m.clip s).2 = true) : (m.span.meet s).empty = false ∧ (m.clip s).1 = if m.kind = 4 then { m with key := (m.span.meet s).lo, hi := (m.span.meet s).hi, opn := (m.span.meet s).opn } else m := by
  cases he : (m.span.meet s).empty
  · refine ⟨rfl, ?_⟩
    by_cases k : m.kind = 4
    · rw [clip_4 he k, if_pos k]
    · rw [clip_n he k, if_neg k]
  · rw [clip_e he] at h; cases h
theorem clip_stamp {m : Msg} {s : Span} (h : (m.clip s).2 = true) : (m.clip s).1.stamp = m.stamp := by
  rw [(clip_of h).2]; split <;> rfl
theorem clip_size {m : Msg} {s : Span} (h : (m.clip s).2 = true) : (m.clip s).1.size = m.size := by
  rw [(clip_of h).2]
  unfold Msg.size
  split
  · rfl
  · rfl
theorem norm_empty (s : Span) : s.norm.empty = s.empty := by
  unfold Span.norm
  by_cases h : s.empty = true
  · rw [if_pos h, h]; simp [Span.empty, Span.zero, Str.lt_irrefl]
  · rw [if_neg h]; split
    · rename_i ho; simp [Span.empty, ho]
    · rfl
theorem norm_sizes {s : Span} {n : Nat} (h1 : s.lo.b.size ≤ n) (h2 : s.hi.b.size ≤ n) : s.norm.lo.b.size ≤ n ∧ s.norm.hi.b.size ≤ n := by
  have h0 : Str.nil.b.size = 0 := rfl
  unfold Span.norm
  split
  · exact ⟨by show Str.nil.b.size ≤ n; omega, by show Str.nil.b.size ≤ n; omega⟩
  · split
    · exact ⟨h1, by show Str.nil.b.size ≤ n; omega⟩
    · exact ⟨h1, h2⟩
theorem norm_opn {s : Span} : s.norm.opn = false ∨ s.norm.hi = Str.nil := by
  unfold Span.norm
  split
  · exact .inl rfl
  · split
    · exact .inr rfl
    · rename_i h; exact .inl (by simpa using h)
theorem clip_R {m : Msg} {s : Span} (hm : m.R) (h1 : s.lo.b.size ≤ 16) (h2 : s.hi.b.size ≤ 16) (h : (m.clip s).2 = true) : (m.clip s).1.R := by
  obtain ⟨he, e⟩ := clip_of h
  rw [e]
  by_cases k : m.kind = 4
  · rw [if_pos k]
    obtain ⟨⟨q1, q2, q3, q4⟩, q5⟩ := hm
    rw [if_pos k] at q5
    have hs : m.span = ⟨m.key, m.hi, m.opn⟩ := if_pos k
    have hz : (m.span.meet s).lo.b.size ≤ 16 ∧ (m.span.meet s).hi.b.size ≤ 16 := by
      rw [hs]
      exact norm_sizes (by show (if _ then _ else _ : Str).b.size ≤ 16; split; exact h1; exact q2) (by show (if _ then _ else _ : Str).b.size ≤ 16; split; exact h2; exact q4)
    refine ⟨⟨q1, hz.1, q3, hz.2⟩, ?_⟩
    show if m.kind = 4 then _ else _
    rw [if_pos k]
    refine ⟨q5.1, norm_opn, ?_⟩
    show Span.empty (if m.kind = 4 then _ else _) = false
    rw [if_pos k]; exact he
  · rw [if_neg k]; exact hm
theorem clips_R {s : Span} {l : List Msg} (hl : MsgsR l) (h1 : s.lo.b.size ≤ 16) (h2 : s.hi.b.size ≤ 16) : MsgsR (clips s l) := by
  rw [MsgsR.iff] at hl ⊢
  refine ⟨fun m hm => ?_, ?_⟩
  · obtain ⟨a, ha, hc, rfl⟩ := clips_mem hm
    exact clip_R (hl.1 a ha) h1 h2 hc
  · refine List.Pairwise.filterMap _ (fun a b hab c hc d hd => ?_) hl.2
    split at hc
    · split at hd
      · rename_i k1 k2
        cases hc; cases hd
        rw [clip_stamp k1, clip_stamp k2]; exact hab
      · cases hd
    · cases hc
theorem sizes_cons {m : Msg} {l : List Msg} : sizesN (m :: l) = m.size + sizesN l := by simp [sizesN]
theorem clips_size {s : Span} : ∀ {l : List Msg}, sizesN (clips s l) ≤ sizesN l ∧ 0 ≤ sizesN (clips s l)
  | [] => ⟨Int.le_refl _, Int.le_refl _⟩
  | m :: l => by
    have ih := clips_size (s := s) (l := l)
    have h0 : 0 ≤ m.size := by unfold Msg.size; split <;> omega
    cases hc : (m.clip s).2
    · have e : clips s (m :: l) = clips s l := by simp [clips, hc]
      rw [e, sizes_cons]; omega
    · have e : clips s (m :: l) = (m.clip s).1 :: clips s l := by simp [clips, hc]
      rw [e, sizes_cons, sizes_cons, clip_size hc]; omega
theorem norm_id {s : Span} (h : s.empty = false) (ho : s.opn = false) : s.norm = s := by
  unfold Span.norm
  rw [if_neg (by simp [h]), if_neg (by simp [ho])]
/-! ### Nodes -/
theorem sound_keys {n : Nd} (h : n.sound) : ∀ m ∈ n.msgs, m.key.b.size < 140737488355328 := fun m hm => by
  have h1 : n.light 2000 := h.1.2 0 (by simp)
  have h2 := (longG_mem (w := Msg.w) (fun a => by have := a.w_pos; omega) (Int.le_refl 0) h1.2.2.2.1).2 m hm
  unfold Msg.w at h2
  omega
theorem fits_left {n : Nd} {m : Msg} {k : Str} {i : Int} (hm : m.R) (hf : m.stamp ≤ n.seen) (h : (m.clip ⟨Str.nil, k, false⟩).2 = true) :
    (m.clip ⟨Str.nil, k, false⟩).1.stamp ≤ n.seen ∧ ((m.clip ⟨Str.nil, k, false⟩).1.span.opn = false ∧ k.lt (m.clip ⟨Str.nil, k, false⟩).1.span.hi = false) := by
  refine ⟨by rw [clip_stamp h]; exact hf, ?_⟩
  obtain ⟨he, e⟩ := clip_of h
  have hb : (m.span.meet ⟨Str.nil, k, false⟩) = ⟨if m.span.lo.lt Str.nil = true then Str.nil else m.span.lo, if m.span.opn = true ∨ k.lt m.span.hi = true then k else m.span.hi, false⟩ := by
    unfold Span.meet
    rw [norm_id]
    · simp
    · rw [← norm_empty]; exact he
    · simp
  rw [e]
  by_cases k4 : m.kind = 4
  · rw [if_pos k4]
    show (if m.kind = 4 then _ else _ : Span).opn = false ∧ k.lt (if m.kind = 4 then _ else _ : Span).hi = false
    rw [if_pos k4]
    rw [hb]
    refine ⟨rfl, ?_⟩
    show k.lt (if _ then k else m.span.hi) = false
    split
    · exact Str.lt_irrefl _
    · rename_i hn; cases hk : k.lt m.span.hi
      · rfl
      · exact absurd (.inr hk) hn
  · rw [if_neg k4]
    have hsp : m.span = ⟨m.key, m.key.next, false⟩ := if_neg k4
    rw [hb, hsp] at he
    rw [hsp]
    refine ⟨rfl, ?_⟩
    show k.lt m.key.next = false
    cases hk : k.lt m.key.next
    · rfl
    · simp [Span.empty, hk, Str.nil_le] at he
      have := Str.next_le (by have := hm.1.2.1; omega) he
      rw [this] at hk; cases hk
theorem fits_right {n : Nd} {m : Msg} {k : Str} (hf : n.fits m) (h : (m.clip ⟨k, Str.nil, true⟩).2 = true) : n.fits (m.clip ⟨k, Str.nil, true⟩).1 := by
  refine ⟨by rw [clip_stamp h]; exact hf.1, ?_⟩
  rcases hf.2 with ht | ⟨ho, hh⟩
  · exact .inl ht
  · refine .inr ?_
    obtain ⟨he, e⟩ := clip_of h
    rw [e]
    by_cases k4 : m.kind = 4
    · rw [if_pos k4]
      show (if m.kind = 4 then _ else _ : Span).opn = false ∧ n.high.lt (if m.kind = 4 then _ else _ : Span).hi = false
      rw [if_pos k4]
      have hb : (m.span.meet ⟨k, Str.nil, true⟩) = ⟨if m.span.lo.lt k = true then k else m.span.lo, m.span.hi, false⟩ := by
        unfold Span.meet
        rw [norm_id]
        · simp [ho]
        · rw [← norm_empty]; exact he
        · simp [ho]
      rw [hb]
      exact ⟨rfl, hh⟩
    · rw [if_neg k4]; exact ⟨ho, hh⟩
theorem between_props {a b : Str} (h : a.lt b = true) (hb : b.b.size ≤ 16) : (betweenN a b).1 ≠ Str.nil ∧ (betweenN a b).1.b.size ≤ 16 ∧ a.lt (betweenN a b).1 = true ∧ b.lt (betweenN a b).1 = false := by
  have h1 := common_lt h
  rw [betweenN_t h]
  have hs : (b.cut 0 (commonN a b + 1)).b.size = commonN a b + 1 := cut_size (by omega)
  refine ⟨fun e => ?_, by show (b.cut 0 (commonN a b + 1)).b.size ≤ 16; omega, ?_, ?_⟩
  · have e : b.cut 0 (commonN a b + 1) = Str.nil := e
    rw [e] at hs; have : Str.nil.b.size = 0 := rfl; omega
  · show a.lt (b.cut 0 (commonN a b + 1)) = true
    rw [lt_cut (by omega), h]; simp
  · show b.lt (b.cut 0 (commonN a b + 1)) = false
    rw [lt_cut (by omega), Str.lt_irrefl]; rfl
theorem cleave_R {n : Nd} {fan leaf bud slot : Int} (hR : n.R fan leaf bud) (hs : 0 ≤ slot) (hok : (cleaveN n slot).2.2.2 = true) :
    (cleaveN n slot).1.R fan leaf bud ∧ (cleaveN n slot).2.1.R fan leaf bud ∧ (cleaveN n slot).1.kids.length + (cleaveN n slot).2.1.kids.length = n.kids.length ∧ (cleaveN n slot).1.rows.length + (cleaveN n slot).2.1.rows.length = n.rows.length := by
  obtain ⟨⟨q1, q2, q3⟩, q4, q5, q6⟩ := hR
  by_cases h0 : n.level = 0
  · rw [if_pos h0] at q6
    obtain ⟨r1, r2, r3, r4⟩ := q6
    by_cases hl : n.rows.length < 2
    · rw [cleave_lf h0 hl] at hok; cases hok
    · have hlt := PairsR.lt r3 ((n.rows.length + 1) / 2) ((n.rows.length + 1) / 2 - 1) (by omega) (by omega)
      obtain ⟨b1, b2, b3, b4⟩ := between_props hlt (r3 ((n.rows.length + 1) / 2) (by omega)).1.1
      rw [cleave_lt h0 hl]
      refine ⟨⟨⟨q1, q2, q3⟩, (fun h => by cases h), fun _ => ⟨b1, b2, hs⟩, ?_⟩, ⟨⟨hs, q2, q3⟩, q4, q5, ?_⟩, by show n.kids.length + n.kids.length = n.kids.length; omega, by show (n.rows.take _).length + (n.rows.drop _).length = _; simp; omega⟩
      · rw [if_pos (show _ = (0 : Int) from h0)]
        refine ⟨r1, ?_, r3.take _, fun i hi => ?_⟩
        · show ((n.rows.take _).length : Int) ≤ leaf
          simp only [List.length_take]; omega
        · have hi' : i < (n.rows.take ((n.rows.length + 1) / 2)).length := hi
          simp only [List.length_take] at hi'
          show (false || Str.lt (n.rows.take _)[i].key _) = true
          rw [Bool.false_or, List.getElem_take]
          by_cases e : i = (n.rows.length + 1) / 2 - 1
          · subst e; exact b3
          · exact Str.lt_trans (PairsR.lt r3 ((n.rows.length + 1) / 2 - 1) i (by omega) (by omega)) b3
      · rw [if_pos (show _ = (0 : Int) from h0)]
        refine ⟨r1, ?_, r3.drop _, fun i hi => ?_⟩
        · show ((n.rows.drop _).length : Int) ≤ leaf
          simp only [List.length_drop]; omega
        · have hi' : i < (n.rows.drop ((n.rows.length + 1) / 2)).length := hi
          simp only [List.length_drop] at hi'
          show n.has (n.rows.drop _)[i].key = true
          rw [List.getElem_drop]
          exact r4 _ (by omega)
  · rw [if_neg h0] at q6
    obtain ⟨⟨r1, r2, r3⟩, r4, r5, r6, r7, r8, r9⟩ := q6
    by_cases hl : n.kids.length < 4
    · rw [cleave_if h0 (.inl hl)] at hok; cases hok
    · obtain ⟨hr, hc⟩ := rightN_spec r4
      have hk := r8 ((n.kids.length + 1) / 2 - 1) (by omega)
      have hks := hk.2.1
      have hn0 : Str.nil.b.size ≤ 16 := by decide
      rw [cleave_it h0 hl r4 hc]
      refine ⟨⟨⟨q1, q2, q3⟩, (fun h => by cases h), fun _ => ⟨hk.1, hks, hs⟩, ?_⟩, ⟨⟨hs, q2, q3⟩, q4, q5, ?_⟩, by show (n.kids.take _).length + (n.kids.drop _).length = _; simp; omega, by show n.rows.length + n.rows.length = n.rows.length; omega⟩
      · rw [if_neg (show ¬ _ = (0 : Int) from h0)]
        refine ⟨⟨r1, ?_, ?_⟩, ?_, ?_, ?_, ?_, ?_, ?_⟩
        · show 2 ≤ (n.kids.take _).length
          simp only [List.length_take]; omega
        · show ((n.kids.take _).length : Int) ≤ fan
          simp only [List.length_take]; omega
        · exact rightN_of (rising_take hr _) (by show (n.kids.take _).length = (n.pivots.take _).length + 1; simp only [List.length_take]; omega)
        · exact clips_R r5 hn0 hks
        · exact Int.le_trans clips_size.1 r6
        · intro i hi
          have hi' : i < (n.kids.take ((n.kids.length + 1) / 2)).length := hi
          simp only [List.length_take] at hi'
          show 0 ≤ (n.kids.take _)[i]
          rw [List.getElem_take]; exact r7 i (by omega)
        · intro i hi
          have hi' : i < (n.pivots.take ((n.kids.length + 1) / 2 - 1)).length := hi
          simp only [List.length_take] at hi'
          have hp := r8 i (by omega)
          show Nd.parts _ ((n.pivots.take _)[i])
          rw [List.getElem_take]
          exact ⟨hp.1, hp.2.1, by show (false || _) = true; rw [Bool.false_or]; exact rising_lt hr _ i (by omega) (by omega)⟩
        · intro i hi
          obtain ⟨a, ha, hc2, e⟩ := clips_mem (List.getElem_mem (l := clips ⟨Str.nil, n.pivots[(n.kids.length + 1) / 2 - 1]'(by omega), false⟩ n.msgs) hi)
          obtain ⟨j, hj, rfl⟩ := List.getElem_of_mem ha
          have hf := fits_left (n := n) (i := 0) (r5 j hj).1 (r9 j hj).1 hc2
          rw [e] at hf
          exact ⟨hf.1, .inr hf.2⟩
      · rw [if_neg (show ¬ _ = (0 : Int) from h0)]
        refine ⟨⟨r1, ?_, ?_⟩, ?_, ?_, ?_, ?_, ?_, ?_⟩
        · show 2 ≤ (n.kids.drop _).length
          simp only [List.length_drop]; omega
        · show ((n.kids.drop _).length : Int) ≤ fan
          simp only [List.length_drop]; omega
        · exact rightN_of (rising_drop hr _) (by show (n.kids.drop _).length = (n.pivots.drop _).length + 1; simp only [List.length_drop]; omega)
        · exact clips_R r5 hks hn0
        · exact Int.le_trans clips_size.1 r6
        · intro i hi
          have hi' : i < (n.kids.drop ((n.kids.length + 1) / 2)).length := hi
          simp only [List.length_drop] at hi'
          show 0 ≤ (n.kids.drop _)[i]
          rw [List.getElem_drop]; exact r7 _ (by omega)
        · intro i hi
          have hi' : i < (n.pivots.drop ((n.kids.length + 1) / 2)).length := hi
          simp only [List.length_drop] at hi'
          show Nd.parts _ ((n.pivots.drop _)[i])
          rw [List.getElem_drop]
          exact r8 _ (by omega)
        · intro i hi
          obtain ⟨a, ha, hc2, e⟩ := clips_mem (List.getElem_mem (l := clips ⟨n.pivots[(n.kids.length + 1) / 2 - 1]'(by omega), Str.nil, true⟩ n.msgs) hi)
          obtain ⟨j, hj, rfl⟩ := List.getElem_of_mem ha
          have hf := fits_right (r9 j hj) hc2
          rw [e] at hf
          exact hf
end Go.Fw
