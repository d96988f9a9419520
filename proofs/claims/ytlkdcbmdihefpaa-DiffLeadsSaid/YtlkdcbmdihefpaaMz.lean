/- Wipes lead from a map to another. Plain Lean; nothing of the program is named here. No condition. -/
import Derived.Test.YtlkdcbmdihefpaaMy
set_option linter.unusedVariables false
set_option linter.unusedSimpArgs false
set_option linter.unnecessarySimpa false
namespace Go.Fw
/-- How many rows from the first on the second map does not have. -/
def strN (l : List Drow) : Nat := (l.takeWhile fun r => !r.inB).length
theorem strN_le (l : List Drow) : strN l ≤ l.length := (List.takeWhile_prefix _).length_le
theorem strN_take (l : List Drow) : l.take (strN l) = l.takeWhile fun r => !r.inB := by
  have h := List.takeWhile_prefix (p := fun r : Drow => !r.inB) (l := l)
  exact (List.prefix_iff_eq_take.1 h).symm
theorem mem_tw {α : Type} {p : α → Bool} {x : α} : ∀ {l : List α}, x ∈ l.takeWhile p → p x = true
  | [], h => by cases h
  | y :: l, h => by
    rw [List.takeWhile_cons] at h
    split at h
    · rename_i hy
      rcases List.mem_cons.1 h with rfl | h
      · exact hy
      · exact mem_tw h
    · cases h
theorem strN_out {l : List Drow} : ∀ r ∈ l.take (strN l), r.inB = false := by
  rw [strN_take]
  intro r hr
  have := mem_tw hr
  simpa using this
/-- A wipe from the first row on, to where the run ends. -/
def wipeOp (l : List Drow) (s : Nat) (k : Str) : Opr := ⟨4, k, if h : s < l.length then l[s].key else Str.nil, decide (s = l.length), Str.nil, 0⟩
def wipN (n : Int) : List Drow → List Opr
  | [] => []
  | r :: l =>
    if (strN (r :: l) : Int) < max n 2 then ((r :: l).take (max (strN (r :: l)) 1)).filterMap chg ++ wipN n ((r :: l).drop (max (strN (r :: l)) 1))
    else if h : 0 < strN (r :: l) then wipeOp (r :: l) (strN (r :: l)) r.key :: wipN n ((r :: l).drop (strN (r :: l))) else []
termination_by l => l.length
decreasing_by
  · simp; omega
  · simp; omega
theorem chg_out {r : Drow} (h : r.inB = false) : (chg r).isSome = true := by rw [chg_3 h]; rfl
theorem fm_all : ∀ {l : List Drow}, (∀ r ∈ l, r.inB = false) → (l.filterMap chg).length = l.length
  | [], _ => rfl
  | r :: l, h => by
    have ih := fm_all (l := l) fun s hs => h s (List.mem_cons_of_mem _ hs)
    rw [List.filterMap_cons_some (chg_3 (h r (by simp))), List.length_cons, List.length_cons, ih]
/-- No more wipes and changes than changes. -/
theorem wip_len (n : Int) : ∀ (l : List Drow), (wipN n l).length ≤ (l.filterMap chg).length
  | [] => by simp [wipN]
  | r :: l => by
    rw [wipN]
    have e : ∀ m, ((r :: l).filterMap chg).length = (((r :: l).take m).filterMap chg).length + (((r :: l).drop m).filterMap chg).length := fun m => by
      rw [← List.length_append, ← List.filterMap_append, List.take_append_drop]
    split
    · have := wip_len n ((r :: l).drop (max (strN (r :: l)) 1))
      rw [e (max (strN (r :: l)) 1), List.length_append]; omega
    · split
      · rename_i h1 h2
        have h3 := wip_len n ((r :: l).drop (strN (r :: l)))
        have h4 := fm_all (strN_out (l := r :: l))
        have h5 := strN_le (r :: l)
        rw [List.length_take] at h4
        rw [e (strN (r :: l)), List.length_cons]; omega
      · simp
termination_by l => l.length
decreasing_by
  · simp; omega
  · simp; omega
theorem DRise.drop {l : List Drow} (h : DRise l) (m : Nat) : DRise (l.drop m) := List.Pairwise.sublist (List.drop_sublist m l) h
theorem DRise.take {l : List Drow} (h : DRise l) (m : Nat) : DRise (l.take m) := List.Pairwise.sublist (List.take_sublist m l) h
theorem DRise.parts {l : List Drow} (h : DRise l) {m : Nat} {r s : Drow} (hr : r ∈ l.take m) (hs : s ∈ l.drop m) : r.key.lt s.key = true := by
  unfold DRise at h
  rw [← List.take_append_drop m l, List.pairwise_append] at h
  exact h.2.2 r hr s hs
theorem get_wipe {l : List Pair} {o : Opr} {k : Str} (h : o.kind = 4) : getN (takeN l (o.msg 1)) k = if (Span.has ⟨o.key, o.hi, o.opn⟩ k) = true then none else getN l k := by
  have h4 : (o.msg 1).kind = 4 := h
  unfold takeN
  rw [if_pos h4, Msg.span, if_pos h4]
  show getN (l.filter fun p => !(Span.has ⟨o.key, o.hi, o.opn⟩ p.key)) k = _
  rw [getN_filter (fun x => !(Span.has ⟨o.key, o.hi, o.opn⟩ x))]
  cases Span.has ⟨o.key, o.hi, o.opn⟩ k <;> simp
/-- Wipes and changes of rows, on rows that have what the first map has at their keys, and from the first key on no others. -/
theorem wip_get {a b : List Pair} (n : Int) : ∀ (L : List Drow) (l : List Pair) (k : Str), DRise L → (∀ r ∈ L, r = Drow.of a b r.key ∧ r.key.b.size < 140737488355328) → (∀ r ∈ L, getN l r.key = getN a r.key) →
    (∀ r, L.head? = some r → ∀ k, (getN l k).isSome = true → k.lt r.key = false → k ∈ L.map (·.key)) →
    getN (foldN l ((wipN n L).map fun o => o.msg 1)) k = if k ∈ L.map (·.key) then getN b k else getN l k
  | [], l, k, _, _, _, _ => by simp [wipN, foldN]
  | r :: L, l, k, hd, hr, hl, hcov => by
    have split : ∀ m k, k ∈ (r :: L).map (·.key) ↔ (k ∈ ((r :: L).take m).map (·.key) ∨ k ∈ ((r :: L).drop m).map (·.key)) := fun m k => by
      rw [← List.mem_append, ← List.map_append, List.take_append_drop]
    have apart : ∀ m k, k ∈ ((r :: L).take m).map (·.key) → k ∈ ((r :: L).drop m).map (·.key) → False := fun m k h1 h2 => by
      obtain ⟨x, hx, ex⟩ := List.mem_map.1 h1
      obtain ⟨y, hy, ey⟩ := List.mem_map.1 h2
      have h3 := hd.parts hx hy
      have ex : x.key = k := ex
      have ey : y.key = k := ey
      rw [ex, ey, Str.lt_irrefl] at h3; cases h3
    have hfirst : ∀ s ∈ r :: L, s.key.lt r.key = false := fun s hs => by
      rcases List.mem_cons.1 hs with rfl | hs
      · exact Str.lt_irrefl _
      · exact Str.lt_asymm ((List.pairwise_cons.1 hd).1 s hs)
    rw [wipN]
    split
    · -- changes of some rows
      generalize hm : max (strN (r :: L)) 1 = m
      have hm1 : 1 ≤ m := by omega
      have fold2 : ∀ ms ms' : List Msg, foldN l (ms ++ ms') = foldN (foldN l ms) ms' := fun ms ms' => List.foldl_append ..
      rw [List.map_append, fold2]
      have hin : ∀ s ∈ (r :: L).take m, s ∈ r :: L := fun s hs => List.mem_of_mem_take hs
      have hin2 : ∀ s ∈ (r :: L).drop m, s ∈ r :: L := fun s hs => List.mem_of_mem_drop hs
      have hg := fun k => chg_get (a := a) (b := b) (l := l) (k := k) (hd.take m) (fun s hs => hr s (hin s hs)) (fun s hs => hl s (hin s hs))
      rw [wip_get n ((r :: L).drop m) _ k (hd.drop m) (fun s hs => hr s (hin2 s hs)) (fun s hs => by
          rw [hg, if_neg (fun h => apart m _ h (List.mem_map.2 ⟨s, hs, rfl⟩))]; exact hl s (hin2 s hs))
        (fun s hs q hq hqs => by
          have hsm : s ∈ (r :: L).drop m := List.mem_of_mem_head? (by rw [hs]; rfl)
          have hnot : q ∉ ((r :: L).take m).map (·.key) := fun h => by
            obtain ⟨x, hx, ex⟩ := List.mem_map.1 h
            have ex : x.key = q := ex
            have := hd.parts hx hsm
            rw [ex, hqs] at this; cases this
          rw [hg, if_neg hnot] at hq
          have hqr : q.lt r.key = false := by
            cases h : q.lt r.key
            · rfl
            · have h5 : q.lt s.key = true := by
                rcases List.mem_cons.1 (hin2 s hsm) with rfl | h6
                · exact h
                · exact Str.lt_trans h ((List.pairwise_cons.1 hd).1 s h6)
              rw [hqs] at h5; cases h5
          exact ((split m q).1 (hcov r rfl q hq hqr)).resolve_left hnot), hg]
      by_cases h1 : k ∈ ((r :: L).drop m).map (·.key)
      · rw [if_pos h1, if_pos ((split m k).2 (.inr h1))]
      · rw [if_neg h1]
        by_cases h2 : k ∈ ((r :: L).take m).map (·.key)
        · rw [if_pos h2, if_pos ((split m k).2 (.inl h2))]
        · rw [if_neg h2, if_neg (fun h => ((split m k).1 h).elim h2 h1)]
    · split
      · -- a wipe
        rename_i hs0 hs1
        have hsl := strN_le (r :: L)
        have hrun := strN_out (l := r :: L)
        generalize strN (r :: L) = s at *
        have hin2 : ∀ x ∈ (r :: L).drop s, x ∈ r :: L := fun x hx => List.mem_of_mem_drop hx
        have hw := fun q => get_wipe (l := l) (o := wipeOp (r :: L) s r.key) (k := q) rfl
        have hspan : ∀ q, (Span.has ⟨(wipeOp (r :: L) s r.key).key, (wipeOp (r :: L) s r.key).hi, (wipeOp (r :: L) s r.key).opn⟩ q) = true ↔ (q.lt r.key = false ∧ ∀ h : s < (r :: L).length, q.lt (r :: L)[s].key = true) := fun q => by
          show (Span.has ⟨r.key, if h : s < (r :: L).length then (r :: L)[s].key else Str.nil, decide (s = (r :: L).length)⟩ q) = true ↔ _
          simp only [Span.has, Bool.and_eq_true, Bool.or_eq_true, Bool.not_eq_true', decide_eq_true_eq]
          by_cases h : s < (r :: L).length
          · rw [dif_pos h]
            exact ⟨fun ⟨h1, h2⟩ => ⟨h1, fun _ => h2.resolve_left (by omega)⟩, fun ⟨h1, h2⟩ => ⟨h1, .inr (h2 h)⟩⟩
          · exact ⟨fun ⟨h1, h2⟩ => ⟨h1, fun h3 => absurd h3 h⟩, fun ⟨h1, h2⟩ => ⟨h1, .inl (by omega)⟩⟩
        have hdropge : ∀ x ∈ (r :: L).drop s, ∀ h : s < (r :: L).length, x.key.lt (r :: L)[s].key = false := fun x hx h => by
          rw [List.drop_eq_getElem_cons h] at hx
          rcases List.mem_cons.1 hx with rfl | hx
          · exact Str.lt_irrefl _
          · have h3 := hd.drop s
            unfold DRise at h3
            rw [List.drop_eq_getElem_cons h] at h3
            exact Str.lt_asymm ((List.pairwise_cons.1 h3).1 x hx)
        have hnospan : ∀ x ∈ (r :: L).drop s, ¬ (Span.has ⟨(wipeOp (r :: L) s r.key).key, (wipeOp (r :: L) s r.key).hi, (wipeOp (r :: L) s r.key).opn⟩ x.key) = true := fun x hx h => by
          have h2 := ((hspan _).1 h).2
          by_cases h3 : s < (r :: L).length
          · have := h2 h3; rw [hdropge x hx h3] at this; cases this
          · rw [List.drop_eq_nil_of_le (by omega)] at hx; cases hx
        show getN (foldN (takeN l ((wipeOp (r :: L) s r.key).msg 1)) ((wipN n ((r :: L).drop s)).map fun o => o.msg 1)) k = _
        rw [wip_get n ((r :: L).drop s) _ k (hd.drop s) (fun x hx => hr x (hin2 x hx)) (fun x hx => by
            rw [hw, if_neg (hnospan x hx)]; exact hl x (hin2 x hx))
          (fun x hx q hq hqx => by
            have hxm : x ∈ (r :: L).drop s := List.mem_of_mem_head? (by rw [hx]; rfl)
            rw [hw] at hq
            split at hq
            · cases hq
            · have hqr : q.lt r.key = false := by
                cases h : q.lt r.key
                · rfl
                · have h5 : q.lt x.key = true := by
                    rcases List.mem_cons.1 (hin2 x hxm) with rfl | h6
                    · exact h
                    · exact Str.lt_trans h ((List.pairwise_cons.1 hd).1 x h6)
                  rw [hqx] at h5; cases h5
              rcases (split s q).1 (hcov r rfl q hq hqr) with h | h
              · obtain ⟨y, hy, ey⟩ := List.mem_map.1 h
                have ey : y.key = q := ey
                have := hd.parts hy hxm
                rw [ey, hqx] at this; cases this
              · exact h), hw]
        by_cases h1 : k ∈ ((r :: L).drop s).map (·.key)
        · rw [if_pos h1, if_pos ((split s k).2 (.inr h1))]
        · rw [if_neg h1]
          by_cases h2 : k ∈ ((r :: L).take s).map (·.key)
          · obtain ⟨y, hy, ey⟩ := List.mem_map.1 h2
            have ey : y.key = k := ey
            have hyB := hrun y hy
            have hrow := (hr y (List.mem_of_mem_take hy)).1
            have hb0 : (getN b k).isSome = false := by rw [← ey, ← hyB]; conv => rhs; rw [hrow]
                                                       rfl
            have hbn : getN b k = none := by cases h : getN b k; rfl; rw [h] at hb0; cases hb0
            rw [if_pos ((hspan k).2 ⟨by rw [← ey]; exact hfirst y (List.mem_of_mem_take hy), fun h => by
              rw [← ey]; exact hd.parts hy (by rw [List.drop_eq_getElem_cons h]; simp)⟩), if_pos ((split s k).2 (.inl h2)), hbn]
          · rw [if_neg (fun h => ((split s k).1 h).elim h2 h1)]
            split
            · rename_i h3
              cases hg : getN l k with
              | none => rfl
              | some v => exact absurd (hcov r rfl k (by rw [hg]; rfl) ((hspan k).1 h3).1) (fun h => ((split s k).1 h).elim h2 h1)
            · rfl
      · rename_i h1 h2
        exfalso; omega
termination_by L => L.length
decreasing_by
  · simp; omega
  · simp; omega
theorem strN_at {l : List Drow} : ∀ {k : Nat} (hk : k < l.length), (∀ j (h : j < l.length), j < k → l[j].inB = false) → l[k].inB = true → strN l = k := by
  induction l with
  | nil => intro k hk; simp at hk
  | cons r l ih =>
    intro k hk h1 h2
    unfold strN
    rw [List.takeWhile_cons]
    match k with
    | 0 => simp only [List.getElem_cons_zero] at h2; simp [h2]
    | k + 1 =>
      have h0 := h1 0 (by simp) (by omega)
      simp only [List.getElem_cons_zero] at h0
      have := ih (k := k) (by simp at hk; omega) (fun j h hj => by have := h1 (j + 1) (by simp; omega) (by omega); simpa using this) (by simpa using h2)
      unfold strN at this
      simp [h0, this]
theorem strN_all {l : List Drow} : (∀ j (h : j < l.length), l[j].inB = false) → strN l = l.length := by
  induction l with
  | nil => intro _; rfl
  | cons r l ih =>
    intro h1
    unfold strN
    have h0 := h1 0 (by simp)
    simp only [List.getElem_cons_zero] at h0
    have := ih fun j h => by have := h1 (j + 1) (by simp; omega); simpa using this
    unfold strN at this
    rw [List.takeWhile_cons]
    simp [h0, this]
def sxN (l : List Drow) : Int := if strN l < l.length then strN l else -1
theorem sxN_at {l : List Drow} {k : Nat} (hk : k < l.length) (h : ∀ j (h : j < l.length), j < k → l[j].inB = false) (h2 : l[k].inB = true) : sxN l = k := by
  unfold sxN; rw [strN_at hk h h2, if_pos hk]
theorem sxN_no {l : List Drow} (h : ∀ j (h : j < l.length), l[j].inB = false) : sxN l = -1 := by
  unfold sxN; rw [strN_all h, if_neg (by omega)]
theorem sxN_lt {l : List Drow} (h : sxN l < 0) : strN l = l.length := by
  have := strN_le l
  unfold sxN at h; split at h <;> omega
theorem sxN_nn {l : List Drow} (h : ¬ sxN l < 0) : sxN l = strN l := by
  unfold sxN at h ⊢; split
  · rfl
  · rename_i h2; rw [if_neg h2] at h; omega
theorem wip_c {n : Int} {S : List Drow} (h : 0 < S.length) (hc : (strN S : Int) < max n 2) : wipN n S = (S.take (max (strN S) 1)).filterMap chg ++ wipN n (S.drop (max (strN S) 1)) := by
  match S, h with
  | r :: L, _ => rw [wipN, if_pos hc]
theorem wip_w {n : Int} {S : List Drow} (h : 0 < S.length) (hc : ¬ (strN S : Int) < max n 2) : wipN n S = wipeOp S (strN S) S[0].key :: wipN n (S.drop (strN S)) := by
  match S, h with
  | r :: L, _ => rw [wipN, if_neg hc, dif_pos (by omega)]; rfl
theorem wipeOp_ok (S : List Drow) (s : Nat) (k : Str) : (wipeOp S s k).Ok := ⟨⟨by simp [wipeOp], by simp [wipeOp]⟩, ⟨by simp [wipeOp], by simp [wipeOp]⟩⟩
theorem wipeOp_in {S : List Drow} {s : Nat} {k : Str} (h : s < S.length) : wipeOp S s k = ⟨4, k, S[s].key, decide ((s : Int) = (S.length : Int)), Str.nil, 0⟩ := by
  unfold wipeOp; rw [dif_pos h]; congr 1; rw [decide_eq_decide]; omega
theorem wipeOp_end {S : List Drow} {s : Nat} {k : Str} (h : ¬ s < S.length) (h2 : s ≤ S.length) : wipeOp S s k = ⟨4, k, Str.nil, decide ((s : Int) = (S.length : Int)), Str.nil, 0⟩ := by
  unfold wipeOp; rw [dif_neg h]; congr 1; rw [decide_eq_decide]; omega
/-- At the end of a drawing region some objects are given up. -/
theorem WD.doneS {E : Env} {f : Fr} {G : GH} {M M' Mk : MH} {ops : Array Oper} {K : Kt} {fuel : Nat} {listed : Array Bool} (hr : Region.ready .any ops listed = []) (hs : M'.Sublist M) (h : K f G M') : WD E ops fuel listed f G M Mk K := fun _ a w Q hi hw _ hK =>
  wpAnyH_done hr (hK _ _ _ _ _ hi ⟨hw.r.sub hs, hw.le, hw.nw⟩ h) fuel
theorem chg_R {r : Drow} {o : Opr} (hk : r.key.b.size ≤ 16) (hv : r.b.b.size ≤ 16) (hc : chg r = some o) : o.R ∧ o.kind ≤ 4 := by
  unfold chg at hc
  split at hc
  · cases hc; exact ⟨right3 hk, by show (3 : Int) ≤ 4; omega⟩
  · split at hc
    · cases hc; exact ⟨right1 hk hv, by show (1 : Int) ≤ 4; omega⟩
    · cases hc
theorem wipe_R {r : Drow} {L : List Drow} {s : Nat} (hd : DRise (r :: L)) (hk : ∀ x ∈ r :: L, x.key.b.size ≤ 16) (hs : 0 < s) (hsl : s ≤ (r :: L).length) : (wipeOp (r :: L) s r.key).R ∧ (wipeOp (r :: L) s r.key).kind ≤ 4 := by
  have hnil : Str.nil.b.size ≤ 16 := by show (ByteArray.mk #[]).size ≤ 16; decide
  have hhi : (if h : s < (r :: L).length then (r :: L)[s].key else Str.nil).b.size ≤ 16 := by
    split
    · exact hk _ (List.getElem_mem _)
    · exact hnil
  refine ⟨⟨⟨by show (1 : Int) ≤ 4; omega, by show (4 : Int) ≤ 6; omega, hk r (by simp), hhi, hnil⟩, fun _ => rfl, fun _ => rfl, fun h => absurd (show (4 : Int) = 6 from h) (by omega), ?_⟩, by show (4 : Int) ≤ 4; omega⟩
  rw [if_pos (show (wipeOp (r :: L) s r.key).kind = 4 ∨ (wipeOp (r :: L) s r.key).kind = 6 from .inl rfl), Opr.span, if_pos (show (wipeOp (r :: L) s r.key).kind = 4 ∨ (wipeOp (r :: L) s r.key).kind = 6 from .inl rfl)]
  show (Span.empty ⟨r.key, if h : s < (r :: L).length then (r :: L)[s].key else Str.nil, decide (s = (r :: L).length)⟩) = false ∧ (decide (s = (r :: L).length) = false ∨ (if h : s < (r :: L).length then (r :: L)[s].key else Str.nil) = Str.nil)
  by_cases h : s < (r :: L).length
  · rw [dif_pos h, decide_eq_false (by omega)]
    refine ⟨?_, .inl rfl⟩
    have h1 : r.key.lt (r :: L)[s].key = true := List.pairwise_iff_getElem.1 hd 0 s (by omega) h hs
    simp only [Span.empty, h1]; rfl
  · rw [dif_neg h, decide_eq_true (by omega)]
    exact ⟨by simp [Span.empty], .inr rfl⟩
theorem wip_all (n : Int) : ∀ (L : List Drow), DRise L → (∀ r ∈ L, r.key.b.size ≤ 16 ∧ r.b.b.size ≤ 16) → ∀ o ∈ wipN n L, o.R ∧ o.kind ≤ 4
  | [], _, _, o, ho => by simp [wipN] at ho
  | r :: L, hd, hr, o, ho => by
    rw [wipN] at ho
    split at ho
    · rcases List.mem_append.1 ho with ho | ho
      · obtain ⟨x, hx, hc⟩ := List.mem_filterMap.1 ho
        have := hr x (List.mem_of_mem_take hx)
        exact chg_R this.1 this.2 hc
      · exact wip_all n _ (hd.drop _) (fun x hx => hr x (List.mem_of_mem_drop hx)) o ho
    · split at ho
      · rename_i h1 h2
        rcases List.mem_cons.1 ho with rfl | ho
        · exact wipe_R hd (fun x hx => (hr x hx).1) h2 (strN_le _)
        · exact wip_all n _ (hd.drop _) (fun x hx => hr x (List.mem_of_mem_drop hx)) o ho
      · cases ho
termination_by L => L.length
decreasing_by
  · simp; omega
  · simp; omega
theorem both_small {a b : List Pair} (ha : PairsR a) (hb : PairsR b) : ∀ r ∈ bothN a b, r.key.b.size ≤ 16 ∧ r.b.b.size ≤ 16 := fun r hr => by
  have hrow := both_row a b ha.srt hb.srt r hr
  have hvb : r.b = (getN b r.key).getD Str.nil := by rw [hrow]; rfl
  refine ⟨?_, by rw [hvb]; exact hb.val r.key⟩
  rcases (both_keys a b r.key).1 (List.mem_map.2 ⟨r, hr, rfl⟩) with h | h
  · obtain ⟨p, hp, e⟩ := List.mem_map.1 h
    have e : p.key = r.key := e
    rw [← e]; exact ((pairsR_iff.1 ha).1 p hp).1
  · obtain ⟨p, hp, e⟩ := List.mem_map.1 h
    have e : p.key = r.key := e
    rw [← e]; exact ((pairsR_iff.1 hb).1 p hp).1
theorem wip_right {a b : List Pair} (n : Int) (ha : PairsR a) (hb : PairsR b) : allW (wipN n (bothN a b)) = true := by
  unfold allW
  rw [List.all_eq_true]
  intro o ho
  have := wip_all n _ (both_rise a b ha.srt hb.srt) (both_small ha hb) o ho
  simp [this.1, this.2]
/-- Wipes and changes lead from the one to the other. -/
theorem wip_leads {a b : List Pair} (n : Int) (ha : PairsR a) (hb : PairsR b) : (opsN a (wipN n (bothN a b))).1 = b := by
  have hP := (opsN_R (ops := wipN n (bothN a b)) ha (wipN n (bothN a b)).length (Nat.le_refl _)).1
  rw [List.take_of_length_le (Nat.le_refl _)] at hP
  refine srt_ext hP.srt hb.srt fun k => ?_
  rw [ops_msgs (wip_right n ha hb)]
  have hmem : ∀ k, (getN a k).isSome = true → k ∈ (bothN a b).map (·.key) := fun k h => (both_keys a b k).2 (.inl (getN_mem_iff.1 h))
  rw [wip_get n _ a k (both_rise a b ha.srt hb.srt) (fun r hr => ⟨both_row a b ha.srt hb.srt r hr, by have := (both_small ha hb r hr).1; omega⟩) (fun r hr => rfl) (fun r hr k h _ => hmem k h)]
  split
  · rfl
  · rename_i h
    rw [both_keys] at h
    have n1 : getN a k = none := by
      cases hg : getN a k with
      | none => rfl
      | some v => exact absurd (.inl (getN_mem_iff.1 (by rw [hg]; rfl))) h
    have n2 : getN b k = none := by
      cases hg : getN b k with
      | none => rfl
      | some v => exact absurd (.inr (getN_mem_iff.1 (by rw [hg]; rfl))) h
    rw [n1, n2]
end Go.Fw
