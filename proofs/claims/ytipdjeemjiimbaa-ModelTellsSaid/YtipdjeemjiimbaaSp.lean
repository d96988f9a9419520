/- What the functions on keys, spans and the nodes of a plain tree compute, as plain functions, and their laws. No function of the program is named here. No condition. -/
import Derived.Test.YtipdjeemjiimbaaDt
set_option linter.unusedVariables false
set_option linter.unusedSimpArgs false
set_option linter.unnecessarySimpa false
namespace Go.Fw
open Go

/-! ## Spans -/
def Span.zero : Span := ⟨Str.nil, Str.nil, false⟩
def Span.has (s : Span) (k : Str) : Bool := !k.lt s.lo && (s.opn || k.lt s.hi)
def Span.empty (s : Span) : Bool := !s.opn && !s.lo.lt s.hi
def Span.norm (s : Span) : Span := if s.empty = true then Span.zero else if s.opn = true then { s with hi := Str.nil } else s
def Span.all : Span := ⟨Str.nil, Str.nil, true⟩

theorem Span.empty_eq (s : Span) : (!s.has s.lo) = s.empty := by
  simp [Span.has, Span.empty, Str.lt_irrefl]

theorem Span.eqC (s t : Span) : eqCells s.cells t.cells = decide (s = t) := by
  rw [Bool.eq_iff_iff]
  cases s; cases t
  simp [Span.cells, eqCells, Str.b_inj]

/-! ## Rising lists -/
def rising : List Str → Bool
  | a :: b :: r => a.lt b && rising (b :: r)
  | _ => true
theorem rising_iff : ∀ {l : List Str}, rising l = true ↔ ∀ i (h : i + 1 < l.length), l[i].lt l[i + 1] = true
  | [] => by simp [rising]
  | [a] => by simp [rising]
  | a :: b :: r => by
    simp only [rising, Bool.and_eq_true]
    rw [rising_iff]
    constructor
    · rintro ⟨h1, h2⟩ i h
      cases i with
      | zero => exact h1
      | succ i => exact h2 i (by simpa using h)
    · intro h
      exact ⟨h 0 (by simp), fun i hi => h (i + 1) (by simpa using hi)⟩
theorem rising_not {l : List Str} {i : Nat} (h : i + 1 < l.length) (hn : l[i].lt l[i + 1] = false) : rising l = false := by
  cases hr : rising l
  · rfl
  · rw [rising_iff.1 hr i h] at hn; cases hn
theorem rising_lt {l : List Str} (hr : rising l = true) : ∀ (j i : Nat) (hij : i < j) (hj : j < l.length), l[i].lt l[j] = true
  | 0, i, h, _ => by omega
  | j + 1, i, h, hj => by
    have h1 := rising_iff.1 hr j hj
    by_cases e : i = j
    · subst e; exact h1
    · exact Str.lt_trans (rising_lt hr j i (by omega) (by omega)) h1

/-! ## The nodes of a plain tree -/
def rightN (pivots : List Str) (n : Nat) : Bool := rising pivots && decide (n = pivots.length + 1)
def routeN (l : List Str) (k : Str) : Nat := (l.filter fun p => !k.lt p).length
def rangeN (l : List Str) (i : Int) : Span :=
  if i < 0 ∨ (l.length : Int) < i then Span.zero
  else Span.norm ⟨if 0 < i then l.getD (i - 1).toNat Str.nil else Str.nil, l.getD i.toNat Str.nil, decide ((l.length : Int) ≤ i)⟩
def longN : List Str → Int → Int → Int
  | [], n, _ => n
  | s :: l, n, most => if n ≤ most then longN l (n + (s.b.size + 1)) most else n

theorem route_split {l : List Str} (hr : rising l = true) {k : Str} {i : Nat} (hi : i ≤ l.length) (h1 : ∀ j (h : j < l.length), j < i → k.lt l[j] = false) (h2 : ∀ j (h : j < l.length), i ≤ j → k.lt l[j] = true) : routeN l k = i := by
  unfold routeN
  have e : l = l.take i ++ l.drop i := (List.take_append_drop i l).symm
  rw [e, List.filter_append, List.length_append]
  have f1 : (l.take i).filter (fun p => !k.lt p) = l.take i := by
    rw [List.filter_eq_self]
    intro a ha
    obtain ⟨j, hj, rfl⟩ := List.getElem_of_mem ha
    simp only [List.length_take] at hj
    rw [List.getElem_take, h1 j (by omega) (by omega)]; rfl
  have f2 : (l.drop i).filter (fun p => !k.lt p) = [] := by
    rw [List.filter_eq_nil_iff]
    intro a ha
    obtain ⟨j, hj, rfl⟩ := List.getElem_of_mem ha
    simp only [List.length_drop] at hj
    rw [List.getElem_drop, h2 (i + j) (by omega) (by omega)]; simp
  rw [f1, f2]
  simp [hi]

/-- Where a text stands, or would stand. -/
def lowerN (l : List Str) (k : Str) : Nat := (l.filter fun p => p.lt k).length
theorem lower_split {l : List Str} {k : Str} {i : Nat} (hi : i ≤ l.length) (h1 : ∀ j (h : j < l.length), j < i → l[j].lt k = true) (h2 : ∀ j (h : j < l.length), i ≤ j → l[j].lt k = false) : lowerN l k = i := by
  unfold lowerN
  have e : l = l.take i ++ l.drop i := (List.take_append_drop i l).symm
  rw [e, List.filter_append, List.length_append]
  have f1 : (l.take i).filter (fun p => p.lt k) = l.take i := by
    rw [List.filter_eq_self]
    intro a ha
    obtain ⟨j, hj, rfl⟩ := List.getElem_of_mem ha
    simp only [List.length_take] at hj
    rw [List.getElem_take, h1 j (by omega) (by omega)]
  have f2 : (l.drop i).filter (fun p => p.lt k) = [] := by
    rw [List.filter_eq_nil_iff]
    intro a ha
    obtain ⟨j, hj, rfl⟩ := List.getElem_of_mem ha
    simp only [List.length_drop] at hj
    rw [List.getElem_drop, h2 (i + j) (by omega) (by omega)]; simp
  rw [f1, f2]
  simp [hi]

theorem tup2 {a a' : Int} {b b' : Bool} (h : a = a') (k : b = b') : Value.tuple #[.int .i64 a, .bool b] = Value.tuple #[.int .i64 a', .bool b'] := by rw [h, k]
theorem rising_le {l : List Str} (hr : rising l = true) {i j : Nat} (hij : i ≤ j) (hj : j < l.length) : l[j].lt (l[i]'(by omega)) = false := by
  by_cases e : i = j
  · subst e; exact Str.lt_irrefl _
  · exact Str.lt_asymm (rising_lt hr j i (by omega) hj)
theorem rising_below {l : List Str} (hr : rising l = true) {m : Nat} (hm : m < l.length) {k : Str} (h : l[m].lt k = true) (q : Nat) (hq : q < l.length) (hqm : q < m + 1) : l[q].lt k = true :=
  Str.lt_of_le_of_lt (rising_le hr (by omega) hm) h
theorem rising_above {l : List Str} (hr : rising l = true) {m : Nat} (hm : m < l.length) {k : Str} (h : l[m].lt k = false) (q : Nat) (hq : q < l.length) (hqm : m ≤ q) : l[q].lt k = false := by
  cases h1 : l[q].lt k
  · rfl
  · rw [Str.lt_of_le_of_lt (rising_le hr hqm hq) h1] at h; cases h
theorem lowerN_le (l : List Str) (k : Str) : lowerN l k ≤ l.length := List.length_filter_le _ _
theorem lower_spec {l : List Str} (hr : rising l = true) (k : Str) : (∀ j (h : j < l.length), j < lowerN l k → l[j].lt k = true) ∧ (∀ j (h : j < l.length), lowerN l k ≤ j → l[j].lt k = false) := by
  suffices ∃ i, i ≤ l.length ∧ (∀ j (h : j < l.length), j < i → l[j].lt k = true) ∧ (∀ j (h : j < l.length), i ≤ j → l[j].lt k = false) by
    obtain ⟨i, h0, h1, h2⟩ := this
    rw [lower_split h0 h1 h2]; exact ⟨h1, h2⟩
  by_cases h : ∃ i, ∃ h : i < l.length, l[i].lt k = false
  · have key : ∀ n i, i ≤ n → ∀ (h : i < l.length), l[i].lt k = false → ∃ i, ∃ h : i < l.length, l[i].lt k = false ∧ ∀ j (hj : j < l.length), j < i → l[j].lt k = true := by
      intro n
      induction n with
      | zero => intro i hi hl hk; obtain rfl : i = 0 := by omega
                exact ⟨0, hl, hk, fun j _ hj => by omega⟩
      | succ n ih =>
        intro i hi hl hk
        by_cases h2 : ∃ j, ∃ hj : j < l.length, j < i ∧ l[j].lt k = false
        · obtain ⟨j, hj, hji, hjk⟩ := h2
          exact ih j (by omega) hj hjk
        · refine ⟨i, hl, hk, fun j hj hji => ?_⟩
          cases h3 : l[j].lt k
          · exact absurd ⟨j, hj, hji, h3⟩ h2
          · rfl
    obtain ⟨i, hi, hk⟩ := h
    obtain ⟨i, hi, hk, h3⟩ := key i i (Nat.le_refl _) hi hk
    exact ⟨i, by omega, h3, fun j hj hij => rising_above hr hi hk j hj hij⟩
  · refine ⟨l.length, Nat.le_refl _, fun j hj _ => ?_, fun j hj h => by omega⟩
    cases h3 : l[j].lt k
    · exact absurd ⟨j, hj, h3⟩ h
    · rfl
theorem route_lower_yes {l : List Str} {k : Str} (hr : rising l = true) (h : l[lowerN l k]? = some k) : ((lowerN l k : Nat) : Int) + 1 = (routeN l k : Nat) := by
  obtain ⟨hlt, he⟩ := List.getElem?_eq_some_iff.1 h
  have := lower_spec hr k
  rw [route_split hr (i := lowerN l k + 1) (by omega) (fun j hj hji => ?_) (fun j hj hji => ?_)]
  · omega
  · by_cases e : j = lowerN l k
    · subst e; rw [he]; exact Str.lt_irrefl _
    · exact Str.lt_asymm (this.1 j hj (by omega))
  · rw [← he]; exact rising_lt hr j (lowerN l k) (by omega) hj
theorem route_lower_no {l : List Str} {k : Str} (hr : rising l = true) (h : ¬ l[lowerN l k]? = some k) : ((lowerN l k : Nat) : Int) = (routeN l k : Nat) := by
  have := lower_spec hr k
  have hle := lowerN_le l k
  rw [route_split hr (i := lowerN l k) hle (fun j hj hji => Str.lt_asymm (this.1 j hj hji)) (fun j hj hji => ?_)]
  cases h1 : k.lt l[j]
  · have h2 : l[j] = k := Str.lt_total (this.2 j hj hji) h1
    by_cases e : j = lowerN l k
    · subst e; exact absurd (by rw [List.getElem?_eq_getElem hj, h2]) h
    · have h3 := rising_lt hr j (lowerN l k) (by omega) hj
      rw [h2] at h3
      rw [this.2 (lowerN l k) (by omega) (Nat.le_refl _)] at h3
      cases h3
  · rfl
theorem routeN_take_le (l : List Str) (k : Str) (i : Nat) : routeN (l.take i) k ≤ i := by
  refine Nat.le_trans (List.length_filter_le _ _) ?_
  simp; omega
theorem routeN_succ {l : List Str} {k : Str} {i : Nat} (h : i < l.length) : routeN (l.take (i + 1)) k = routeN (l.take i) k + if k.lt l[i] = true then 0 else 1 := by
  unfold routeN
  rw [List.take_succ_eq_append_getElem h, List.filter_append, List.length_append]
  cases hk : k.lt l[i] <;> simp [List.filter_cons, hk]

theorem rangeN_out {l : List Str} {i : Int} (h : i < 0 ∨ (l.length : Int) < i) : rangeN l i = Span.zero := by unfold rangeN; rw [if_pos h]
theorem rangeN_in {l : List Str} {i : Int} (h : 0 ≤ i) (h' : i ≤ (l.length : Int)) :
    rangeN l i = Span.norm ⟨if 0 < i then l.getD (i - 1).toNat Str.nil else Str.nil, l.getD i.toNat Str.nil, decide ((l.length : Int) ≤ i)⟩ := by
  unfold rangeN; rw [if_neg (by omega)]

theorem longN_step {l : List Str} {k : Nat} {n m : Int} (hk : k < l.length) (h : n ≤ m) : longN (l.drop k) n m = longN (l.drop (k + 1)) (n + ((l[k]).b.size + 1)) m := by
  rw [List.drop_eq_getElem_cons hk, longN, if_pos h]
theorem longN_stop {l : List Str} {n m : Int} (h : ¬ n ≤ m) : longN l n m = n := by
  cases l with
  | nil => rfl
  | cons a l => rw [longN, if_neg h]
theorem longN_len : ∀ {l : List Str} {n m : Int}, longN l n m ≤ m → n + l.length ≤ longN l n m
  | [], n, m, _ => by simp [longN]
  | s :: l, n, m, h => by
    rw [longN] at h ⊢
    split
    · rename_i hc
      rw [if_pos hc] at h
      have := longN_len h
      simp only [List.length_cons]
      omega
    · rename_i hc
      rw [if_neg hc] at h
      omega

theorem getD_in {α : Type} {l : List α} {i : Nat} {d : α} (h : i < l.length) : l.getD i d = l[i] := by simp [List.getD, List.getElem?_eq_getElem h]
theorem getD_out {α : Type} {l : List α} {i : Nat} {d : α} (h : l.length ≤ i) : l.getD i d = d := by simp [List.getD, List.getElem?_eq_none h]
theorem rangeN_tt {l : List Str} {i : Int} (h : 0 < i) (h' : i < (l.length : Int)) (a : (i - 1).toNat < l.length) (b : i.toNat < l.length) : Span.norm ⟨l[(i - 1).toNat], l[i.toNat], false⟩ = rangeN l i := by
  rw [rangeN_in (by omega) (by omega), if_pos h, getD_in (d := Str.nil) a, getD_in (d := Str.nil) b, decide_eq_false (by omega)]
theorem rangeN_tf {l : List Str} {i : Int} (h : 0 < i) (h' : ¬ i < (l.length : Int)) (h2 : i ≤ l.length) (a : (i - 1).toNat < l.length) : Span.norm ⟨l[(i - 1).toNat], Str.nil, true⟩ = rangeN l i := by
  rw [rangeN_in (by omega) (by omega), if_pos h, getD_in a, getD_out (by omega), decide_eq_true (by omega)]
theorem rangeN_ft {l : List Str} {i : Int} (h0 : ¬ i < 0) (h : ¬ 0 < i) (h' : i < (l.length : Int)) (b : i.toNat < l.length) : Span.norm ⟨Str.nil, l[i.toNat], false⟩ = rangeN l i := by
  rw [rangeN_in (by omega) (by omega), if_neg h, getD_in b, decide_eq_false (by omega)]
theorem rangeN_ff {l : List Str} {i : Int} (h0 : ¬ i < 0) (h : ¬ 0 < i) (h' : ¬ i < (l.length : Int)) (h2 : i ≤ l.length) : Span.norm ⟨Str.nil, Str.nil, true⟩ = rangeN l i := by
  rw [rangeN_in (by omega) (by omega), if_neg h, getD_out (by omega), decide_eq_true (by omega)]

theorem rightN_spec {p : List Str} {n : Nat} (h : rightN p n = true) : rising p = true ∧ n = p.length + 1 := by
  simpa [rightN] using h
theorem norm_has (s : Span) (k : Str) : s.norm.has k = s.has k := by
  unfold Span.norm
  by_cases h : s.empty = true
  · rw [if_pos h]
    simp only [Span.empty, Bool.and_eq_true, Bool.not_eq_true'] at h
    have e1 : Span.zero.has k = false := by simp [Span.has, Span.zero, Str.nil_le]
    rw [e1]
    cases hk : s.has k
    · rfl
    · simp only [Span.has, h.1, Bool.false_or, Bool.and_eq_true, Bool.not_eq_true'] at hk
      have := Str.lt_of_le_of_lt hk.1 hk.2
      rw [h.2] at this; cases this
  · rw [if_neg h]
    split
    · rename_i ho; simp [Span.has, ho]
    · rfl
theorem range_has {p : List Str} (hr : rising p = true) (k : Str) {j : Nat} (hj : j ≤ p.length) : (rangeN p (j : Int)).has k = decide (j = routeN p k) := by
  rw [rangeN_in (by omega) (by omega), norm_has]
  have hrt : routeN p k ≤ p.length := List.length_filter_le _ _
  obtain ⟨h1, h2⟩ : (∀ i (h : i < p.length), i < routeN p k → k.lt p[i] = false) ∧ (∀ i (h : i < p.length), routeN p k ≤ i → k.lt p[i] = true) := by
    have hl := lower_spec hr k
    by_cases hy : p[lowerN p k]? = some k
    · have e := route_lower_yes hr hy
      obtain ⟨hlt, he⟩ := List.getElem?_eq_some_iff.1 hy
      refine ⟨fun i h hi => ?_, fun i h hi => ?_⟩
      · by_cases e2 : i = lowerN p k
        · subst e2; rw [he]; exact Str.lt_irrefl _
        · exact Str.lt_asymm (hl.1 i h (by omega))
      · have h3 := rising_lt hr i (lowerN p k) (by omega) h
        rw [he] at h3; exact h3
    · have e := route_lower_no hr hy
      refine ⟨fun i h hi => Str.lt_asymm (hl.1 i h (by omega)), fun i h hi => ?_⟩
      cases h1 : k.lt p[i]
      · have h2 : p[i] = k := Str.lt_total (hl.2 i h (by omega)) h1
        have h3 : i = lowerN p k := by
          by_cases e2 : lowerN p k < i
          · have h4 := rising_lt hr i (lowerN p k) e2 h
            have h5 := hl.2 (lowerN p k) (by omega) (Nat.le_refl _)
            rw [h2] at h4; rw [h4] at h5; cases h5
          · omega
        subst h3
        exact absurd (by rw [List.getElem?_eq_getElem h, h2]) hy
      · rfl
  rw [Bool.eq_iff_iff]
  simp only [Span.has, Bool.and_eq_true, Bool.not_eq_true', Bool.or_eq_true, decide_eq_true_eq]
  constructor
  · rintro ⟨ha, hb⟩
    have hlo : j ≤ routeN p k := by
      rcases Nat.lt_or_ge (routeN p k) j with hlt | hge
      · rw [if_pos (by omega), getD_in (d := Str.nil) (by omega : ((j : Int) - 1).toNat < p.length)] at ha
        rw [h2 _ (by omega) (by omega)] at ha; cases ha
      · exact hge
    have hhi : routeN p k ≤ j := by
      rcases hb with hb | hb
      · omega
      · rcases Nat.lt_or_ge j (routeN p k) with hlt | hge
        · rw [getD_in (d := Str.nil) (by omega : (j : Int).toNat < p.length)] at hb
          rw [h1 _ (by omega) (by omega)] at hb; cases hb
        · exact hge
    omega
  · rintro rfl
    refine ⟨?_, ?_⟩
    · split
      · rw [getD_in (d := Str.nil) (by omega)]; exact h1 _ (by omega) (by omega)
      · exact Str.nil_le k
    · by_cases he : routeN p k = p.length
      · left; omega
      · right
        rw [getD_in (d := Str.nil) (by omega)]; exact h2 _ (by omega) (by omega)
theorem eqC_self (s : Span) : eqCells s.cells s.cells = true := by rw [Span.eqC]; simp
end Go.Fw
