/- Rows by rising keys: where a key stands, what is written, what stays sorted. Plain Lean; nothing of the program is named here. No condition. -/
import Derived.Test.YtipdjeemjiimbaaMe
import Derived.Test.YtipdjeemjiimbaaMo
set_option linter.unusedVariables false
set_option linter.unusedSimpArgs false
set_option linter.unnecessarySimpa false
namespace Go.Fw
open Go

def Srt (l : List Pair) : Prop := l.Pairwise fun a b => a.key.lt b.key = true
theorem Srt.lt {l : List Pair} (h : Srt l) {i j : Nat} (hij : i < j) (hj : j < l.length) : (l[i]'(by omega)).key.lt l[j].key = true :=
  List.pairwise_iff_getElem.1 h i j (by omega) hj hij
theorem Srt.of_step {l : List Pair} (h : ∀ i (h : i < l.length), 0 < i → (l[i - 1]'(by omega)).key.lt l[i].key = true) : Srt l := by
  refine List.pairwise_iff_getElem.2 fun i j hi hj hij => ?_
  induction j with
  | zero => omega
  | succ j ih =>
    have h1 := h (j + 1) hj (by omega)
    simp only [Nat.add_sub_cancel] at h1
    by_cases e : i = j
    · subst e; exact h1
    · exact Str.lt_trans (ih (by omega) (by omega)) h1
def Fits (p : Pair) : Prop := p.key.b.size ≤ 16 ∧ p.val.b.size ≤ 16
theorem pairsR_iff {l : List Pair} : PairsR l ↔ (∀ p ∈ l, Fits p) ∧ Srt l := by
  constructor
  · intro h
    refine ⟨fun p hp => ?_, Srt.of_step fun i hi h0 => (h i hi).2 h0⟩
    obtain ⟨i, hi, rfl⟩ := List.getElem_of_mem hp
    exact (h i hi).1
  · rintro ⟨h1, h2⟩ i hi
    exact ⟨h1 _ (List.getElem_mem hi), fun h0 => h2.lt (by omega) hi⟩
/-- How many keys are less. -/
def fndN (l : List Pair) (k : Str) : Nat := (l.filter fun p => p.key.lt k).length
theorem fndN_le (l : List Pair) (k : Str) : fndN l k ≤ l.length := List.length_filter_le _ _
theorem fnd_split {l : List Pair} {k : Str} {i : Nat} (hi : i ≤ l.length) (h1 : ∀ j (h : j < l.length), j < i → l[j].key.lt k = true) (h2 : ∀ j (h : j < l.length), i ≤ j → l[j].key.lt k = false) :
    (l.filter fun p => p.key.lt k) = l.take i := by
  have e : l = l.take i ++ l.drop i := (List.take_append_drop i l).symm
  rw [show (l.filter fun p => p.key.lt k) = (l.take i ++ l.drop i).filter (fun p => p.key.lt k) from by rw [← e], List.filter_append]
  have f1 : (l.take i).filter (fun p => p.key.lt k) = l.take i := by
    rw [List.filter_eq_self]
    intro a ha
    obtain ⟨j, hj, rfl⟩ := List.getElem_of_mem ha
    simp only [List.length_take] at hj
    rw [List.getElem_take, h1 j (by omega) (by omega)]
  have f2 : (l.drop i).filter (fun p => p.key.lt k) = [] := by
    rw [List.filter_eq_nil_iff]
    intro a ha
    obtain ⟨j, hj, rfl⟩ := List.getElem_of_mem ha
    simp only [List.length_drop] at hj
    rw [List.getElem_drop, h2 (i + j) (by omega) (by omega)]; simp
  rw [f1, f2, List.append_nil]
theorem fnd_eq {l : List Pair} {k : Str} {i : Nat} (hi : i ≤ l.length) (h1 : ∀ j (h : j < l.length), j < i → l[j].key.lt k = true) (h2 : ∀ j (h : j < l.length), i ≤ j → l[j].key.lt k = false) : fndN l k = i := by
  unfold fndN; rw [fnd_split hi h1 h2]; simp [hi]
theorem Srt.below {l : List Pair} (hr : Srt l) {m : Nat} (hm : m < l.length) {k : Str} (h : l[m].key.lt k = true) (q : Nat) (hq : q < l.length) (hqm : q < m + 1) : l[q].key.lt k = true := by
  by_cases e : q = m
  · subst e; exact h
  · exact Str.lt_trans (hr.lt (by omega) hm) h
theorem Srt.above {l : List Pair} (hr : Srt l) {m : Nat} (hm : m < l.length) {k : Str} (h : l[m].key.lt k = false) (q : Nat) (hq : q < l.length) (hqm : m ≤ q) : l[q].key.lt k = false := by
  by_cases e : q = m
  · subst e; exact h
  · cases h1 : l[q].key.lt k
    · rfl
    · rw [Str.lt_trans (hr.lt (by omega) hq) h1] at h; cases h
theorem Srt.fnd {l : List Pair} (hr : Srt l) (k : Str) : (∀ j (h : j < l.length), j < fndN l k → l[j].key.lt k = true) ∧ (∀ j (h : j < l.length), fndN l k ≤ j → l[j].key.lt k = false) := by
  suffices ∃ i, i ≤ l.length ∧ (∀ j (h : j < l.length), j < i → l[j].key.lt k = true) ∧ (∀ j (h : j < l.length), i ≤ j → l[j].key.lt k = false) by
    obtain ⟨i, h0, h1, h2⟩ := this
    rw [fnd_eq h0 h1 h2]; exact ⟨h1, h2⟩
  induction l with
  | nil => exact ⟨0, by simp, fun j h => by simp at h, fun j h => by simp at h⟩
  | cons p l ih =>
    have hr' : Srt l := (List.pairwise_cons.1 hr).2
    cases hp : p.key.lt k
    · exact ⟨0, by simp, fun j _ h => by omega, fun j h _ => hr.above (m := 0) (by simp) (by simpa using hp) j h (by omega)⟩
    · obtain ⟨i, h0, h1, h2⟩ := ih hr'
      refine ⟨i + 1, by simp; omega, fun j h hj => ?_, fun j h hj => ?_⟩
      · cases j with
        | zero => simpa using hp
        | succ j => simpa using h1 j (by simpa using h) (by omega)
      · cases j with
        | zero => omega
        | succ j => simpa using h2 j (by simpa using h) (by omega)
theorem Srt.get {l : List Pair} (hr : Srt l) {i : Nat} (hi : i < l.length) : getN l l[i].key = some l[i].val :=
  getN_at hi fun j hj hji e => by have := hr.lt hji hi; rw [e, Str.lt_irrefl] at this; cases this
/-- The key stands where it would. -/
theorem Srt.has {l : List Pair} (hr : Srt l) (k : Str) : (getN l k).isSome = decide (∃ h : fndN l k < l.length, l[fndN l k].key = k) := by
  rw [Bool.eq_iff_iff, decide_eq_true_iff]
  constructor
  · intro h
    have hf := hr.fnd k
    have hex : ∃ j, ∃ hj : j < l.length, l[j].key = k := by
      refine Decidable.byContradiction fun hc => ?_
      rw [getN_no (fun j hj e => hc ⟨j, hj, e⟩)] at h
      cases h
    obtain ⟨j, hj, e⟩ := hex
    have h1 : fndN l k ≤ j := by
      rcases Nat.lt_or_ge j (fndN l k) with h2 | h2
      · have := hf.1 j hj h2; rw [e, Str.lt_irrefl] at this; cases this
      · exact h2
    by_cases h3 : fndN l k = j
    · exact ⟨by omega, by simp only [h3]; exact e⟩
    · have h4 := hr.lt (i := fndN l k) (j := j) (by omega) hj
      rw [e, hf.2 _ (by omega) (Nat.le_refl _)] at h4; cases h4
  · rintro ⟨h, e⟩
    have := hr.get h
    rw [e] at this
    rw [this]; rfl
theorem Srt.val {l : List Pair} (hr : Srt l) {k : Str} (h : fndN l k < l.length) (e : l[fndN l k].key = k) : getN l k = some l[fndN l k].val := by
  have := hr.get h; rwa [e] at this
theorem Srt.front {l : List Pair} (hr : Srt l) (k : Str) : (l.filter fun p => p.key.lt k) = l.take (fndN l k) := fnd_split (fndN_le l k) (hr.fnd k).1 (hr.fnd k).2
theorem Srt.back {l : List Pair} (hr : Srt l) {k : Str} {i : Nat} (hi : i ≤ l.length) (h1 : ∀ j (h : j < l.length), j < i → k.lt l[j].key = false) (h2 : ∀ j (h : j < l.length), i ≤ j → k.lt l[j].key = true) : (l.filter fun p => k.lt p.key) = l.drop i := by
  have e : l = l.take i ++ l.drop i := (List.take_append_drop i l).symm
  rw [show (l.filter fun p => k.lt p.key) = (l.take i ++ l.drop i).filter (fun p => k.lt p.key) from by rw [← e], List.filter_append]
  have f1 : (l.take i).filter (fun p => k.lt p.key) = [] := by
    rw [List.filter_eq_nil_iff]
    intro a ha
    obtain ⟨j, hj, rfl⟩ := List.getElem_of_mem ha
    simp only [List.length_take] at hj
    rw [List.getElem_take, h1 j (by omega) (by omega)]; simp
  have f2 : (l.drop i).filter (fun p => k.lt p.key) = l.drop i := by
    rw [List.filter_eq_self]
    intro a ha
    obtain ⟨j, hj, rfl⟩ := List.getElem_of_mem ha
    simp only [List.length_drop] at hj
    rw [List.getElem_drop, h2 (i + j) (by omega) (by omega)]
  rw [f1, f2, List.nil_append]
theorem Srt.back_no {l : List Pair} (hr : Srt l) {k : Str} (h : (getN l k).isSome = false) : (l.filter fun p => k.lt p.key) = l.drop (fndN l k) := by
  rw [hr.has k] at h
  have h := of_decide_eq_false h
  have hf := hr.fnd k
  refine hr.back (fndN_le l k) (fun j hj hji => Str.lt_asymm (hf.1 j hj hji)) (fun j hj hij => ?_)
  cases h1 : k.lt l[j].key
  · have h2 : l[j].key = k := Str.lt_total (hf.2 j hj hij) h1
    by_cases e : j = fndN l k
    · subst e; exact absurd ⟨hj, h2⟩ h
    · have h3 := hr.lt (i := fndN l k) (j := j) (by omega) hj
      rw [h2, hf.2 _ (by omega) (Nat.le_refl _)] at h3; cases h3
  · rfl
theorem Srt.back_yes {l : List Pair} (hr : Srt l) {k : Str} (hi : fndN l k < l.length) (e : l[fndN l k].key = k) : (l.filter fun p => k.lt p.key) = l.drop (fndN l k + 1) := by
  have hf := hr.fnd k
  refine hr.back (by omega) (fun j hj hji => ?_) (fun j hj hij => ?_)
  · by_cases e2 : j = fndN l k
    · subst e2; rw [e]; exact Str.lt_irrefl _
    · exact Str.lt_asymm (hf.1 j hj (by omega))
  · have h3 := hr.lt (i := fndN l k) (j := j) (by omega) hj
    rwa [e] at h3
/-! ## Writing -/
theorem with_set {l : List Pair} (hr : Srt l) {k : Str} {e : Eff} {v : Str} (hi : fndN l k < l.length) (hk : l[fndN l k].key = k) (hv : e.apply (getN l k) = some v) : l.set (fndN l k) ⟨l[fndN l k].key, v⟩ = withN l k e := by
  unfold withN
  rw [hv, hr.front, hr.back_yes hi hk, List.set_eq_take_append_cons_drop, if_pos hi, hk]
  simp
theorem with_ins {l : List Pair} (hr : Srt l) {k : Str} {e : Eff} {v : Str} (hn : (getN l k).isSome = false) (hv : e.apply (getN l k) = some v) : l.take (fndN l k) ++ [⟨k, v⟩] ++ l.drop (fndN l k) = withN l k e := by
  unfold withN
  rw [hv, hr.front, hr.back_no hn]
theorem with_del {l : List Pair} (hr : Srt l) {k : Str} {e : Eff} (hi : fndN l k < l.length) (hk : l[fndN l k].key = k) (hv : e.apply (getN l k) = none) : l.take (fndN l k) ++ l.drop (fndN l k + 1) = withN l k e := by
  unfold withN
  rw [hv, hr.front, hr.back_yes hi hk]; simp
theorem with_not {l : List Pair} (hr : Srt l) {k : Str} {e : Eff} (hn : (getN l k).isSome = false) (hv : e.apply (getN l k) = none) : l = withN l k e := by
  unfold withN
  rw [hv, hr.front, hr.back_no hn]; simp
/-! ## What stays sorted -/
theorem Srt.filter {l : List Pair} (h : Srt l) (p : Pair → Bool) : Srt (l.filter p) := List.Pairwise.filter p h
theorem Srt.with {l : List Pair} (h : Srt l) (k : Str) (e : Eff) : Srt (withN l k e) := by
  unfold withN Srt
  have ha : ∀ a ∈ l.filter (fun p => p.key.lt k), a.key.lt k = true := fun a ha => (List.mem_filter.1 ha).2
  have hb : ∀ b ∈ l.filter (fun p => k.lt p.key), k.lt b.key = true := fun b hb => (List.mem_filter.1 hb).2
  have hm : ∀ m ∈ (match e.apply (getN l k) with | some v => [(⟨k, v⟩ : Pair)] | none => []), m.key = k := fun m hm => by
    cases h1 : e.apply (getN l k) with
    | none => rw [h1] at hm; cases hm
    | some v => rw [h1] at hm; simp only [List.mem_singleton] at hm; rw [hm]
  refine List.pairwise_append.2 ⟨List.pairwise_append.2 ⟨h.filter _, ?_, fun a h1 m h2 => by rw [hm m h2]; exact ha a h1⟩, h.filter _, fun a h1 b h2 => ?_⟩
  · cases e.apply (getN l k) <;> simp
  · rcases List.mem_append.1 h1 with h1 | h1
    · exact Str.lt_trans (ha a h1) (hb b h2)
    · rw [hm a h1]; exact hb b h2
theorem getN_mem {l : List Pair} {k v : Str} (h : getN l k = some v) : ⟨k, v⟩ ∈ l := by
  unfold getN at h
  obtain ⟨p, hp, e⟩ := Option.map_eq_some_iff.1 h
  have h1 := List.mem_of_find?_eq_some hp
  have h2 := List.find?_some hp
  have h3 : p.key = k := of_decide_eq_true h2
  subst h3; subst e; exact h1
theorem fits_with {l : List Pair} {k : Str} {e : Eff} (h : ∀ p ∈ l, Fits p) (hk : k.b.size ≤ 16) (he : e.val.b.size ≤ 16) : ∀ p ∈ withN l k e, Fits p := by
  intro p hp
  unfold withN at hp
  rcases List.mem_append.1 hp with hp | hp
  · rcases List.mem_append.1 hp with hp | hp
    · exact h p (List.mem_filter.1 hp).1
    · cases hv : e.apply (getN l k) with
      | none => rw [hv] at hp; cases hp
      | some v =>
        rw [hv] at hp
        simp only [List.mem_singleton] at hp
        subst hp
        refine ⟨hk, ?_⟩
        show v.b.size ≤ 16
        unfold Eff.apply at hv
        split at hv
        · cases hv; exact he
        · split at hv
          · cases hv
          · split at hv
            · cases hv; exact Str.add_size _ _
            · exact (h _ (getN_mem hv)).2
  · exact h p (List.mem_filter.1 hp).1
theorem on_val {m : Msg} (k : Str) (h : m.val.b.size ≤ 16) : (m.on k).val.b.size ≤ 16 := by
  unfold Msg.on
  split
  · show (ByteArray.mk #[]).size ≤ 16; decide
  · split
    · show (ByteArray.mk #[]).size ≤ 16; decide
    · exact h
theorem PairsR.with {l : List Pair} {k : Str} {e : Eff} (h : PairsR l) (hk : k.b.size ≤ 16) (he : e.val.b.size ≤ 16) : PairsR (withN l k e) := by
  obtain ⟨h1, h2⟩ := pairsR_iff.1 h
  exact pairsR_iff.2 ⟨fits_with h1 hk he, h2.with k e⟩
theorem PairsR.filter {l : List Pair} (h : PairsR l) (p : Pair → Bool) : PairsR (l.filter p) := by
  obtain ⟨h1, h2⟩ := pairsR_iff.1 h
  exact pairsR_iff.2 ⟨fun a ha => h1 a (List.mem_filter.1 ha).1, h2.filter p⟩
theorem PairsR.take {l : List Pair} {m : Msg} (h : PairsR l) (hk : m.key.b.size ≤ 16) (he : m.val.b.size ≤ 16) : PairsR (takeN l m) := by
  unfold takeN
  split
  · exact h.filter _
  · exact h.with hk (on_val _ he)
theorem PairsR.fold {ms : List Msg} : ∀ {l : List Pair}, PairsR l → (∀ m ∈ ms, m.key.b.size ≤ 16 ∧ m.val.b.size ≤ 16) → PairsR (foldN l ms) := by
  induction ms with
  | nil => exact fun h _ => h
  | cons m ms ih => exact fun h hm => ih (h.take (hm m (by simp)).1 (hm m (by simp)).2) (fun m h => hm m (by simp [h]))
theorem PairsR.srt {l : List Pair} (h : PairsR l) : Srt l := (pairsR_iff.1 h).2
theorem with_len (l : List Pair) (k : Str) (e : Eff) : (withN l k e).length ≤ 2 * l.length + 1 := by
  unfold withN
  have h1 := List.length_filter_le (fun p : Pair => p.key.lt k) l
  have h2 := List.length_filter_le (fun p : Pair => k.lt p.key) l
  cases e.apply (getN l k) <;> simp <;> omega
theorem Srt.with_len {l : List Pair} (hr : Srt l) (k : Str) (e : Eff) : (withN l k e).length ≤ l.length + 1 := by
  unfold withN
  rw [hr.front]
  cases h : (getN l k).isSome
  · rw [hr.back_no h]
    cases e.apply (getN l k) <;> simp <;> omega
  · rw [hr.has k] at h
    obtain ⟨h1, h2⟩ := of_decide_eq_true h
    rw [hr.back_yes h1 h2]
    cases e.apply (getN l k) <;> simp <;> omega
theorem PairsR.take_len {l : List Pair} (h : PairsR l) (m : Msg) : (takeN l m).length ≤ l.length + 1 := by
  unfold takeN
  split
  · have := List.length_filter_le (fun p : Pair => !m.span.has p.key) l; omega
  · exact h.srt.with_len _ _
/-! ## Lists that grow by rounds -/
theorem filt_t {α : Type} {p : α → Bool} {l : List α} {i : Nat} (hi : i < l.length) (h : p l[i] = true) : (l.take (i + 1)).filter p = (l.take i).filter p ++ [l[i]] := by
  rw [List.take_succ_eq_append_getElem hi, List.filter_append]; simp [h]
theorem filt_f {α : Type} {p : α → Bool} {l : List α} {i : Nat} (hi : i < l.length) (h : p l[i] = false) : (l.take (i + 1)).filter p = (l.take i).filter p := by
  rw [List.take_succ_eq_append_getElem hi, List.filter_append]; simp [h]
theorem filt_le {α : Type} (p : α → Bool) (l : List α) (i : Nat) : ((l.take i).filter p).length ≤ l.length := by
  have := List.length_filter_le p (l.take i); rw [List.length_take] at this; omega
def midN (o : Option Str) (k : Str) : List Pair := match o with | some v => [⟨k, v⟩] | none => []
theorem midN_le (o : Option Str) (k : Str) : (midN o k).length ≤ 1 := by cases o <;> simp [midN]
theorem midN_some {o : Option Str} {k : Str} (h : o.isSome = true) : midN o k = [⟨k, o.getD Str.nil⟩] := by cases o <;> simp_all [midN]
theorem midN_none {o : Option Str} {k : Str} (h : o.isSome = false) : midN o k = [] := by cases o <;> simp_all [midN]
theorem withN_mid (l : List Pair) (k : Str) (e : Eff) : withN l k e = (l.filter fun p => p.key.lt k) ++ midN (e.apply (getN l k)) k ++ (l.filter fun p => k.lt p.key) := by
  unfold withN midN; cases e.apply (getN l k) <;> rfl
theorem optS_get (o : Option Str) : optS o.isSome (o.getD Str.nil) = o := by cases o <;> rfl
theorem foldN_succ {l : List Pair} {ms : List Msg} {k : Nat} (h : k < ms.length) : foldN l (ms.take (k + 1)) = takeN (foldN l (ms.take k)) ms[k] := by
  rw [List.take_succ_eq_append_getElem h, foldN, List.foldl_append]; rfl
theorem fold_len {l : List Pair} {ms : List Msg} (h : PairsR l) (hm : ∀ m ∈ ms, m.key.b.size ≤ 16 ∧ m.val.b.size ≤ 16) : (foldN l ms).length ≤ l.length + ms.length := by
  induction ms generalizing l with
  | nil => simp [foldN]
  | cons m ms ih =>
    have h1 := ih (h.take (hm m (by simp)).1 (hm m (by simp)).2) (fun m h => hm m (by simp [h]))
    have h2 := h.take_len m
    simp only [foldN, List.foldl_cons, List.length_cons] at h1 ⊢; omega
theorem PairsR.val {l : List Pair} (h : PairsR l) (k : Str) : ((getN l k).getD Str.nil).b.size ≤ 16 := by
  cases hg : getN l k with
  | none => show (ByteArray.mk #[]).size ≤ _; decide
  | some v => exact ((pairsR_iff.1 h).1 _ (getN_mem hg)).2

theorem MsgsR.kinds {l : List Msg} (h : MsgsR l) : ∀ m ∈ l, 1 ≤ m.kind ∧ m.kind ≤ 4 := fun m hm => by
  obtain ⟨i, hi, rfl⟩ := List.getElem_of_mem hm
  have h1 := (h i hi).1
  unfold Msg.R at h1
  grind

/-! ## Comparing -/
def cmpN (a b : Str) : Int := if a.lt b = true then -1 else if b.lt a = true then 1 else 0
theorem cmpN_neg {a b : Str} : cmpN a b < 0 ↔ a.lt b = true := by
  unfold cmpN; split
  · simp_all
  · split <;> simp_all
theorem cmpN_zero {a b : Str} : cmpN a b = 0 ↔ a = b := by
  unfold cmpN; split
  · rename_i h; simp only [Int.reduceNeg, Int.reduceEq, false_iff]; rintro rfl; rw [Str.lt_irrefl] at h; cases h
  · rename_i h; split
    · rename_i h2; simp only [Int.reduceEq, false_iff]; rintro rfl; rw [Str.lt_irrefl] at h2; cases h2
    · rename_i h2; simp only [true_iff]; exact Str.lt_total (by simpa using h) (by simpa using h2)
theorem cmpN_zero_d {a b : Str} : decide (cmpN a b = 0) = decide (a = b) := decide_eq_decide.2 cmpN_zero
theorem then_val {a b : Eff} (ha : a.val.b.size ≤ 16) (hb : b.val.b.size ≤ 16) : (a.then b).val.b.size ≤ 16 := by
  unfold Eff.then
  split
  · exact ha
  · split
    · exact hb
    · exact Str.add_size _ _
theorem onsN_val (l : List Msg) (k : Str) (h : ∀ m ∈ l, m.val.b.size ≤ 16) : (onsN l k).val.b.size ≤ 16 := by
  suffices ∀ (l : List Msg) (e : Eff), e.val.b.size ≤ 16 → (∀ m ∈ l, m.val.b.size ≤ 16) → (l.foldl (fun e m => e.then (m.on k)) e).val.b.size ≤ 16 from
    this l _ (by show (ByteArray.mk #[]).size ≤ 16; decide) h
  intro l
  induction l with
  | nil => exact fun e he _ => he
  | cons m l ih => exact fun e he h => ih _ (then_val he (on_val k (h m (by simp)))) (fun m h2 => h m (by simp [h2]))
theorem cmpN_nn {a b : Str} (h : ¬ cmpN a b < 0) : a.lt b = false := by
  cases h1 : a.lt b
  · rfl
  · exact absurd (cmpN_neg.2 h1) h
theorem scan_full {l : List Pair} {s : Span} {n : Int} {i : Nat} (h : n ≤ ((scanN (l.take i) s n).length : Nat)) : scanN l s n = scanN (l.take i) s n := by
  unfold scanN at h ⊢
  have e : l = l.take i ++ l.drop i := (List.take_append_drop i l).symm
  rw [show (l.filter fun p => s.has p.key) = (l.take i ++ l.drop i).filter (fun p => s.has p.key) from by rw [← e], List.filter_append, List.take_append_of_le_length]
  rw [List.length_take] at h; omega
theorem scan_succ_t {l : List Pair} {s : Span} {n : Int} {i : Nat} (hi : i < l.length) (h : ((scanN (l.take i) s n).length : Nat) < n) (hs : s.has l[i].key = true) : scanN (l.take (i + 1)) s n = scanN (l.take i) s n ++ [l[i]] := by
  unfold scanN at h ⊢
  rw [List.length_take] at h
  rw [List.take_succ_eq_append_getElem hi, List.filter_append]
  have e : List.filter (fun p : Pair => s.has p.key) [l[i]] = [l[i]] := by simp [hs]
  rw [e, List.take_append, List.take_of_length_le (l := List.filter _ _) (by omega), List.take_of_length_le (l := [l[i]]) (by simp; omega)]
theorem scan_succ_f {l : List Pair} {s : Span} {n : Int} {i : Nat} (hi : i < l.length) (hs : s.has l[i].key = false) : scanN (l.take (i + 1)) s n = scanN (l.take i) s n := by
  unfold scanN
  rw [List.take_succ_eq_append_getElem hi, List.filter_append]
  have e : List.filter (fun p : Pair => s.has p.key) [l[i]] = [] := by simp [hs]
  rw [e, List.append_nil]
theorem scan_len {l : List Pair} {s : Span} {n : Int} : (scanN l s n).length ≤ l.length := by
  unfold scanN; rw [List.length_take]; have := List.length_filter_le (fun p : Pair => s.has p.key) l; omega
theorem scan_full' {l : List Pair} {s : Span} {n : Int} {i : Nat} (hi : i < l.length) (h : ¬ ((scanN (l.take i) s n).length : Nat) < n) : scanN (l.take (i + 1)) s n = scanN (l.take i) s n := by
  have e : l.take i = (l.take (i + 1)).take i := by rw [List.take_take]; congr 1; omega
  conv => rhs; rw [e]
  exact scan_full (l := l.take (i + 1)) (i := i) (by rw [← e]; omega)
end Go.Fw
