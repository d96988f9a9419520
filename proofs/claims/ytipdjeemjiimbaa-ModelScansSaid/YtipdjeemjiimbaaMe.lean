/- Effects on keys, the ends of values, and what messages do to one key, as plain functions, and their laws. Nothing of the program is named here. No condition. -/
import Derived.Test.YtipdjeemjiimbaaMg
import Derived.Test.YtipdjeemjiimbaaFv
set_option linter.unusedVariables false
set_option linter.unusedSimpArgs false
set_option linter.unnecessarySimpa false
namespace Go.Fw
open Go

/-! ## Ends of texts -/
def tailL {α : Type} (l : List α) : List α := l.drop (l.length - 16)
theorem tailL_len {α : Type} (l : List α) : (tailL l).length = min l.length 16 := by simp [tailL]; omega
theorem tailL_left {α : Type} (x b : List α) : tailL (tailL x ++ b) = tailL (x ++ b) := by
  simp only [tailL, List.length_append, List.length_drop]
  by_cases h : x.length ≤ 16
  · rw [show x.length - 16 = 0 from by omega]; simp
  · rw [show x.length - (x.length - 16) + b.length - 16 = b.length from by omega, show x.length + b.length - 16 = (x.length - 16) + b.length from by omega, ← List.drop_drop,
      List.drop_append_of_le_length (by omega : x.length - 16 ≤ x.length)]
theorem tailL_right {α : Type} (x y : List α) : tailL (x ++ tailL y) = tailL (x ++ y) := by
  simp only [tailL, List.length_append, List.length_drop]
  by_cases h : y.length ≤ 16
  · rw [show y.length - 16 = 0 from by omega]; simp
  · rw [show x.length + (y.length - (y.length - 16)) - 16 = x.length from by omega, show x.length + y.length - 16 = x.length + (y.length - 16) from by omega]
    rw [List.drop_append_of_le_length (Nat.le_refl _), ← List.drop_drop, List.drop_append_of_le_length (Nat.le_refl _)]
    simp
def tailB (b : ByteArray) : ByteArray := b.extract (b.size - 16) b.size
theorem tailB_data (b : ByteArray) : (tailB b).data.toList = tailL b.data.toList := by
  simp only [tailB, tailL, ByteArray.data_extract, Array.toList_extract, List.extract_eq_take_drop, Array.length_toList]
  show List.take (b.data.size - (b.data.size - 16)) (List.drop (b.data.size - 16) b.data.toList) = _
  rw [List.take_of_length_le (by simp)]
theorem ba_ext {a b : ByteArray} (h : a.data.toList = b.data.toList) : a = b := by
  cases a; cases b
  simp only [ByteArray.mk.injEq]
  exact Array.toList_inj.1 h
theorem tailB_size (b : ByteArray) : (tailB b).size = min b.size 16 := by
  have h := congrArg List.length (tailB_data b)
  rw [tailL_len] at h
  simpa using h
theorem app_data (a b : ByteArray) : (a ++ b).data.toList = a.data.toList ++ b.data.toList := by simp [ByteArray.data_append]
theorem tailB_left (x b : ByteArray) : tailB (tailB x ++ b) = tailB (x ++ b) := by
  apply ba_ext; rw [tailB_data, tailB_data, app_data, app_data, tailB_data, tailL_left]
theorem tailB_right (x y : ByteArray) : tailB (x ++ tailB y) = tailB (x ++ y) := by
  apply ba_ext; rw [tailB_data, tailB_data, app_data, app_data, tailB_data, tailL_right]
theorem app_assoc (a b c : ByteArray) : a ++ b ++ c = a ++ (b ++ c) := by
  apply ba_ext; simp only [app_data, List.append_assoc]
def Str.tail (s : Str) : Str := ⟨tailB s.b, by rw [tailB_size]; omega⟩
def Str.cat (a b : Str) : Str := if h : (a.b ++ b.b).size ≤ 140737488355328 then ⟨a.b ++ b.b, h⟩ else a
theorem Str.cat_b {a b : Str} (h : a.b.size + b.b.size ≤ 140737488355328) : (a.cat b).b = a.b ++ b.b := by
  have h1 : (a.b ++ b.b).size ≤ 140737488355328 := by rw [ByteArray.size_append]; exact h
  rw [Str.cat, dif_pos h1]
/-- One value with another one behind. -/
def Str.add (a b : Str) : Str := ⟨tailB (a.b ++ b.b), by rw [tailB_size]; omega⟩
theorem Str.cat_tail {a b : Str} (h : a.b.size + b.b.size ≤ 140737488355328) : (a.cat b).tail = a.add b := by
  apply Str.ext'; simp only [Str.tail, Str.add]; rw [Str.cat_b h]
theorem Str.add_assoc (x a b : Str) : (x.add a).add b = x.add (a.add b) := by
  apply Str.ext'; simp only [Str.add]; rw [tailB_left, tailB_right, app_assoc]
theorem Str.add_size (a b : Str) : (a.add b).b.size ≤ 16 := by show (tailB _).size ≤ 16; rw [tailB_size]; omega

theorem Str.cut_size (s : Str) (i j : Nat) : (s.cut i j).b.size = Min.min j s.b.size - i := by simp [Str.cut, ByteArray.size_extract]
theorem Str.cut_nil {s : Str} {i j : Nat} (h : j ≤ i) : (s.cut i j).b = ⟨#[]⟩ := by
  apply ba_ext
  simp only [Str.cut, ByteArray.data_extract, Array.toList_extract, List.extract_eq_take_drop]
  rw [show j - i = 0 from by omega]; rfl
theorem Str.cut_app {s : Str} {a b c : Nat} (h1 : a ≤ b) (h2 : b ≤ c) (h3 : c ≤ s.b.size) : (s.cut a b).b ++ (s.cut b c).b = (s.cut a c).b := by
  apply ba_ext
  rw [app_data]
  simp only [Str.cut, ByteArray.data_extract, Array.toList_extract, List.extract_eq_take_drop]
  rw [show c - a = (b - a) + (c - b) from by omega, List.take_add, List.drop_drop, show a + (b - a) = b from by omega]
theorem Str.cut_cat {s : Str} {k : Nat} (h : k < s.b.size) : (s.cut (s.b.size - 1 - k) (s.b.size - k)).b ++ (s.cut (s.b.size - k) s.b.size).b = (s.cut (s.b.size - (k + 1)) s.b.size).b := by
  rw [Str.cut_app (by omega) (by omega) (Nat.le_refl _), show s.b.size - 1 - k = s.b.size - (k + 1) from by omega]

/-! ## Effects -/
structure Eff where
  kind : Int
  val : Str
  deriving DecidableEq
def Eff.cells (e : Eff) : List Value := [.int .i64 e.kind, .string e.val.b]
def Eff.zero : Eff := ⟨0, Str.nil⟩
def optS (has : Bool) (v : Str) : Option Str := if has = true then some v else none
def Eff.apply (e : Eff) (o : Option Str) : Option Str :=
  if e.kind = 1 then some e.val else if e.kind = 3 then none else if e.kind = 2 then some ((o.getD Str.nil).add e.val) else o
def Eff.then (a b : Eff) : Eff :=
  if b.kind = 0 then a else if b.kind ≠ 2 ∨ a.kind = 0 then b else ⟨if a.kind = 2 then 2 else 1, (if a.kind = 3 then Str.nil else a.val).add b.val⟩
def Eff.K (e : Eff) : Prop := 0 ≤ e.kind ∧ e.kind ≤ 3
theorem Eff.zero_apply (o : Option Str) : Eff.zero.apply o = o := rfl
theorem Eff.then_apply {a b : Eff} (ha : a.K) (hb : b.K) (o : Option Str) : (a.then b).apply o = b.apply (a.apply o) := by
  obtain ⟨a1, a2⟩ := ha
  obtain ⟨b1, b2⟩ := hb
  obtain ⟨k, v⟩ := a
  obtain ⟨j, u⟩ := b
  simp only at a1 a2 b1 b2
  have hk : k = 0 ∨ k = 1 ∨ k = 2 ∨ k = 3 := by omega
  have hj : j = 0 ∨ j = 1 ∨ j = 2 ∨ j = 3 := by omega
  rcases hj with rfl | rfl | rfl | rfl <;> rcases hk with rfl | rfl | rfl | rfl <;> simp [Eff.then, Eff.apply, Str.add_assoc]
theorem Eff.then_K {a b : Eff} (ha : a.K) (hb : b.K) : (a.then b).K := by
  unfold Eff.then
  split
  · exact ha
  · split
    · exact hb
    · unfold Eff.K; dsimp only; split <;> omega
def Msg.on (m : Msg) (k : Str) : Eff :=
  if m.span.has k = false ∨ m.kind < 1 ∨ 4 < m.kind then Eff.zero else if 3 ≤ m.kind then ⟨3, Str.nil⟩ else ⟨m.kind, m.val⟩
theorem Msg.on_K (m : Msg) (k : Str) : (m.on k).K := by
  unfold Msg.on
  split
  · exact ⟨by decide, by decide⟩
  · split
    · exact ⟨by decide, by decide⟩
    · constructor <;> dsimp only <;> omega
/-- What all messages do to a key. -/
def onsN (l : List Msg) (k : Str) : Eff := l.foldl (fun e m => e.then (m.on k)) Eff.zero
theorem foldl_K (k : Str) : ∀ (l : List Msg) (e : Eff), e.K → (l.foldl (fun e m => e.then (m.on k)) e).K
  | [], e, h => h
  | m :: l, e, h => foldl_K k l _ (Eff.then_K h (m.on_K k))
theorem onsN_K (l : List Msg) (k : Str) : (onsN l k).K := foldl_K k l _ ⟨by decide, by decide⟩
theorem foldl_apply (k : Str) : ∀ (l : List Msg) (e : Eff) (o : Option Str), e.K → (l.foldl (fun e m => e.then (m.on k)) e).apply o = l.foldl (fun o m => (m.on k).apply o) (e.apply o)
  | [], e, o, h => rfl
  | m :: l, e, o, h => by
    rw [List.foldl_cons, List.foldl_cons, foldl_apply k l _ o (Eff.then_K h (m.on_K k)), Eff.then_apply h (m.on_K k)]
theorem onsN_apply (l : List Msg) (k : Str) (o : Option Str) : (onsN l k).apply o = l.foldl (fun o m => (m.on k).apply o) o := foldl_apply k l _ o ⟨by decide, by decide⟩
theorem onsN_succ {l : List Msg} {i : Nat} (k : Str) (h : i < l.length) : onsN (l.take (i + 1)) k = (onsN (l.take i) k).then (l[i].on k) := by
  rw [List.take_succ_eq_append_getElem h, onsN, List.foldl_append]; rfl

/-! ## Pairs -/
def getN (l : List Pair) (k : Str) : Option Str := (l.find? fun p => decide (p.key = k)).map Pair.val
theorem getN_nil (k : Str) : getN [] k = none := rfl
theorem getN_cons (p : Pair) (l : List Pair) (k : Str) : getN (p :: l) k = if p.key = k then some p.val else getN l k := by
  unfold getN; rw [List.find?_cons]; by_cases h : p.key = k <;> simp [h]
theorem getN_append : ∀ (l m : List Pair) (k : Str), getN (l ++ m) k = (getN l k).or (getN m k)
  | [], m, k => by simp [getN]
  | p :: l, m, k => by
    rw [List.cons_append, getN_cons, getN_cons, getN_append l m k]
    split <;> simp
theorem getN_filter (q : Str → Bool) (k : Str) : ∀ (l : List Pair), getN (l.filter fun p => q p.key) k = if q k = true then getN l k else none
  | [] => by simp [getN]
  | p :: l => by
    have ih := getN_filter q k l
    by_cases h : q p.key = true
    · rw [List.filter_cons_of_pos (p := fun p : Pair => q p.key) h, getN_cons, getN_cons, ih]
      by_cases e : p.key = k
      · subst e; simp [h]
      · simp [e]
    · rw [List.filter_cons_of_neg (p := fun p : Pair => q p.key) h, ih, getN_cons]
      by_cases e : p.key = k
      · subst e; simp [h]
      · simp [e]
theorem getN_at {l : List Pair} {i : Nat} (hi : i < l.length) (h : ∀ j (hj : j < l.length), j < i → l[j].key ≠ l[i].key) : getN l l[i].key = some l[i].val := by
  induction l generalizing i with
  | nil => simp at hi
  | cons p l ih =>
    rw [getN_cons]
    cases i with
    | zero => simp
    | succ i =>
      have h0 := h 0 (by simp) (by omega)
      simp only [List.getElem_cons_zero, List.getElem_cons_succ] at h0
      simp only [List.getElem_cons_succ]
      rw [if_neg h0]
      exact ih (by simpa using hi) (fun j hj hji => by have := h (j + 1) (by simpa using hj) (by omega); simpa using this)
theorem getN_no {l : List Pair} {k : Str} (h : ∀ j (hj : j < l.length), l[j].key ≠ k) : getN l k = none := by
  unfold getN
  rw [Option.map_eq_none_iff, List.find?_eq_none]
  intro p hp
  obtain ⟨j, hj, rfl⟩ := List.getElem_of_mem hp
  simpa using h j hj
def withN (l : List Pair) (k : Str) (e : Eff) : List Pair :=
  (l.filter fun p => p.key.lt k) ++ (match e.apply (getN l k) with | some v => [⟨k, v⟩] | none => []) ++ (l.filter fun p => k.lt p.key)
def takeN (l : List Pair) (m : Msg) : List Pair := if m.kind = 4 then l.filter fun p => !m.span.has p.key else withN l m.key (m.on m.key)
def foldN (l : List Pair) (ms : List Msg) : List Pair := ms.foldl takeN l
def scanN (l : List Pair) (s : Span) (limit : Int) : List Pair := (l.filter fun p => s.has p.key).take limit.toNat
theorem getN_with (l : List Pair) (k : Str) (e : Eff) (k' : Str) : getN (withN l k e) k' = if k' = k then e.apply (getN l k) else getN l k' := by
  unfold withN
  rw [getN_append, getN_append, getN_filter (fun x => x.lt k), getN_filter (fun x => k.lt x)]
  by_cases h : k' = k
  · subst h
    simp only [Str.lt_irrefl, if_true]
    cases e.apply (getN l k') with
    | none => simp [getN]
    | some v => simp [getN_cons]
  · rw [if_neg h]
    have hm : getN (match e.apply (getN l k) with | some v => [⟨k, v⟩] | none => []) k' = none := by
      cases e.apply (getN l k) with
      | none => rfl
      | some v => simp only [getN_cons]; rw [if_neg (fun x => h x.symm)]; rfl
    rw [hm]
    cases h1 : k'.lt k
    · cases h2 : k.lt k'
      · exact absurd (Str.lt_total h1 h2) h
      · simp
    · rw [Str.lt_asymm h1]; simp
theorem next_lt {k x : Str} (hk : k.b.size < 140737488355328) : x.lt k.next = true ↔ k.lt x = false := by
  have e : k.next.b.toList = k.b.toList ++ [0] := by
    rw [Str.next_b hk, ByteArray.toList_eq, ByteArray.toList_eq, app_data]
  show Op.bytesLess x.b.toList k.next.b.toList = true ↔ Op.bytesLess k.b.toList x.b.toList = false
  rw [e]
  generalize k.b.toList = a
  generalize x.b.toList = b
  clear e hk
  induction a generalizing b with
  | nil =>
    cases b with
    | nil => simp [Op.bytesLess]
    | cons y b =>
      simp only [List.nil_append, Op.bytesLess, Bool.or_eq_true, Bool.and_eq_true, decide_eq_true_eq, beq_iff_eq, Bool.true_eq_false, iff_false]
      rintro (h | ⟨_, h⟩)
      · exact absurd h (by simp)
      · cases b <;> simp [Op.bytesLess] at h
  | cons z a ih =>
    cases b with
    | nil => simp [Op.bytesLess]
    | cons y b =>
      simp only [List.cons_append, Op.bytesLess, Bool.or_eq_true, Bool.and_eq_true, decide_eq_true_eq, beq_iff_eq, Bool.or_eq_false_iff, Bool.and_eq_false_iff, decide_eq_false_iff_not, beq_eq_false_iff_ne, ih]
      constructor
      · rintro (h | ⟨rfl, h⟩)
        · exact ⟨UInt8.not_lt.2 (UInt8.le_of_lt h), .inl (fun e => by subst e; exact absurd h (UInt8.lt_irrefl _))⟩
        · exact ⟨UInt8.lt_irrefl _, .inr h⟩
      · rintro ⟨h1, h2⟩
        rcases h2 with h2 | h2
        · exact .inl (UInt8.lt_of_le_of_ne (UInt8.not_lt.1 h1) (fun e => h2 e.symm))
        · by_cases e : y = z
          · exact .inr ⟨e, h2⟩
          · exact .inl (UInt8.lt_of_le_of_ne (UInt8.not_lt.1 h1) e)
theorem point_has {k x : Str} (hk : k.b.size < 140737488355328) : (Span.has ⟨k, k.next, false⟩ x) = decide (x = k) := by
  rw [Bool.eq_iff_iff]
  simp only [Span.has, Bool.false_or, Bool.and_eq_true, Bool.not_eq_true', decide_eq_true_eq]
  rw [next_lt hk]
  constructor
  · rintro ⟨h1, h2⟩; exact Str.lt_total h1 h2
  · rintro rfl; exact ⟨Str.lt_irrefl _, Str.lt_irrefl _⟩
theorem getN_take {l : List Pair} {m : Msg} (hk : m.key.b.size < 140737488355328) (h1 : 1 ≤ m.kind) (h4 : m.kind ≤ 4) (k : Str) : getN (takeN l m) k = (m.on k).apply (getN l k) := by
  unfold takeN
  by_cases h : m.kind = 4
  · rw [if_pos h, getN_filter (fun x => !m.span.has x)]
    unfold Msg.on
    cases hs : m.span.has k
    · simp [Eff.zero_apply]
    · simp [h, Eff.apply]
  · rw [if_neg h, getN_with]
    have hsp : ∀ x, m.span.has x = decide (x = m.key) := fun x => by rw [Msg.span, if_neg h]; exact point_has hk
    by_cases e : k = m.key
    · subst e; simp
    · rw [if_neg e, Msg.on, hsp k]
      simp [e, Eff.zero_apply]
theorem getN_fold {k : Str} : ∀ {ms : List Msg} {l : List Pair}, (∀ m ∈ ms, m.key.b.size < 140737488355328 ∧ 1 ≤ m.kind ∧ m.kind ≤ 4) → getN (foldN l ms) k = (onsN ms k).apply (getN l k) := by
  intro ms
  suffices ∀ l : List Pair, (∀ m ∈ ms, m.key.b.size < 140737488355328 ∧ 1 ≤ m.kind ∧ m.kind ≤ 4) → getN (foldN l ms) k = ms.foldl (fun o m => (m.on k).apply o) (getN l k) from
    fun {l} h => by rw [onsN_apply]; exact this l h
  induction ms with
  | nil => intro l _; rfl
  | cons m ms ih =>
    intro l h
    obtain ⟨h1, h2, h3⟩ := h m (by simp)
    rw [foldN, List.foldl_cons, List.foldl_cons, ← getN_take h1 h2 h3]
    exact ih _ (fun m hm => h m (by simp [hm]))
end Go.Fw
