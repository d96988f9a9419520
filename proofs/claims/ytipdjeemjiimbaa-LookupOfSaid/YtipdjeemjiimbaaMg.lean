/- What the functions on messages, pairs and their lists compute, as plain functions, and their laws. No function of the program is named here. No condition. -/
import Derived.Test.YtipdjeemjiimbaaSr
import Derived.Test.YtipdjeemjiimbaaFu
set_option linter.unusedVariables false
set_option linter.unusedSimpArgs false
set_option linter.unnecessarySimpa false
namespace Go.Fw
open Go

/-! ## Sums with a limit -/
def longG {α : Type} (w : α → Int) : List α → Int → Int → Int
  | [], n, _ => n
  | s :: l, n, most => if n ≤ most then longG w l (n + w s) most else n
theorem longG_step {α : Type} {w : α → Int} {l : List α} {k : Nat} {n m : Int} (hk : k < l.length) (h : n ≤ m) : longG w (l.drop k) n m = longG w (l.drop (k + 1)) (n + w l[k]) m := by
  rw [List.drop_eq_getElem_cons hk, longG, if_pos h]
theorem longG_stop {α : Type} {w : α → Int} {l : List α} {n m : Int} (h : ¬ n ≤ m) : longG w l n m = n := by
  cases l with
  | nil => rfl
  | cons a l => rw [longG, if_neg h]
theorem longG_end {α : Type} {w : α → Int} {l : List α} {k : Nat} {n m : Int} (hk : ¬ k < l.length) : longG w (l.drop k) n m = n := by
  rw [List.drop_eq_nil_of_le (by omega)]; rfl
/-- A sum within the limit bounds each part. -/
theorem longG_mem {α : Type} {w : α → Int} (hw : ∀ a, 0 ≤ w a) : ∀ {l : List α} {n m : Int}, 0 ≤ n → longG w l n m ≤ m → n ≤ m ∧ ∀ a ∈ l, w a ≤ m
  | [], n, m, h0, h => ⟨by simpa [longG] using h, fun a ha => by cases ha⟩
  | s :: l, n, m, h0, h => by
    rw [longG] at h
    split at h
    · rename_i hc
      have h1 := longG_mem hw (by have := hw s; omega) h
      refine ⟨hc, fun a ha => ?_⟩
      rcases List.mem_cons.1 ha with rfl | ha
      · have := h1.1; omega
      · exact h1.2 a ha
    · omega
theorem longG_len {α : Type} {w : α → Int} (hw : ∀ a, 1 ≤ w a) : ∀ {l : List α} {n m : Int}, longG w l n m ≤ m → n + l.length ≤ longG w l n m
  | [], n, m, _ => by simp [longG]
  | s :: l, n, m, h => by
    rw [longG] at h ⊢
    split
    · rename_i hc
      rw [if_pos hc] at h
      have h1 := longG_len hw h
      have h2 := hw s
      simp only [List.length_cons]
      omega
    · rename_i hc
      rw [if_neg hc] at h
      omega
def Pair.w (p : Pair) : Int := 1 + p.key.b.size + p.val.b.size
def Msg.w (m : Msg) : Int := 1 + m.key.b.size + m.hi.b.size + m.val.b.size
theorem Pair.w_pos (p : Pair) : 1 ≤ p.w := by unfold Pair.w; omega
theorem Msg.w_pos (m : Msg) : 1 ≤ m.w := by unfold Msg.w; omega
theorem Pair.w_le (p : Pair) : p.w ≤ 281474976710657 := by have := p.key.le; have := p.val.le; unfold Pair.w; omega
theorem Msg.w_le (m : Msg) : m.w ≤ 422212465065985 := by have := m.key.le; have := m.hi.le; have := m.val.le; unfold Msg.w; omega

/-! ## Pairs -/
theorem Pair.eq_of {a b : Pair} (h : (!eqCells [.string a.key.b, .string a.val.b] [.string b.key.b, .string b.val.b]) = false) : a = b := by
  cases a; cases b
  simpa [eqCells, Str.b_inj] using h
theorem Pair.ne_of {a b : Pair} (h : (!eqCells [.string a.key.b, .string a.val.b] [.string b.key.b, .string b.val.b]) = true) : a ≠ b := by
  intro e; subst e; simp [eqCells] at h
theorem Msg.eq_of {a b : Msg} (h : (!eqCells [.int .i64 a.stamp, .int .i64 a.kind, .string a.key.b, .string a.hi.b, .bool a.opn, .string a.val.b] [.int .i64 b.stamp, .int .i64 b.kind, .string b.key.b, .string b.hi.b, .bool b.opn, .string b.val.b]) = false) : a = b := by
  cases a; cases b
  simpa [eqCells, Str.b_inj] using h
theorem Msg.ne_of {a b : Msg} (h : (!eqCells [.int .i64 a.stamp, .int .i64 a.kind, .string a.key.b, .string a.hi.b, .bool a.opn, .string a.val.b] [.int .i64 b.stamp, .int .i64 b.kind, .string b.key.b, .string b.hi.b, .bool b.opn, .string b.val.b]) = true) : a ≠ b := by
  intro e; subst e; simp [eqCells] at h

/-- Rows that may be. -/
def PairsR (l : List Pair) : Prop := ∀ i (h : i < l.length), (l[i].key.b.size ≤ 16 ∧ l[i].val.b.size ≤ 16) ∧ (0 < i → (l[i - 1]'(by omega)).key.lt l[i].key = true)
instance (l : List Pair) : Decidable (PairsR l) := by unfold PairsR; infer_instance

/-! ## Messages -/
def Str.next (a : Str) : Str := if h : (a.b ++ ⟨#[0]⟩).size ≤ 140737488355328 then ⟨a.b ++ ⟨#[0]⟩, h⟩ else a
theorem Str.next_b {a : Str} (h : a.b.size < 140737488355328) : a.next.b = a.b ++ ⟨#[0]⟩ := by
  have h1 : (a.b ++ ⟨#[0]⟩).size ≤ 140737488355328 := by rw [ByteArray.size_append]; show _ + 1 ≤ _; omega
  rw [Str.next, dif_pos h1]
def Msg.span (m : Msg) : Span := if m.kind = 4 then ⟨m.key, m.hi, m.opn⟩ else ⟨m.key, m.key.next, false⟩
def Span.meet (a b : Span) : Span := Span.norm ⟨if a.lo.lt b.lo = true then b.lo else a.lo, if b.opn = false ∧ (a.opn = true ∨ b.hi.lt a.hi = true) then b.hi else a.hi, a.opn && b.opn⟩
/-- A message of those keys alone. -/
def Msg.clip (m : Msg) (s : Span) : Msg × Bool :=
  if (m.span.meet s).empty = true then (⟨0, 0, Str.nil, Str.nil, false, Str.nil⟩, false)
  else if m.kind = 4 then ({ m with key := (m.span.meet s).lo, hi := (m.span.meet s).hi, opn := (m.span.meet s).opn }, true) else (m, true)
def Msg.size (m : Msg) : Int := if m.kind = 4 then 36 else 4 + m.key.b.size + m.val.b.size
theorem Str.min_eq (a b : Str) : a.min b = if b.lt a = true then b else a := by
  unfold Str.min
  cases h : b.lt a
  · cases h2 : a.lt b
    · obtain rfl := Str.lt_total h h2; simp
    · simp
  · have h3 := Str.lt_asymm h
    rw [h3]
    have h4 : a ≠ b := by rintro rfl; rw [Str.lt_irrefl] at h; cases h
    simp [h4]
theorem smeet_eq (a b : Span) : Span.norm ⟨a.lo.max b.lo, if a.opn = true then b.hi else if b.opn = true then a.hi else a.hi.min b.hi, a.opn && b.opn⟩ = Span.meet a b := by
  unfold Span.meet
  rw [Str.min_eq]
  cases h1 : a.opn <;> cases h2 : b.opn <;> simp [Str.max]
  simp [Span.norm, Span.empty]
theorem clip_e {m : Msg} {s : Span} (h : (m.span.meet s).empty = true) : m.clip s = (⟨0, 0, Str.nil, Str.nil, false, Str.nil⟩, false) := if_pos h
theorem clip_4 {m : Msg} {s : Span} (h : (m.span.meet s).empty = false) (k : m.kind = 4) : m.clip s = ({ m with key := (m.span.meet s).lo, hi := (m.span.meet s).hi, opn := (m.span.meet s).opn }, true) := by
  rw [Msg.clip, if_neg (by simp [h]), if_pos k]
theorem clip_n {m : Msg} {s : Span} (h : (m.span.meet s).empty = false) (k : ¬ m.kind = 4) : m.clip s = (m, true) := by
  rw [Msg.clip, if_neg (by simp [h]), if_neg k]
/-- The messages of a list of those keys alone. -/
def clips (s : Span) (l : List Msg) : List Msg := l.filterMap fun m => if (m.clip s).2 = true then some (m.clip s).1 else none
theorem clips_t {s : Span} {l : List Msg} {i : Nat} (h : i < l.length) (hc : (l[i].clip s).2 = true) : clips s (l.take (i + 1)) = clips s (l.take i) ++ [(l[i].clip s).1] := by
  rw [clips, List.take_succ_eq_append_getElem h, List.filterMap_append]; simp [clips, hc]
theorem clips_f {s : Span} {l : List Msg} {i : Nat} (h : i < l.length) (hc : (l[i].clip s).2 = false) : clips s (l.take (i + 1)) = clips s (l.take i) := by
  rw [clips, List.take_succ_eq_append_getElem h, List.filterMap_append]; simp [clips, hc]
theorem clips_le {s : Span} {l : List Msg} : (clips s l).length ≤ l.length := List.length_filterMap_le _ _
theorem clip_ok {m : Msg} {s : Span} (h : m.Ok) : (m.clip s).1.Ok := by
  unfold Msg.clip
  split
  · exact ⟨⟨by decide, by decide⟩, ⟨by decide, by decide⟩⟩
  · split
    · exact h
    · exact h
end Go.Fw
