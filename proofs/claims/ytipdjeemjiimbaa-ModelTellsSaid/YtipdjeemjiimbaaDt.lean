/- The data of the index as plain structures, how they lie in cells, and the order of texts. No function of the program is named here. No condition. -/
import Derived.Test.YtipdjeemjiimbaaPa
set_option linter.unusedVariables false
set_option linter.unusedSimpArgs false
set_option linter.unnecessarySimpa false
namespace Go.Fw
open Go

/-- A text. -/
structure Str where
  b : ByteArray
  le : b.size ≤ 140737488355328
theorem Str.ext' {a b : Str} (h : a.b = b.b) : a = b := by cases a; cases b; simp_all
theorem Str.b_inj {a b : Str} : a.b = b.b ↔ a = b := ⟨Str.ext', fun h => h ▸ rfl⟩
instance : DecidableEq Str := fun a b => decidable_of_iff (a.b = b.b) Str.b_inj
def Str.nil : Str := ⟨⟨#[]⟩, by decide⟩
instance : Inhabited Str := ⟨Str.nil⟩
def Str.lt (a b : Str) : Bool := blt a.b b.b

/-- A number that fits. -/
def i64 (n : Int) : Prop := -9223372036854775808 ≤ n ∧ n ≤ 9223372036854775807

structure Span where
  lo : Str
  hi : Str
  opn : Bool
  deriving DecidableEq
structure Pair where
  key : Str
  val : Str
  deriving DecidableEq
structure Msg where
  stamp : Int
  kind : Int
  key : Str
  hi : Str
  opn : Bool
  val : Str
  deriving DecidableEq
structure Nd where
  slot : Int
  level : Int
  pivots : List Str
  kids : List Int
  high : Str
  top : Bool
  right : Int
  seen : Int
  msgs : List Msg
  rows : List Pair
  deriving DecidableEq
instance : Inhabited Pair := ⟨⟨default, default⟩⟩
def Msg.Ok (m : Msg) : Prop := i64 m.stamp ∧ i64 m.kind
def Nd.Ok (n : Nd) : Prop := i64 n.slot ∧ i64 n.level ∧ i64 n.right ∧ i64 n.seen

def Span.cells (s : Span) : List Value := [.string s.lo.b, .string s.hi.b, .bool s.opn]
def Pair.cells (p : Pair) : List Value := [.string p.key.b, .string p.val.b]
def Msg.cells (m : Msg) : List Value := [.int .i64 m.stamp, .int .i64 m.kind, .string m.key.b, .string m.hi.b, .bool m.opn, .string m.val.b]

def eStr : Enc Str where
  k := 1
  w := 16
  R := fun _ cs s => cs = [.string s.b]
  mono := fun _ h => h
  len := fun h => by rw [h]; rfl
  one := fun h u hu => by rw [h] at hu; simp at hu; subst hu; rfl
def eInt : Enc Int where
  k := 1
  w := 8
  R := fun _ cs n => cs = [.int .i64 n] ∧ i64 n
  mono := fun _ h => h
  len := fun h => by rw [h.1]; rfl
  one := fun h u hu => by rw [h.1] at hu; simp at hu; subst hu; rfl
def ePair : Enc Pair where
  k := 2
  w := 32
  R := fun _ cs p => cs = [.string p.key.b, .string p.val.b]
  mono := fun _ h => h
  len := fun h => by rw [h]; rfl
  one := fun h u hu => by rw [h] at hu; simp at hu; rcases hu with rfl | rfl <;> rfl
def eMsg : Enc Msg where
  k := 6
  w := 72
  R := fun _ cs m => cs = [.int .i64 m.stamp, .int .i64 m.kind, .string m.key.b, .string m.hi.b, .bool m.opn, .string m.val.b] ∧ m.Ok
  mono := fun _ h => h
  len := fun h => by rw [h.1]; rfl
  one := fun h u hu => by rw [h.1] at hu; simp at hu; rcases hu with rfl | rfl | rfl | rfl | rfl | rfl <;> rfl
/-- The cells of a node. -/
def NodeC (G : GH) (cs : List Value) (n : Nd) : Prop :=
  ∃ a1 c1 a2 c2 a3 c3 a4 c4, cs = [.int .i64 n.slot, .int .i64 n.level, .slice a1 n.pivots.length c1, .slice a2 n.kids.length c2, .string n.high.b, .bool n.top, .int .i64 n.right, .int .i64 n.seen, .slice a3 n.msgs.length c3, .slice a4 n.rows.length c4] ∧
    SlR eStr G (.slice a1 n.pivots.length c1) n.pivots ∧ SlR eInt G (.slice a2 n.kids.length c2) n.kids ∧ SlR eMsg G (.slice a3 n.msgs.length c3) n.msgs ∧ SlR ePair G (.slice a4 n.rows.length c4) n.rows ∧ n.Ok
theorem NodeC.mono {G G' : GH} {cs n} (hl : Le G G') (h : NodeC G cs n) : NodeC G' cs n := by
  obtain ⟨a1, c1, a2, c2, a3, c3, a4, c4, h0, h1, h2, h3, h4, h5⟩ := h
  exact ⟨a1, c1, a2, c2, a3, c3, a4, c4, h0, h1.mono hl, h2.mono hl, h3.mono hl, h4.mono hl, h5⟩
def eNode : Enc Nd where
  k := 10
  w := 152
  R := NodeC
  mono := fun hl h => h.mono hl
  len := fun h => by obtain ⟨a1, c1, a2, c2, a3, c3, a4, c4, h0, _⟩ := h; rw [h0]; rfl
  one := fun h u hu => by
    obtain ⟨a1, c1, a2, c2, a3, c3, a4, c4, h0, _⟩ := h
    rw [h0] at hu
    simp at hu
    rcases hu with rfl | rfl | rfl | rfl | rfl | rfl | rfl | rfl | rfl | rfl <;> rfl



/-! ## The order of texts -/
theorem bytesLess_irrefl : ∀ l : List UInt8, Op.bytesLess l l = false
  | [] => rfl
  | x :: xs => by simp [Op.bytesLess, bytesLess_irrefl xs]
theorem bytesLess_trans : ∀ {a b c : List UInt8}, Op.bytesLess a b = true → Op.bytesLess b c = true → Op.bytesLess a c = true
  | [], _ :: _, _ :: _, _, _ => rfl
  | [], [], _, h, _ => by simp [Op.bytesLess] at h
  | _ :: _, [], _, h, _ => by simp [Op.bytesLess] at h
  | _, _ :: _, [], _, h => by simp [Op.bytesLess] at h
  | x :: a, y :: b, z :: c, h1, h2 => by
    simp only [Op.bytesLess, Bool.or_eq_true, Bool.and_eq_true, decide_eq_true_eq, beq_iff_eq] at h1 h2 ⊢
    rcases h1 with h1 | ⟨rfl, h1⟩
    · rcases h2 with h2 | ⟨rfl, h2⟩
      · exact .inl (UInt8.lt_trans h1 h2)
      · exact .inl h1
    · rcases h2 with h2 | ⟨rfl, h2⟩
      · exact .inl h2
      · exact .inr ⟨rfl, bytesLess_trans h1 h2⟩
theorem bytesLess_total : ∀ {a b : List UInt8}, Op.bytesLess a b = false → Op.bytesLess b a = false → a = b
  | [], [], _, _ => rfl
  | [], _ :: _, h, _ => by simp [Op.bytesLess] at h
  | _ :: _, [], _, h => by simp [Op.bytesLess] at h
  | x :: a, y :: b, h1, h2 => by
    simp only [Op.bytesLess, Bool.or_eq_false_iff, Bool.and_eq_false_iff, decide_eq_false_iff_not, beq_eq_false_iff_ne] at h1 h2
    obtain ⟨h3, h4⟩ := h1
    obtain ⟨h5, h6⟩ := h2
    have e : x = y := UInt8.le_antisymm (UInt8.not_lt.1 h5) (UInt8.not_lt.1 h3)
    subst e
    have h4 : Op.bytesLess a b = false := h4.resolve_left (by simp)
    have h6 : Op.bytesLess b a = false := h6.resolve_left (by simp)
    rw [bytesLess_total h4 h6]

theorem Str.lt_irrefl (a : Str) : a.lt a = false := bytesLess_irrefl _
theorem Str.lt_trans {a b c : Str} (h : a.lt b = true) (k : b.lt c = true) : a.lt c = true := bytesLess_trans h k
theorem Str.lt_total {a b : Str} (h : a.lt b = false) (k : b.lt a = false) : a = b := Str.ext' (toList_inj.1 (bytesLess_total h k))
theorem Str.lt_asymm {a b : Str} (h : a.lt b = true) : b.lt a = false := by
  cases hb : b.lt a
  · rfl
  · have := Str.lt_trans h hb; rw [Str.lt_irrefl] at this; cases this
theorem Str.lt_of_le_of_lt {a b c : Str} (h : b.lt a = false) (k : b.lt c = true) : a.lt c = true := by
  cases hab : a.lt b
  · rw [Str.lt_total hab h]; exact k
  · exact Str.lt_trans hab k
theorem Str.lt_of_lt_of_le {a b c : Str} (h : a.lt b = true) (k : c.lt b = false) : a.lt c = true := by
  cases hbc : b.lt c
  · rw [← Str.lt_total hbc k]; exact h
  · exact Str.lt_trans h hbc
theorem Str.le_trans {a b c : Str} (h : b.lt a = false) (k : c.lt b = false) : c.lt a = false := by
  cases hca : c.lt a
  · rfl
  · rw [Str.lt_of_lt_of_le hca h] at k; cases k
theorem Str.nil_le (a : Str) : a.lt Str.nil = false := by
  show Op.bytesLess a.b.toList (ByteArray.mk #[]).toList = false
  have : (ByteArray.mk #[]).toList = [] := by rw [ByteArray.toList_eq]
  rw [this]
  cases a.b.toList <;> rfl
end Go.Fw
