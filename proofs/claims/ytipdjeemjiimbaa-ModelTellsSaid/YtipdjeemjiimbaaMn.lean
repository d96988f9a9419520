/- What the functions on nodes compute. No condition. -/
import Derived.Test.YtipdjeemjiimbaaKb
set_option linter.unusedVariables false
set_option linter.unusedSimpArgs false
set_option linter.unnecessarySimpa false
namespace Go.Fw
open Go
def Nd.light (m : Int) (n : Nd) : Prop := longG Pair.w n.rows 0 m ≤ m ∧ longN n.pivots 0 m ≤ m ∧ (n.kids.length : Int) ≤ m ∧ longG Msg.w n.msgs 0 m ≤ m ∧ (n.high.b.size : Int) ≤ m
instance (m : Int) (n : Nd) : Decidable (n.light m) := by unfold Nd.light; infer_instance
def Light (l : List Nd) (n m : Int) : Prop := (l.length : Int) ≤ n ∧ ∀ i (h : i < l.length), l[i].light m
instance (l : List Nd) (n m : Int) : Decidable (Light l n m) := by unfold Light; infer_instance
/-- A message that may be. -/
def Msg.R (m : Msg) : Prop := (1 ≤ m.stamp ∧ m.key.b.size ≤ 16 ∧ m.val.b.size ≤ 16 ∧ m.hi.b.size ≤ 16) ∧
  if m.kind = 4 then m.val = Str.nil ∧ (m.opn = false ∨ m.hi = Str.nil) ∧ m.span.empty = false
  else m.hi = Str.nil ∧ m.opn = false ∧ (m.kind = 1 ∨ m.kind = 2 ∨ (m.kind = 3 ∧ m.val = Str.nil))
instance (m : Msg) : Decidable m.R := by unfold Msg.R; infer_instance
/-- Messages that may be. -/
def MsgsR (l : List Msg) : Prop := ∀ i (h : i < l.length), l[i].R ∧ (0 < i → (l[i - 1]'(by omega)).stamp < l[i].stamp)
instance (l : List Msg) : Decidable (MsgsR l) := by unfold MsgsR; infer_instance
/-- A node in two, as far as its lists go. -/
def halvesN (n : Nd) : Nd × Nd × Str × Bool :=
  if n.level = 0 then ({ n with rows := (rowsN n.rows).1 }, { n with rows := (rowsN n.rows).2.1 }, (rowsN n.rows).2.2.1, (rowsN n.rows).2.2.2)
  else if rightN n.pivots n.kids.length = false then (n, n, Str.nil, false)
  else ({ n with pivots := (halveN n.pivots n.kids).1, kids := (halveN n.pivots n.kids).2.1, msgs := clips ⟨Str.nil, (halveN n.pivots n.kids).2.2.1, false⟩ n.msgs },
    { n with pivots := (halveN n.pivots n.kids).2.2.2.1, kids := (halveN n.pivots n.kids).2.2.2.2.1, msgs := clips ⟨(halveN n.pivots n.kids).2.2.1, Str.nil, true⟩ n.msgs },
    (halveN n.pivots n.kids).2.2.1, (halveN n.pivots n.kids).2.2.2.2.2)
theorem halvesN_0 {n : Nd} (h : n.level = 0) : halvesN n = ({ n with rows := (rowsN n.rows).1 }, { n with rows := (rowsN n.rows).2.1 }, (rowsN n.rows).2.2.1, (rowsN n.rows).2.2.2) := if_pos h
theorem halvesN_n {n : Nd} (h : ¬ n.level = 0) (h2 : rightN n.pivots n.kids.length = false) : halvesN n = (n, n, Str.nil, false) := by rw [halvesN, if_neg h, if_pos h2]
theorem halvesN_k {n : Nd} (h : ¬ n.level = 0) (h2 : rightN n.pivots n.kids.length = true) : halvesN n = ({ n with pivots := (halveN n.pivots n.kids).1, kids := (halveN n.pivots n.kids).2.1, msgs := clips ⟨Str.nil, (halveN n.pivots n.kids).2.2.1, false⟩ n.msgs },
    { n with pivots := (halveN n.pivots n.kids).2.2.2.1, kids := (halveN n.pivots n.kids).2.2.2.2.1, msgs := clips ⟨(halveN n.pivots n.kids).2.2.1, Str.nil, true⟩ n.msgs },
    (halveN n.pivots n.kids).2.2.1, (halveN n.pivots n.kids).2.2.2.2.2) := by rw [halvesN, if_neg h, if_neg (by simp [h2])]
def Nd.zero : Nd := ⟨0, 0, [], [], Str.nil, false, 0, 0, [], []⟩
theorem Nd.zero_ok : Nd.zero.Ok := ⟨⟨by decide, by decide⟩, ⟨by decide, by decide⟩, ⟨by decide, by decide⟩, ⟨by decide, by decide⟩⟩
/-- A node in two. -/
def cleaveN (n : Nd) (i : Int) : Nd × Nd × Str × Bool :=
  if (halvesN n).2.2.2 = true then ({ (halvesN n).1 with high := (halvesN n).2.2.1, top := false, right := i }, { (halvesN n).2.1 with slot := i }, (halvesN n).2.2.1, true)
  else (Nd.zero, Nd.zero, Str.nil, false)
theorem cleaveN_t {n : Nd} {i : Int} (h : (halvesN n).2.2.2 = true) : cleaveN n i = ({ (halvesN n).1 with high := (halvesN n).2.2.1, top := false, right := i }, { (halvesN n).2.1 with slot := i }, (halvesN n).2.2.1, true) := if_pos h
theorem cleaveN_f {n : Nd} {i : Int} (h : (halvesN n).2.2.2 = false) : cleaveN n i = (Nd.zero, Nd.zero, Str.nil, false) := if_neg (by simp [h])
theorem ok_left {n : Nd} {i : Int} {s : Str} (h : n.Ok) (hi : i64 i) : Nd.Ok { n with high := s, top := false, right := i } := ⟨h.1, h.2.1, hi, h.2.2.2⟩
theorem ok_right {n : Nd} {i : Int} (h : n.Ok) (hi : i64 i) : Nd.Ok { n with slot := i } := ⟨hi, h.2.1, h.2.2.1, h.2.2.2⟩
/-- The size of messages. -/
def sizesN (l : List Msg) : Int := (l.map Msg.size).sum
theorem sizes_succ {l : List Msg} {k : Nat} (h : k < l.length) : sizesN (l.take (k + 1)) = sizesN (l.take k) + (l[k]).size := by
  rw [sizesN, List.take_succ_eq_append_getElem h, List.map_append, List.sum_append]
  show _ + ((l[k]).size + 0) = _
  rw [Int.add_zero]; rfl
theorem size_36 {m : Msg} (h : m.key.b.size ≤ 16 ∧ m.val.b.size ≤ 16) : 4 ≤ m.size ∧ m.size ≤ 36 := by
  unfold Msg.size; split <;> omega
end Go.Fw
