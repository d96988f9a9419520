/- Plain facts on joined lists. No condition. -/
import Derived.Test.YtipdjeemjiimbaaSp
set_option linter.unusedVariables false
set_option linter.unusedSimpArgs false
set_option linter.unnecessarySimpa false
namespace Go.Fw
theorem flat_succ {α : Type} {l : List (List α)} {j : Nat} (h : j < l.length) : (l.take (j + 1)).flatten = (l.take j).flatten ++ l[j] := by
  rw [List.take_succ_eq_append_getElem h, List.flatten_append]; simp
theorem flat_len {α : Type} {l : List (List α)} {j : Nat} (h : j < l.length) : (l.take (j + 1)).flatten.length = (l.take j).flatten.length + l[j].length := by rw [flat_succ h]; simp
theorem flat_le {α : Type} (l : List (List α)) (j : Nat) : (l.take j).flatten.length ≤ l.flatten.length := by
  have h : l.flatten = (l.take j).flatten ++ (l.drop j).flatten := by rw [← List.flatten_append, List.take_append_drop]
  rw [h]; simp
theorem flat_all {α : Type} {l : List (List α)} {j : Nat} (h : ¬ j < l.length) : (l.take j).flatten = l.flatten := by rw [List.take_of_length_le (by omega)]
theorem getD_get {α : Type} {l : List α} {i : Nat} {d : α} (h : i < l.length) : l.getD i d = l[i] := by simp [h]
/-- What bnode.Halve hands back. -/
def halveN (p : List Str) (c : List Int) : List Str × List Int × Str × List Str × List Int × Bool :=
  if c.length < 4 ∨ p.length ≠ c.length - 1 then ([], [], Str.nil, [], [], false)
  else (p.take ((c.length + 1) / 2 - 1), c.take ((c.length + 1) / 2), p.getD ((c.length + 1) / 2 - 1) Str.nil, p.drop ((c.length + 1) / 2), c.drop ((c.length + 1) / 2), true)
theorem halveN_f {p : List Str} {c : List Int} (h : c.length < 4 ∨ p.length ≠ c.length - 1) : halveN p c = ([], [], Str.nil, [], [], false) := if_pos h
theorem halveN_t {p : List Str} {c : List Int} (h : ¬ (c.length < 4 ∨ p.length ≠ c.length - 1)) :
    halveN p c = (p.take ((c.length + 1) / 2 - 1), c.take ((c.length + 1) / 2), p[(c.length + 1) / 2 - 1]'(by omega), p.drop ((c.length + 1) / 2), c.drop ((c.length + 1) / 2), true) := by
  rw [halveN, if_neg h, getD_get (by omega)]
theorem SlR.cast {α : Type} {e : Enc α} {G : GH} {v : Value} {l l' : List α} (h : SlR e G v l) (he : l = l') : SlR e G v l' := he ▸ h
theorem rightN_of {p : List Str} {n : Nat} (h : rising p = true) (h2 : n = p.length + 1) : rightN p n = true := by simp [rightN, h, h2]
theorem rising_take {p : List Str} (h : rising p = true) (n : Nat) : rising (p.take n) = true := rising_iff.2 fun i hi => by
  simp at hi; simpa using rising_iff.1 h i (by omega)
theorem rising_drop {p : List Str} (h : rising p = true) (n : Nat) : rising (p.drop n) = true := rising_iff.2 fun i hi => by
  simp at hi; simpa [Nat.add_assoc] using rising_iff.1 h (n + i) (by omega)
theorem take_get_drop {α : Type} {p : List α} {m : Nat} (h1 : 1 ≤ m) (h : m - 1 < p.length) : p.take (m - 1) ++ p[m - 1] :: p.drop m = p := by
  obtain ⟨k, rfl⟩ : ∃ k, m = k + 1 := ⟨m - 1, by omega⟩
  have h2 : k < p.length := by simpa using h
  simp
theorem ElemAt.form {G : GH} {v : Value} {k n : Nat} {cs : List Value} (h : ElemAt G v k n cs) : ∃ a len cap, v = .slice (some a) len cap := by
  obtain ⟨b, o, len, cap, h1, _⟩ := h
  exact ⟨_, len, cap, h1⟩
end Go.Fw
