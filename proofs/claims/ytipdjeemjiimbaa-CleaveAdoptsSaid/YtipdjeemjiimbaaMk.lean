/- A node with one more child, as a plain function, and its laws. Plain Lean; nothing of the program is named here. No condition. -/
import Derived.Test.YtipdjeemjiimbaaMj
set_option linter.unusedVariables false
set_option linter.unusedSimpArgs false
set_option linter.unnecessarySimpa false
namespace Go.Fw
def adoptN (n : Nd) (i : Nat) (k : Str) (v : Int) : Nd × Bool :=
  if n.level = 0 ∨ (binsN n.pivots n.kids i k v).2.length = 0 then (Nd.zero, false)
  else ({ n with pivots := (binsN n.pivots n.kids i k v).1, kids := (binsN n.pivots n.kids i k v).2 }, true)
theorem adoptN_0 {n : Nd} {i : Nat} {k : Str} {v : Int} (h : n.level = 0 ∨ (binsN n.pivots n.kids i k v).2.length = 0) : adoptN n i k v = (Nd.zero, false) := if_pos h
theorem adoptN_2 {n : Nd} {i : Nat} {k : Str} {v : Int} (h1 : ¬ n.level = 0) (h2 : ¬ (binsN n.pivots n.kids i k v).2.length = 0) : adoptN n i k v = ({ n with pivots := (binsN n.pivots n.kids i k v).1, kids := (binsN n.pivots n.kids i k v).2 }, true) := if_neg (by rintro (h | h); exact h1 h; exact h2 h)
theorem bins_0 {p : List Str} {c : List Int} {i : Nat} {k : Str} {v : Int} (h : c.length ≤ i ∨ (rangeN p (i : Int)).has k = false ∨ k = (rangeN p (i : Int)).lo) : (binsN p c i k v).2.length = 0 := by rw [binsN_0 h]; rfl
theorem has_out {p : List Str} {i : Nat} {k : Str} (h : p.length < i) : (rangeN p (i : Int)).has k = false := by
  cases h2 : (rangeN p (i : Int)).has k
  · rfl
  · have := range_in h2; omega
theorem adoptN_1 {n : Nd} {i : Nat} {k : Str} {v : Int} (h1 : ¬ n.level = 0) (h2 : ¬ n.kids.length ≤ i) (h3 : (rangeN n.pivots (i : Int)).has k = true) (h4 : ¬ k = (rangeN n.pivots (i : Int)).lo) :
    adoptN n i k v = ({ n with pivots := (n.pivots.take i ++ [k]) ++ n.pivots.drop i, kids := (n.kids.take (i + 1) ++ [v]) ++ n.kids.drop (i + 1) }, true) := by
  have e := binsN_1 (v := v) h2 h3 h4
  rw [adoptN_2 h1 (by rw [e]; simp), e]
end Go.Fw
