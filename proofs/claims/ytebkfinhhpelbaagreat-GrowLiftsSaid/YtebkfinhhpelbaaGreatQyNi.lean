/- Nodes that are laid into a store one behind the other. Plain Lean; nothing of the program is named here. No condition. -/
import Derived.Test.YtebkfinhhpelbaaGreatQyNh
set_option linter.unusedVariables false
set_option linter.unusedSimpArgs false
set_option linter.unnecessarySimpa false
namespace Go.Fw
open Go Go.RowKit
theorem or3 {a b c d : Prop} (h : a ∨ (b ∧ (c ∨ d))) : a ∨ (b ∧ c) ∨ (b ∧ d) := h.imp id fun ⟨h1, h2⟩ => h2.imp (fun h3 => ⟨h1, h3⟩) (fun h3 => ⟨h1, h3⟩)
theorem leafN_ok {s : Int} (hs : i64 s) : (leafN s).Ok := ⟨hs, ⟨by show (-9223372036854775808 : Int) ≤ 0; omega, by show (0 : Int) ≤ 9223372036854775807; omega⟩, ⟨by show (-9223372036854775808 : Int) ≤ -1; omega, by show (-1 : Int) ≤ 9223372036854775807; omega⟩, ⟨by show (-9223372036854775808 : Int) ≤ 0; omega, by show (0 : Int) ≤ 9223372036854775807; omega⟩⟩
theorem pick_first {n : Nat} (h : 0 < n) : arOf n [] = arOf n [] ∧ takeL n [] (leafN 0) = ((0, 0), [leafN 0]) := ⟨rfl, by rw [takeL_t (by simpa using h)]; rfl⟩
def placedF (i : Int) : List Nd → Bool
  | [] => true
  | n :: l => decide (n.slot = i) && placedF (i + 1) l
theorem placed_iff : ∀ {l : List Nd} {i : Int}, placedF i l = true ↔ ∀ k (h : k < l.length), l[k].slot = i + k
  | [], i => by simp [placedF]
  | n :: l, i => by
    rw [placedF, Bool.and_eq_true, decide_eq_true_iff, placed_iff]
    constructor
    · rintro ⟨h1, h2⟩ k hk
      cases k with
      | zero => simpa using h1
      | succ k => have := h2 k (by simp at hk; omega); simp; omega
    · intro h
      refine ⟨by have := h 0 (by simp); simpa using this, fun k hk => ?_⟩
      have := h (k + 1) (by simp; omega)
      simp at this; omega
theorem placed_app : ∀ (a b : List Nd) (i : Int), placedF i (a ++ b) = (placedF i a && placedF (i + a.length) b)
  | [], b, i => by simp [placedF]
  | n :: a, b, i => by
    have e : i + ((n :: a).length : Nat) = i + 1 + (a.length : Nat) := by simp; omega
    rw [List.cons_append, placedF, placedF, placed_app a b, e, Bool.and_assoc]
theorem placed_succ {l : List Nd} {k : Nat} (hk : k < l.length) : placedF 0 (l.take (k + 1)) = (placedF 0 (l.take k) && decide (l[k].slot = k)) := by
  rw [List.take_succ_eq_append_getElem hk, placed_app]
  have e : (List.take k l).length = k := by rw [List.length_take]; omega
  rw [e]; simp [placedF]
theorem placed_step {l : List Nd} {k : Nat} (hk : k < l.length) (h : placedF 0 (l.take k) = true) (hs : l[k].slot = k) : placedF 0 (l.take (k + 1)) = true := by rw [placed_succ hk, h, decide_eq_true hs]; rfl
theorem placed_at {l : List Nd} (h : placedF 0 l = true) {k : Nat} (hk : k < l.length) : l[k].slot = k := by have := placed_iff.1 h k hk; omega
theorem placed_not {l : List Nd} {k : Nat} (hk : k < l.length) (h : ¬ l[k].slot = k) : placedF 0 l = false := by
  cases e : placedF 0 l
  · rfl
  · exact absurd (placed_at e hk) h
def ldN (l : List Nd) (k : Nat) : List Nd := if k = 0 then [leafN 0] else l.take k
theorem ld_len {l : List Nd} {k : Nat} (hk : k ≤ l.length) (h0 : 0 < k) : (ldN l k).length = k := by unfold ldN; rw [if_neg (by omega), List.length_take]; omega
theorem ld_0 {l : List Nd} (h : 0 < l.length) (hs : l[0].slot = 0) : (putL (ldN l 0) l[0]).2 = ldN l 1 := by
  have e : ldN l 0 = [leafN 0] := rfl
  rw [e, putL_t (by rw [hs]; exact ⟨by omega, by simp⟩), hs]
  unfold ldN
  rw [if_neg (by omega)]
  cases l with
  | nil => simp at h
  | cons n l => rfl
theorem ld_take {l : List Nd} {n k : Nat} (hk : k < l.length) (h0 : 0 < k) (hn : k < n) (hs : l[k].slot = k) : takeL n (ldN l k) l[k] = (((k : Int), 0), ldN l (k + 1)) := by
  have hl := ld_len (l := l) (k := k) (by omega) h0
  rw [takeL_t (by omega), hl]
  refine congrArg (Prod.mk _) ?_
  unfold ldN
  rw [if_neg (by omega), if_neg (by omega), List.take_succ_eq_append_getElem hk]
  congr 2
  rw [← hs]
theorem ld_full {l : List Nd} {n k : Nat} (hk : k ≤ l.length) (h0 : 0 < k) (hn : ¬ k < n) (x : Nd) : takeL n (ldN l k) x = ((0, 4), ldN l k) := takeL_f (by rw [ld_len hk h0]; exact hn)
theorem ld_put {l : List Nd} {k : Nat} (hk : k < l.length) (hs : l[k].slot = k) : (putL (ldN l (k + 1)) l[k]).2 = ldN l (k + 1) := by
  have hl := ld_len (l := l) (k := k + 1) (by omega) (by omega)
  rw [putL_t (by rw [hs, hl]; omega), hs]
  show (ldN l (k + 1)).set ((k : Int)).toNat l[k] = _
  rw [Int.toNat_natCast]
  unfold ldN
  rw [if_neg (by omega)]
  refine List.ext_getElem (by simp) fun i h1 h2 => ?_
  rw [List.getElem_set]
  split
  · rename_i e; subst e; rw [List.getElem_take]
  · rfl
theorem ld_all {l : List Nd} (h : 0 < l.length) : ldN l l.length = l := by unfold ldN; rw [if_neg (by omega), List.take_of_length_le (Nat.le_refl _)]
end Go.Fw
