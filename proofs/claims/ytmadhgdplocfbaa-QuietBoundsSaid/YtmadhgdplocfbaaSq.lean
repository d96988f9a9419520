/- How high a tree with so many leaves can be, as a plain function. Nothing of the program is named here. No condition. -/
import Derived.Test.YtmadhgdplocfbaaDt
set_option linter.unusedVariables false
namespace Go.Fw
open Go

def boundL (b : Int) : Nat → Int → Int
  | 0, _ => 0
  | n + 1, x => if b ≤ x then 1 + boundL b n (x / b) else 0
/-- How often a number can be divided. -/
def boundC (b x : Int) : Int := boundL b x.toNat x
def boundN (f l : Int) : Int := if l < 2 then 1 else 2 + boundC (max f 4 / 2) (l / 2)

theorem div_lt {b x : Int} (hb : 2 ≤ b) (hx : b ≤ x) : 0 ≤ x / b ∧ x / b < x := by
  refine ⟨Int.ediv_nonneg (by omega) (by omega), Int.ediv_lt_self_of_pos_of_ne_one (by omega) (by omega)⟩
theorem boundL_eq {b : Int} (hb : 2 ≤ b) : ∀ (n m : Nat) (x : Int), x.toNat ≤ n → x.toNat ≤ m → boundL b n x = boundL b m x := by
  intro n
  induction n with
  | zero =>
    intro m x hn hm
    cases m with
    | zero => rfl
    | succ m => rw [boundL, boundL, if_neg (by omega)]
  | succ n ih =>
    intro m x hn hm
    cases m with
    | zero => rw [boundL, boundL, if_neg (by omega)]
    | succ m =>
      rw [boundL, boundL]
      split
      · rename_i h
        have := div_lt hb h
        rw [ih m (x / b) (by omega) (by omega)]
      · rfl
theorem boundC_step {b x : Int} (hb : 2 ≤ b) (hx : b ≤ x) : boundC b x = 1 + boundC b (x / b) := by
  unfold boundC
  obtain ⟨n, hn⟩ : ∃ n, x.toNat = n + 1 := ⟨x.toNat - 1, by omega⟩
  have := div_lt hb hx
  rw [hn, boundL, if_pos hx, boundL_eq hb n (x / b).toNat _ (by omega) (Nat.le_refl _)]
theorem boundC_stop {b x : Int} (hb : 2 ≤ b) (hx : x < b) : boundC b x = 0 := by
  unfold boundC
  cases hn : x.toNat with
  | zero => rfl
  | succ n => rw [boundL, if_neg (by omega)]
theorem boundC_nonneg {b : Int} : ∀ (n : Nat) (x : Int), 0 ≤ boundL b n x ∧ boundL b n x ≤ n
  | 0, _ => by simp [boundL]
  | n + 1, x => by
    rw [boundL]
    split
    · have := boundC_nonneg (b := b) n (x / b); omega
    · omega
theorem boundC_le {b x : Int} (hx : 0 ≤ x) : 0 ≤ boundC b x ∧ boundC b x ≤ x := by
  have := boundC_nonneg (b := b) x.toNat x
  unfold boundC; omega

/-- What the law's own loop knows: 'p' is a power of b, 'x' what is left of L by it. -/
structure PowOk (b L p x w : Int) : Prop where
  pos : b ≤ p
  div : x = L / (p / b)
  div2 : x / b = L / p
  ex : p = b * (p / b)
  cnt : w + boundC b x = 2 + boundC b L
  w2 : 2 ≤ w
theorem PowOk.start {b L : Int} (hb : 2 ≤ b) : PowOk b L b L 2 := by
  have h1 : b / b = 1 := Int.ediv_self (by omega)
  exact ⟨Int.le_refl _, by rw [h1, Int.ediv_one], rfl, by rw [h1, Int.mul_one], rfl, Int.le_refl _⟩
theorem PowOk.le_iff {b L p x w : Int} (hb : 2 ≤ b) (h : PowOk b L p x w) : p ≤ L ↔ b ≤ x := by
  have hq : 0 < p / b := by
    have := Int.ediv_le_ediv (by omega : 0 < b) h.pos
    rw [Int.ediv_self (by omega)] at this; omega
  rw [h.div, Int.le_ediv_iff_mul_le hq, ← h.ex]
theorem PowOk.next {b L p x w : Int} (hb : 2 ≤ b) (h : PowOk b L p x w) (hp : p ≤ L) : PowOk b L (p * b) (x / b) (w + 1) := by
  have h1 : p * b / b = p := Int.mul_ediv_cancel _ (by omega)
  have h2 := (h.le_iff hb).1 hp
  refine ⟨?_, by rw [h1]; exact h.div2, ?_, by rw [h1, Int.mul_comm], ?_, by have := h.w2; omega⟩
  · have h3 := h.pos
    have : p * 1 ≤ p * b := Int.mul_le_mul_of_nonneg_left (by omega) (by omega)
    omega
  · rw [h.div2, Int.ediv_ediv_of_nonneg (by have := h.pos; omega)]
  · have := h.cnt; rw [boundC_step hb h2] at this; omega
theorem PowOk.stop {b L p x w : Int} (hb : 2 ≤ b) (h : PowOk b L p x w) (hp : ¬ p ≤ L) : w = 2 + boundC b L := by
  have h1 : ¬ b ≤ x := fun h2 => hp ((h.le_iff hb).2 h2)
  have := h.cnt
  rw [boundC_stop hb (by omega)] at this; omega
theorem PowOk.last {b L p x w : Int} (hb : 2 ≤ b) (h : PowOk b L p x w) (hp : p ≤ L) (hl : L / b < p) : w + 1 = 2 + boundC b L := by
  have h1 := h.next hb hp
  refine h1.stop hb (fun h2 => ?_)
  have := (Int.le_ediv_iff_mul_le (by omega : 0 < b)).2 h2
  omega
theorem PowOk.bound {b L p x w : Int} (hb : 2 ≤ b) (h : PowOk b L p x w) (hL : 0 ≤ L) : w ≤ 2 + L := by
  have h1 := h.cnt
  have h2 := (boundC_le (b := b) hL).2
  have h3 := (boundC_nonneg (b := b) x.toNat x).1
  unfold boundC at h1
  unfold boundC at h2
  omega
theorem mul_fits {b p L : Int} (hb : 2 ≤ b) (hp : 0 < p) (h : ¬ L / b < p) (hL : L ≤ 9223372036854775807) : -9223372036854775808 ≤ p * b ∧ p * b ≤ 9223372036854775807 := by
  have h1 := (Int.le_ediv_iff_mul_le (by omega : 0 < b)).1 (by omega : p ≤ L / b)
  have h2 : 0 ≤ p * b := Int.mul_nonneg (by omega) (by omega)
  omega
end Go.Fw
