/- What lifting a root, and parting a kid, do to a store's nodes. Plain Lean; nothing of the program is named here. No condition. -/
import Derived.Test.YtebkfinhhpelbaaGreatQyNz
import Derived.Test.YtebkfinhhpelbaaGreatQyNh
set_option linter.unusedVariables false
set_option linter.unusedSimpArgs false
set_option linter.unnecessarySimpa false
namespace Go.Fw
open Go Go.RowKit
theorem cleave_ok (n : Nd) (i : Int) : (cleaveN n i).2.2.2 = (halvesN n).2.2.2 := by
  cases h : (halvesN n).2.2.2
  · rw [cleaveN_f h]
  · rw [cleaveN_t h]
theorem lift_ok2 (n : Nd) (x y x' y' : Int) : (liftN n x y).2.2.2 = (liftN n x' y').2.2.2 := by rw [lift_ok, lift_ok, cleave_ok, cleave_ok]
def tk (l : List Nd) (x : Nd) : List Nd := l ++ [{ x with slot := l.length }]
theorem tk_len (l : List Nd) (x : Nd) : (tk l x).length = l.length + 1 := by simp [tk]
theorem take_tk {n : Nat} {l : List Nd} {x : Nd} (h : l.length < n) : takeL n l x = (((l.length : Int), 0), tk l x) := takeL_t h
def liftS (c : Cfg) (l : List Nd) : Int × List Nd :=
  if (liftN (getL l 0) l.length ((l.length : Int) + 1)).2.2.2 = false then (6, l)
  else if c.slots.toNat - l.length < 2 then (4, l)
  else (0, liftL l (liftN (getL l 0) l.length ((l.length : Int) + 1)).1 (liftN (getL l 0) l.length ((l.length : Int) + 1)).2.1 (liftN (getL l 0) l.length ((l.length : Int) + 1)).2.2.1)
theorem liftS_6 {c : Cfg} {l : List Nd} {x y : Int} (h : (liftN (getL l 0) x y).2.2.2 = false) : liftS c l = (6, l) := if_pos (by rw [lift_ok2 _ _ _ x y]; exact h)
theorem liftS_4 {c : Cfg} {l : List Nd} {x y : Int} (h : (liftN (getL l 0) x y).2.2.2 = true) (hr : c.slots.toNat - l.length < 2) : liftS c l = (4, l) := by
  unfold liftS; rw [if_neg (by rw [lift_ok2 _ _ _ x y, h]; simp), if_pos hr]
theorem liftS_0 {c : Cfg} {l : List Nd} {x y : Int} (h : (liftN (getL l 0) x y).2.2.2 = true) (hr : ¬ c.slots.toNat - l.length < 2) :
    liftS c l = (0, liftL l (liftN (getL l 0) l.length ((l.length : Int) + 1)).1 (liftN (getL l 0) l.length ((l.length : Int) + 1)).2.1 (liftN (getL l 0) l.length ((l.length : Int) + 1)).2.2.1) := by
  unfold liftS; rw [if_neg (by rw [lift_ok2 _ _ _ x y, h]; simp), if_neg hr]
theorem lift_slots {n : Nd} {x y : Int} (h : (liftN n x y).2.2.2 = true) (hk : (cleaveN n y).2.1.slot = y) : (liftN n x y).1.slot = n.slot ∧ (liftN n x y).2.1.slot = x ∧ (liftN n x y).2.2.1.slot = y := by
  rw [lift_ok] at h
  rw [liftN_t h]
  exact ⟨rfl, rfl, hk⟩
theorem cleave_slot {n : Nd} {y : Int} (h : (cleaveN n y).2.2.2 = true) : (cleaveN n y).2.1.slot = y := by
  rw [cleave_ok] at h
  rw [cleaveN_t h]
theorem liftN_slots {n : Nd} {x y x' y' : Int} (h : (liftN n x' y').2.2.2 = true) : (liftN n x y).1.slot = n.slot ∧ (liftN n x y).2.1.slot = x ∧ (liftN n x y).2.2.1.slot = y := by
  have h2 : (liftN n x y).2.2.2 = true := by rw [lift_ok2 n x y x' y']; exact h
  exact lift_slots h2 (cleave_slot (by rw [← lift_ok n x y]; exact h2))
theorem set_at {l : List Nd} {A B : List Nd} {x y : Nd} (h : l = A ++ x :: B) (hy : y.slot.toNat = A.length) : l.set y.slot.toNat y = A ++ y :: B := by
  rw [h, hy, List.set_append_right _ _ (Nat.le_refl _), Nat.sub_self]; rfl
theorem lift_list {l : List Nd} {n r a b : Nd} (hr : r.slot = 0) (ha : a.slot = l.length) (hb : b.slot = (l.length : Int) + 1) (hp : 0 < l.length) : (((tk (tk l n) n).set r.slot.toNat r).set a.slot.toNat a).set b.slot.toNat b = liftL l r a b := by
  have e1 : (tk (tk l n) n).set r.slot.toNat r = l.set 0 r ++ [{ n with slot := l.length }, { n with slot := (tk l n).length }] := by
    unfold tk
    rw [hr, List.append_assoc]
    show List.set _ 0 r = _
    rw [List.set_append_left _ _ hp]; rfl
  have l0 : (l.set 0 r).length = l.length := List.length_set
  rw [e1, set_at (A := l.set 0 r) (B := [{ n with slot := (tk l n).length }]) (x := { n with slot := l.length }) rfl (by rw [l0]; omega)]
  rw [set_at (A := l.set 0 r ++ [a]) (B := []) (x := { n with slot := (tk l n).length }) (by simp) (by rw [List.length_append, l0]; simp; omega)]
  unfold liftL
  simp
theorem Tree.sound {c : Cfg} {l : List Nd} {ss : List Seat} (t : Tree c l ss) : soundN c l = true := by rw [soundN_t t.sts]; exact decide_eq_true t.q
theorem lift_all {c : Cfg} {l : List Nd} {ss : List Seat} (t : Tree c l ss) (few : l.length ≤ 60) : ∃ T, Tree c (liftS c l).2 T ∧ mapN (liftS c l).2 = mapN l := by
  have hr : (rootS l 0).n = getL l 0 := t.rootn
  by_cases h1 : (liftN (getL l 0) l.length ((l.length : Int) + 1)).2.2.2 = true
  · by_cases h2 : c.slots.toNat - l.length < 2
    · rw [liftS_4 h1 h2]; exact ⟨ss, t, rfl⟩
    · rw [liftS_0 h1 h2]
      have := lift_of t (by omega) (by omega) (by rw [hr]; exact h1)
      rw [hr] at this
      exact this
  · rw [liftS_6 (by simpa using h1)]; exact ⟨ss, t, rfl⟩
end Go.Fw
