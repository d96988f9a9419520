/- What is asked of pouring, in plain terms. Plain Lean; nothing of the program is named here. No condition. -/
import Derived.Test.YtmbafmifalppaaaQbOn
set_option linter.unusedVariables false
set_option linter.unusedSimpArgs false
set_option linter.unnecessarySimpa false

namespace Go.Fw
open Go Go.RowKit
structure PourPre (cb : Int) (p k : Nd) : Prop where
 hb : 0 ≤ cb ∧ cb ≤ 9223372036854775807
 hr : rising p.pivots = true
 hpv : ∀ q ∈ p.pivots, q.b.size ≤ 16
 hpm : ∀ m ∈ p.msgs, m.R
 hkm : ∀ m ∈ k.msgs, m.key.b.size ≤ 16 ∧ m.val.b.size ≤ 16
 hkr : PairsR k.rows
 hsz : k.msgs.length + p.msgs.length ≤ 100000 ∧ k.rows.length ≤ 100000
theorem pairsR_nil : PairsR [] := fun i h => absurd h (Nat.not_lt_zero i)
theorem nd_msgsR {c : Cfg} {n : Nd} (h : n.R c.fan c.leaf c.bud) : ∀ m ∈ n.msgs, m.R := fun m hm => by
 have h4 := h.2.2.2
 by_cases h0 : n.level = 0
 ·rw [if_pos h0] at h4
  have e : n.msgs = [] := List.eq_nil_of_length_eq_zero (by have := h4.1; omega)
  rw [e] at hm; cases hm
 ·rw [if_neg h0] at h4
  exact (MsgsR.iff.1 h4.2.2.1).1 m hm
theorem nd_rowsR {c : Cfg} {n : Nd} (h : n.R c.fan c.leaf c.bud) : PairsR n.rows := by
 have h4 := h.2.2.2
 by_cases h0 : n.level = 0
 ·rw [if_pos h0] at h4; exact h4.2.2.1
 ·rw [if_neg h0] at h4
  have e : n.rows = [] := List.eq_nil_of_length_eq_zero h4.1.1
  rw [e]; exact pairsR_nil
theorem pre_of {c : Cfg} {p k : Nd} (hp : p.R c.fan c.leaf c.bud) (hk : k.R c.fan c.leaf c.bud) (h1 : ¬ p.level = 0) (sp : NdS p) (sk : NdS k) (hb : c.bud ≤ 9223372036854775807) : PourPre c.bud p k := by
 have hin : p.innerR c.fan c.bud := by have h4 := hp.2.2.2; rwa [if_neg h1] at h4
 have hm := nd_msgsR hp
 have hs := sizes_bound fun m h => msgR_key (hm m h)
 have hs2 := hin.2.2.2.1
 obtain ⟨_, _, s3, s4, _⟩ := sp
 obtain ⟨_, _, k3, k4, _⟩ := sk
 exact ⟨⟨by omega, hb⟩, (rightN_spec hin.2.1).1, nd_pivots hp, hm, fun m h => msgR_key (nd_msgsR hk m h), nd_rowsR hk, by omega, by omega⟩
theorem light_two {p k : Nd} (h : Light [p, k] 2 2000) : NdS p ∧ NdS k := ⟨nds_light (h.2 0 (by simp)), nds_light (h.2 1 (by simp))⟩
theorem law23 {c : Cfg} {p k : Nd} {i : Int} (h : MayP c p k i) :
  MayP c (pourN c.leaf c.bud p k i).1 (pourN c.leaf c.bud p k i).2.1 i ∧ (0 < (pourN c.leaf c.bud p k i).2.2 → k.seen < (pourN c.leaf c.bud p k i).2.1.seen) ∧
  ∀ x, (kidS p i).has x = true → ((onsN k.msgs x).then (onsN p.msgs x)).apply (optS (getN k.rows x).isSome ((getN k.rows x).getD Str.nil)) =
   ((onsN (pourN c.leaf c.bud p k i).2.1.msgs x).then (onsN (pourN c.leaf c.bud p k i).1.msgs x)).apply (optS (getN (pourN c.leaf c.bud p k i).2.1.rows x).isSome ((getN (pourN c.leaf c.bud p k i).2.1.rows x).getD Str.nil)) := by
 rcases pour_cases c p k i with e | ⟨hk, T, hp, e⟩
 ·rw [e]
  exact ⟨h, fun h => absurd h (Nat.lt_irrefl 0), fun x _ => rfl⟩
 ·obtain ⟨h1, h2⟩ := pour_may h hp
  exact ⟨h1, fun _ => h2, fun x hx => by rw [optS_get, optS_get]; exact pour_get h hp hx⟩
theorem onval {l : List Msg} (x : Str) (h : ∀ m ∈ l, m.R) : (onsN l x).val.b.size ≤ 16 := onsN_val l x fun m hm => (msgR_key (h m hm)).2
end Go.Fw
