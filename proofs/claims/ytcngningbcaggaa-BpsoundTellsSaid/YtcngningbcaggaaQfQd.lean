/- What a look at all of a plain tree comes to. Plain Lean; nothing of the program is named here. No condition. -/
import Derived.Test.YtcngningbcaggaaQfQc
set_option linter.unusedVariables false
set_option linter.unusedSimpArgs false
set_option linter.unnecessarySimpa false
namespace Go.Fw
open Go Go.RowKit
section
variable {c : Cfg} {l : List Nd} {root : Int} {b : Bool} {mt : List (Int × Bool)} {rows : List Pair}
theorem good_down (h : Good17 c root l) : 0 ≤ (findN l root).1.level ∧ (findN l root).2 = true ∧ Down c l (findN l root).1.level.toNat true (rootS l root) [] := ⟨h.lvl, h.found, h.wf, h.pre, fun _ _ => rfl⟩
theorem whole_t (hnd : SlotsNd l) (hq : DfsQ c l (findN l root).1.level true (rootS l root) root [] [] b mt rows) (hb : b = true) (hl : mt.length = l.length) : Good17 c root l ∧ rows = map17 c root l := by
  obtain ⟨⟨h1, h2, h3⟩, h4, h5, h6, h7⟩ := hq.1 hb
  have hlen := h4.len
  rw [List.length_nil] at hlen
  have hg : Good17 c root l := ⟨h2, hnd, h1, h3.1, h3.2.1, by omega⟩
  exact ⟨hg, by rw [map17_good hg, h5]; rfl⟩
theorem whole_l (hq : DfsQ c l (findN l root).1.level true (rootS l root) root [] [] b mt rows) (hb : b = true) (hl : mt.length ≠ l.length) : ¬ Good17 c root l := fun hg => by
  obtain ⟨_, h4, _⟩ := hq.1 hb
  have hlen := h4.len
  rw [List.length_nil] at hlen
  exact hl (by rw [hlen, hg.len]; omega)
theorem whole_f (hq : DfsQ c l (findN l root).1.level true (rootS l root) root [] [] b mt rows) (hb : b = false) : ¬ Good17 c root l := fun hg => hq.2 hb (good_down hg)
theorem nd_bad (h : ¬ SlotsNd l) : ¬ Good17 c root l := fun hg => h hg.nd
theorem sound_seats (h : sound17 c root l = true) : ¬ seatsN l root = none := fun e => by rw [sound17_f e] at h; cases h
theorem sound_len {ss : List Seat} (h : sound17 c root l = true) (hs : seatsN l root = some ss) : ss.length = l.length := by
  rw [sound17_t hs] at h
  exact (of_decide_eq_true h).1.1.symm
theorem wf_len : ∀ (n : Nat) (top : Bool) (x : Seat), wfF c l n top x → n + 1 ≤ (preS l n x).length
  | 0, _, x, _ => by rw [preS_0]; simp
  | n + 1, top, x, h => by
    have h0 : ¬ x.n.level = 0 := by have := (wf_top h).2; omega
    have hk := kids_all h.2.1 h0
    have hp : 0 < x.n.kids.length := by have := (rightN_spec hk.2.2.1).2; omega
    rw [preS_succ, List.length_cons]
    have hm : kidSt l x 0 ∈ kidsD l x := by
      rw [hk.1]
      exact List.mem_map.2 ⟨0, List.mem_range.2 hp, rfl⟩
    have ih := wf_len n false _ (h.2.2.2 _ hm)
    have : (preS l n (kidSt l x 0)).length ≤ ((kidsD l x).flatMap (preS l n)).length := by
      obtain ⟨A, B, e⟩ := List.append_of_mem hm
      rw [e, List.flatMap_append, List.flatMap_cons, List.length_append, List.length_append]; omega
    omega
theorem Good17.lvl_le (h : Good17 c root l) : (findN l root).1.level + 1 ≤ l.length := by
  have h1 := wf_len _ _ _ h.wf
  have h2 := h.len
  have h3 := h.lvl
  omega
end
theorem nds_light2 {n : Nd} {m : Int} (h : n.light m) (h0 : 0 ≤ m) (hm : m ≤ 2000) : NdS n := by
  obtain ⟨h1, h2, h3, h4, h5⟩ := h
  have r1 := longG_len Pair.w_pos h1
  have r2 := longN_len h2
  have r4 := longG_len Msg.w_pos h4
  have m1 := (longG_mem (fun a => by have := Pair.w_pos a; omega) (Int.le_refl 0) h1).2
  have m2 := (longN_mem (Int.le_refl 0) h2).2
  have m4 := (longG_mem (fun a => by have := Msg.w_pos a; omega) (Int.le_refl 0) h4).2
  refine ⟨by omega, by omega, by omega, by omega, by omega, fun m hm => ?_, fun p hp => ?_, fun p hp => ?_⟩
  · have := m4 m hm; unfold Msg.w at this; omega
  · have := m2 p hp; omega
  · have := m1 p hp; unfold Pair.w at this; omega
theorem sml_light2 {l : List Nd} {most m : Int} (h : Light l most m) (hm : most ≤ 4096) (h0 : 0 ≤ m) (h2 : m ≤ 2000) : Sml l := by
  refine ⟨by have := h.1; omega, fun n hn => ?_⟩
  obtain ⟨i, hi, rfl⟩ := List.getElem_of_mem hn
  exact nds_light2 (h.2 i hi) h0 h2
end Go.Fw
