/- What a look at all of a plain tree comes to. Plain Lean; nothing of the program is named here. No condition. -/
import Derived.Test.YtcngningbcaggaaQgQc
set_option linter.unusedVariables false
set_option linter.unusedSimpArgs false
set_option linter.unnecessarySimpa false
namespace Go.Fw
open Go Go.RowKit
section
variable {c : Cfg} {l : List Nd} {root : Int} {b : Bool} {mt : List (Int × Bool)} {rows : List Pair}
end
theorem nds_light2 {n : Nd} {m : Int} (h : n.light m) (h0 : 0 ≤ m) (hm : m ≤ 2000) : NdS n := by
  obtain ⟨h1, h2, h3, h4, h5⟩ := h
  have r1 := longG_len Pair.w_pos h1
  have r2 := longN_len h2
  have r4 := longG_len Msg.w_pos h4
  have m1 := (longG_mem (fun a => by have := Pair.w_pos a; omega) (Int.le_refl 0) h1).2
  have m2 := (longN_mem (Int.le_refl 0) h2).2
  have m4 := (longG_mem (fun a => by have := Msg.w_pos a; omega) (Int.le_refl 0) h4).2
  refine ⟨by omega, by omega, by omega, by omega, by omega, fun m hm => ?_, fun p hp => ?_, fun p hp => ?_⟩
  · have := m4 m hm; unfold Msg.w at this; omega
  · have := m2 p hp; omega
  · have := m1 p hp; unfold Pair.w at this; omega
theorem sml_light2 {l : List Nd} {most m : Int} (h : Light l most m) (hm : most ≤ 4096) (h0 : 0 ≤ m) (h2 : m ≤ 2000) : Sml l := by
  refine ⟨by have := h.1; omega, fun n hn => ?_⟩
  obtain ⟨i, hi, rfl⟩ := List.getElem_of_mem hn
  exact nds_light2 (h.2 i hi) h0 h2
end Go.Fw
