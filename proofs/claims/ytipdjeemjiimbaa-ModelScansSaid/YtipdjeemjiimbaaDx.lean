/- From the form's reading of an argument to the data of the walks: spans and effects. Nothing of the program is named here. No condition. -/
import Derived.Test.YtipdjeemjiimbaaDn
import Derived.Test.YtipdjeemjiimbaaMe
set_option linter.unusedVariables false
set_option linter.unusedSimpArgs false
set_option linter.unnecessarySimpa false
namespace Go.Fw
open Go Go.RowKit
def eSpan : Enc Span where
  k := 3
  w := 40
  R := fun _ cs s => cs = [.string s.lo.b, .string s.hi.b, .bool s.opn]
  mono := fun _ h => h
  len := fun h => by rw [h]; rfl
  one := fun h u hu => by rw [h] at hu; simp at hu; rcases hu with rfl | rfl | rfl <;> rfl
def eEff : Enc Eff where
  k := 2
  w := 24
  R := fun _ cs e => cs = [.int .i64 e.kind, .string e.val.b] ∧ i64 e.kind
  mono := fun _ h => h
  len := fun h => by rw [h.1]; rfl
  one := fun h u hu => by rw [h.1] at hu; simp at hu; rcases hu with rfl | rfl <;> rfl
theorem dec_span {P : Program} {t s b : TypeId} (ht : structK P t = some [(s, 0, 1), (s, 1, 1), (b, 2, 1)]) (hs : P.underlying s = some .string) (hb : P.underlying b = some .bool) (hc : P.cellsOf t = 3) : Dec P t eSpan := by
  intro H enc w fuel cs x h hw
  obtain ⟨hl, hf⟩ := trod_fld ht h hw
  obtain ⟨y0, n0, t0, w0⟩ := hf 0 _ _ _ rfl
  obtain ⟨y1, n1, t1, w1⟩ := hf 1 _ _ _ rfl
  obtain ⟨y2, n2, t2, w2⟩ := hf 2 _ _ _ rfl
  obtain ⟨a0, e0⟩ := fld_str hs t0 w0
  obtain ⟨a1, e1⟩ := fld_str hs t1 w1
  obtain ⟨a2, e2⟩ := fld_bool hb t2
  rw [hc] at hl
  match cs, hl with
  | [_, _, _], _ =>
    simp at e0 e1 e2
    subst e0 e1 e2
    exact ⟨⟨a0, a1, a2⟩, rfl⟩
theorem dec_eff {P : Program} {t i s : TypeId} (ht : structK P t = some [(i, 0, 1), (s, 1, 1)]) (hi : P.underlying i = some (.int .i64)) (hs : P.underlying s = some .string) (hc : P.cellsOf t = 2) : Dec P t eEff := by
  intro H enc w fuel cs x h hw
  obtain ⟨hl, hf⟩ := trod_fld ht h hw
  obtain ⟨y0, n0, t0, w0⟩ := hf 0 _ _ _ rfl
  obtain ⟨y1, n1, t1, w1⟩ := hf 1 _ _ _ rfl
  obtain ⟨a0, e0, q0⟩ := fld_int hi t0 w0
  obtain ⟨a1, e1⟩ := fld_str hs t1 w1
  rw [hc] at hl
  match cs, hl with
  | [_, _], _ =>
    simp at e0 e1
    subst e0 e1
    exact ⟨⟨a0, a1⟩, rfl, q0⟩
end Go.Fw
