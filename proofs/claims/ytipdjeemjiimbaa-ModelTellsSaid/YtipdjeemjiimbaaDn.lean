/- From the form's reading of an argument to the data of the walks: structs. Nothing of the program is named here. No condition. -/
import Derived.Test.YtipdjeemjiimbaaDc
set_option linter.unusedVariables false
set_option linter.unusedSimpArgs false
set_option linter.unnecessarySimpa false
namespace Go.Fw
open Go Go.RowKit
theorem andI {a b : Bool} (h : a = true) (k : b = true) : (a && b) = true := by rw [h, k]; rfl
/-- A struct's fields: type, place, cells. -/
def structK (P : Program) (t : TypeId) : Option (List (TypeId × Nat × Nat)) := match P.underlying t with
  | some (.struct fs) => some (fs.toList.map fun f => (f.type, f.offset, P.cellsOf f.type))
  | _ => none
theorem trod_fld {P : Program} {t : TypeId} {L : List (TypeId × Nat × Nat)} (hs : structK P t = some L) {H : Type} {enc : TypeId × Value → H} {w : World} {fuel : Nat} {cs : List Value} {x : DataW H × List MemPlace}
    (h : DataW.trod enc P w 0 (fun _ => true) true fuel t cs = some x) (hw : ∀ n ∈ x.1.weights P t, n ≤ 140737488351232) :
    cs.length = P.cellsOf t ∧ ∀ (i : Nat) (ty : TypeId) (o k : Nat), L[i]? = some (ty, o, k) → ∃ y n, DataW.trod enc P w 0 (fun _ => true) true n ty ((cs.drop o).take k) = some y ∧ ∀ n ∈ y.1.weights P ty, n ≤ 140737488351232 := by
  unfold structK at hs
  split at hs
  · rename_i fs hu
    cases hs
    obtain ⟨xs, n, rfl, rfl, hl, hlen, hf⟩ := DataW.trod_struct hu h
    refine ⟨hl, fun i ty o k hi => ?_⟩
    rw [List.getElem?_map, Option.map_eq_some_iff] at hi
    obtain ⟨f, hfi, he⟩ := hi
    cases he
    have hfa : fs[i]? = some f := by rw [← Array.getElem?_toList]; exact hfi
    have h1 := hf i f hfa
    have hil : i < xs.length := by rw [hlen]; exact (Array.getElem?_eq_some_iff.1 hfa).1
    rw [List.getElem?_eq_getElem hil] at h1
    refine ⟨xs[i], n, h1, fun m hm => hw m ?_⟩
    show m ∈ DataW.weights P t (.agg _)
    unfold DataW.weights
    rw [hu]
    exact DataW.weights_mem_each (j := i) (by rw [List.getElem?_map, hfi]; rfl) (by rw [List.getElem?_map, List.getElem?_eq_getElem hil]; rfl) m hm
  · cases hs
theorem one_cell {cs : List Value} {o : Nat} {v : Value} (h : (cs.drop o).take 1 = [v]) : cs[o]? = some v := by
  have := congrArg (·[0]?) h
  simpa using this
theorem fld_str {P : Program} {t : TypeId} (ht : P.underlying t = some .string) {H : Type} {enc : TypeId × Value → H} {w : World} {n : Nat} {cs : List Value} {o : Nat} {y : DataW H × List MemPlace}
    (h : DataW.trod enc P w 0 (fun _ => true) true n t ((cs.drop o).take 1) = some y) (hw : ∀ n ∈ y.1.weights P t, n ≤ 140737488351232) : ∃ s : Str, cs[o]? = some (.string s.b) := by
  obtain ⟨a, ha⟩ := dec_str ht enc w n _ y h hw
  exact ⟨a, one_cell ha⟩
theorem fld_int {P : Program} {t : TypeId} (ht : P.underlying t = some (.int .i64)) {H : Type} {enc : TypeId × Value → H} {w : World} {n : Nat} {cs : List Value} {o : Nat} {y : DataW H × List MemPlace}
    (h : DataW.trod enc P w 0 (fun _ => true) true n t ((cs.drop o).take 1) = some y) (hw : ∀ n ∈ y.1.weights P t, n ≤ 140737488351232) : ∃ a : Int, cs[o]? = some (.int .i64 a) ∧ i64 a := by
  obtain ⟨a, ha⟩ := dec_int ht enc w n _ y h hw
  exact ⟨a, one_cell ha.1, ha.2⟩
theorem fld_bool {P : Program} {t : TypeId} (ht : P.underlying t = some .bool) {H : Type} {enc : TypeId × Value → H} {w : World} {n : Nat} {cs : List Value} {o : Nat} {y : DataW H × List MemPlace}
    (h : DataW.trod enc P w 0 (fun _ => true) true n t ((cs.drop o).take 1) = some y) : ∃ a : Bool, cs[o]? = some (.bool a) := by
  obtain ⟨a, ha, _⟩ := DataW.trod_bool ht h
  exact ⟨a, one_cell ha⟩
theorem fld_sl {α : Type} {e : Enc α} {P : Program} {t : TypeId} (hd : DecS P t e) {H : Type} {enc : TypeId × Value → H} {w : World} {n : Nat} {cs : List Value} {o : Nat} {y : DataW H × List MemPlace}
    (h : DataW.trod enc P w 0 (fun _ => true) true n t ((cs.drop o).take 1) = some y) (hw : ∀ n ∈ y.1.weights P t, n ≤ 140737488351232) : ∃ v l, cs[o]? = some v ∧ SlR e (allG w) v l := by
  obtain ⟨v, l, ha, hl⟩ := hd enc w n _ y h hw
  exact ⟨v, l, one_cell ha, hl⟩
theorem dec_pair {P : Program} {t s : TypeId} (ht : structK P t = some [(s, 0, 1), (s, 1, 1)]) (hs : P.underlying s = some .string) (hc : P.cellsOf t = 2) : Dec P t ePair := by
  intro H enc w fuel cs x h hw
  obtain ⟨hl, hf⟩ := trod_fld ht h hw
  obtain ⟨y0, n0, t0, w0⟩ := hf 0 _ _ _ rfl
  obtain ⟨y1, n1, t1, w1⟩ := hf 1 _ _ _ rfl
  obtain ⟨a0, e0⟩ := fld_str hs t0 w0
  obtain ⟨a1, e1⟩ := fld_str hs t1 w1
  rw [hc] at hl
  match cs, hl with
  | [_, _], _ =>
    simp at e0 e1
    subst e0 e1
    exact ⟨⟨a0, a1⟩, rfl⟩
theorem dec_msg {P : Program} {t i s b : TypeId} (ht : structK P t = some [(i, 0, 1), (i, 1, 1), (s, 2, 1), (s, 3, 1), (b, 4, 1), (s, 5, 1)]) (hi : P.underlying i = some (.int .i64)) (hs : P.underlying s = some .string) (hb : P.underlying b = some .bool) (hc : P.cellsOf t = 6) : Dec P t eMsg := by
  intro H enc w fuel cs x h hw
  obtain ⟨hl, hf⟩ := trod_fld ht h hw
  obtain ⟨y0, n0, t0, w0⟩ := hf 0 _ _ _ rfl
  obtain ⟨y1, n1, t1, w1⟩ := hf 1 _ _ _ rfl
  obtain ⟨y2, n2, t2, w2⟩ := hf 2 _ _ _ rfl
  obtain ⟨y3, n3, t3, w3⟩ := hf 3 _ _ _ rfl
  obtain ⟨y4, n4, t4, w4⟩ := hf 4 _ _ _ rfl
  obtain ⟨y5, n5, t5, w5⟩ := hf 5 _ _ _ rfl
  obtain ⟨a0, e0, q0⟩ := fld_int hi t0 w0
  obtain ⟨a1, e1, q1⟩ := fld_int hi t1 w1
  obtain ⟨a2, e2⟩ := fld_str hs t2 w2
  obtain ⟨a3, e3⟩ := fld_str hs t3 w3
  obtain ⟨a4, e4⟩ := fld_bool hb t4
  obtain ⟨a5, e5⟩ := fld_str hs t5 w5
  rw [hc] at hl
  match cs, hl with
  | [_, _, _, _, _, _], _ =>
    simp at e0 e1 e2 e3 e4 e5
    subst e0 e1 e2 e3 e4 e5
    exact ⟨⟨a0, a1, a2, a3, a4, a5⟩, rfl, q0, q1⟩
theorem dec_node {P : Program} {t i s b tp tk tm tr : TypeId} (ht : structK P t = some [(i, 0, 1), (i, 1, 1), (tp, 2, 1), (tk, 3, 1), (s, 4, 1), (b, 5, 1), (i, 6, 1), (i, 7, 1), (tm, 8, 1), (tr, 9, 1)]) (hi : P.underlying i = some (.int .i64)) (hs : P.underlying s = some .string) (hb : P.underlying b = some .bool)
    (dp : DecS P tp eStr) (dk : DecS P tk eInt) (dm : DecS P tm eMsg) (dr : DecS P tr ePair) (hc : P.cellsOf t = 10) : Dec P t eNode := by
  intro H enc w fuel cs x h hw
  obtain ⟨hl, hf⟩ := trod_fld ht h hw
  obtain ⟨y0, n0, t0, w0⟩ := hf 0 _ _ _ rfl
  obtain ⟨y1, n1, t1, w1⟩ := hf 1 _ _ _ rfl
  obtain ⟨y2, n2, t2, w2⟩ := hf 2 _ _ _ rfl
  obtain ⟨y3, n3, t3, w3⟩ := hf 3 _ _ _ rfl
  obtain ⟨y4, n4, t4, w4⟩ := hf 4 _ _ _ rfl
  obtain ⟨y5, n5, t5, w5⟩ := hf 5 _ _ _ rfl
  obtain ⟨y6, n6, t6, w6⟩ := hf 6 _ _ _ rfl
  obtain ⟨y7, n7, t7, w7⟩ := hf 7 _ _ _ rfl
  obtain ⟨y8, n8, t8, w8⟩ := hf 8 _ _ _ rfl
  obtain ⟨y9, n9, t9, w9⟩ := hf 9 _ _ _ rfl
  obtain ⟨a0, e0, q0⟩ := fld_int hi t0 w0
  obtain ⟨a1, e1, q1⟩ := fld_int hi t1 w1
  obtain ⟨v2, a2, e2, q2⟩ := fld_sl dp t2 w2
  obtain ⟨v3, a3, e3, q3⟩ := fld_sl dk t3 w3
  obtain ⟨a4, e4⟩ := fld_str hs t4 w4
  obtain ⟨a5, e5⟩ := fld_bool hb t5
  obtain ⟨a6, e6, q6⟩ := fld_int hi t6 w6
  obtain ⟨a7, e7, q7⟩ := fld_int hi t7 w7
  obtain ⟨v8, a8, e8, q8⟩ := fld_sl dm t8 w8
  obtain ⟨v9, a9, e9, q9⟩ := fld_sl dr t9 w9
  obtain ⟨p2, c2, rfl⟩ := q2.form
  obtain ⟨p3, c3, rfl⟩ := q3.form
  obtain ⟨p8, c8, rfl⟩ := q8.form
  obtain ⟨p9, c9, rfl⟩ := q9.form
  rw [hc] at hl
  match cs, hl with
  | [_, _, _, _, _, _, _, _, _, _], _ =>
    simp at e0 e1 e2 e3 e4 e5 e6 e7 e8 e9
    subst e0 e1 e2 e3 e4 e5 e6 e7 e8 e9
    exact ⟨⟨a0, a1, a2, a3, a4, a5, a6, a7, a8, a9⟩, p2, c2, p3, c3, p8, c8, p9, c9, rfl, q2, q3, q8, q9, q0, q1, q6, q7⟩
section
open Go.ChangeShapes Go.WideShapes Go.ChangeAt
theorem arg_struct {H : Type} {enc : TypeId × Value → H} {P : Program} {W : World} {base : Nat} {t : TypeId} {v : Value} {d : DataW H} {p : List MemPlace} {α : Type} {e : Enc α} {L : List (TypeId × Nat × Nat)} (ht : structK P t = some L) (hd : Dec P t e) (hv : Value.okWide P W .any base t v) (h : DataW.Trod enc P W 0 (fun _ => true) true t v d p) (hw : ∀ n ∈ d.weights P t, n ≤ 140737488351232) :
    ∃ cs a, v = .agg (List.toArray cs) ∧ e.R (allG W) cs a := by
  unfold structK at ht
  split at ht
  · rename_i fs hu; exact arg_agg hu hd hv h hw
  · cases ht
end
/-- A configuration. -/
structure Cfg where
  fan : Int
  leaf : Int
  bud : Int
  slots : Int
  rest : Int
def eCfg : Enc Cfg where
  k := 5
  w := 40
  R := fun _ cs c => cs = [.int .i64 c.fan, .int .i64 c.leaf, .int .i64 c.bud, .int .i64 c.slots, .int .i64 c.rest] ∧ i64 c.fan ∧ i64 c.leaf ∧ i64 c.bud ∧ i64 c.slots ∧ i64 c.rest
  mono := fun _ h => h
  len := fun h => by rw [h.1]; rfl
  one := fun h u hu => by rw [h.1] at hu; simp at hu; rcases hu with rfl | rfl | rfl | rfl | rfl <;> rfl
theorem dec_cfg {P : Program} {t i : TypeId} (ht : structK P t = some [(i, 0, 1), (i, 1, 1), (i, 2, 1), (i, 3, 1), (i, 4, 1)]) (hi : P.underlying i = some (.int .i64)) (hc : P.cellsOf t = 5) : Dec P t eCfg := by
  intro H enc w fuel cs x h hw
  obtain ⟨hl, hf⟩ := trod_fld ht h hw
  obtain ⟨y0, n0, t0, w0⟩ := hf 0 _ _ _ rfl
  obtain ⟨y1, n1, t1, w1⟩ := hf 1 _ _ _ rfl
  obtain ⟨y2, n2, t2, w2⟩ := hf 2 _ _ _ rfl
  obtain ⟨y3, n3, t3, w3⟩ := hf 3 _ _ _ rfl
  obtain ⟨y4, n4, t4, w4⟩ := hf 4 _ _ _ rfl
  obtain ⟨a0, e0, q0⟩ := fld_int hi t0 w0
  obtain ⟨a1, e1, q1⟩ := fld_int hi t1 w1
  obtain ⟨a2, e2, q2⟩ := fld_int hi t2 w2
  obtain ⟨a3, e3, q3⟩ := fld_int hi t3 w3
  obtain ⟨a4, e4, q4⟩ := fld_int hi t4 w4
  rw [hc] at hl
  match cs, hl with
  | [_, _, _, _, _], _ =>
    simp at e0 e1 e2 e3 e4
    subst e0 e1 e2 e3 e4
    exact ⟨⟨a0, a1, a2, a3, a4⟩, rfl, q0, q1, q2, q3, q4⟩
end Go.Fw
