/- How long lines are. Nothing of the program is named here. No condition. -/
import Derived.Test.YthmkpaoolhcibaaDoorPc
set_option linter.unusedVariables false
set_option linter.unusedSimpArgs false
namespace Go.Fw
open Go Go.RowKit

theorem quo_p {n : Nat} (h : n < 16) : (⟨#[37]⟩ : ByteArray) ++ (hexS.cut n (n + 1)).b = (mkStr [37, hexB n]).b := by
  rw [hexS_cut n h, mkStr_b (by simp)]; rfl
theorem quo_q {n : Nat} {a : UInt8} (h : n < 16) : (mkStr [37, a]).b ++ (hexS.cut n (n + 1)).b = (mkStr [37, a, hexB n]).b := by
  rw [hexS_cut n h, mkStr_b (by simp), mkStr_b (by simp)]; rfl
theorem quo_r {l : List UInt8} {c : UInt8} (h : l.length + 3 ≤ 140737488355328) (hp : plainB c = false) : (mkStr l).b ++ (mkStr [37, hexB (c.toNat / 16), hexB (c.toNat % 16)]).b = (mkStr (l ++ quoC c)).b := by
  rw [quoC_f hp, mkStr_b (by omega), mkStr_b (by simp), mkStr_b (by simp; omega), ← b_add]
theorem quo_nil {s : Str} (h : (mkStr (quoL s.l)).b = ⟨#[]⟩) (hl : s.l.length ≤ 100000) : s.l = [] := by
  have h1 := quoL_len s.l
  rw [mkStr_b (by omega)] at h
  have h2 : quoL s.l = [] := by
    have h3 := congrArg (fun b : ByteArray => b.data.toList) h
    simpa using h3
  by_cases h4 : s.l = []
  · exact h4
  · exact absurd h2 (quoL_pos _ h4)
def SzA (a : Ans) : Prop := a.val.l.length ≤ 1000 ∧ a.rows.length ≤ 1000 ∧ ∀ i (h : i < a.rows.length), a.rows[i].key.l.length ≤ 1000 ∧ a.rows[i].val.l.length ≤ 1000
theorem rowsS_append : ∀ (a b : List Pair) (s : Str), rowsS s (a ++ b) = rowsS (rowsS s a) b
  | [], _, _ => rfl
  | p :: a, b, s => rowsS_append a b _
theorem rowsS_take {l : List Pair} {s : Str} {k : Nat} (h : k < l.length) : rowsS s (l.take (k + 1)) = (rowsS s (l.take k)).app (rowS l[k]) := by
  rw [List.take_succ_eq_append_getElem h, rowsS_append]; rfl
theorem lenS : blankS.l.length ≤ 20 ∧ eqS.l.length ≤ 20 ∧ errS.l.length ≤ 20 ∧ hasS.l.length ≤ 20 ∧ pairsS.l.length ≤ 20 := ⟨Nat.le_of_ble_eq_true rfl, Nat.le_of_ble_eq_true rfl, Nat.le_of_ble_eq_true rfl, Nat.le_of_ble_eq_true rfl, Nat.le_of_ble_eq_true rfl⟩
theorem row_le {p : Pair} (hk : p.key.l.length ≤ 1000) (hv : p.val.l.length ≤ 1000) : (quoN p.key).l.length ≤ 3001 ∧ (quoN p.val).l.length ≤ 3001 ∧ (blankS.app (quoN p.key)).l.length ≤ 3021 ∧ ((blankS.app (quoN p.key)).app eqS).l.length ≤ 3041 ∧ (rowS p).l.length ≤ 6042 := by
  have h1 := quoN_le p.key
  have h2 := quoN_le p.val
  have h3 := app_le blankS (quoN p.key)
  have h4 := app_le (blankS.app (quoN p.key)) eqS
  have h5 := app_le ((blankS.app (quoN p.key)).app eqS) (quoN p.val)
  obtain ⟨h6, h7, _⟩ := lenS
  refine ⟨by omega, by omega, by omega, by omega, ?_⟩
  show (((blankS.app (quoN p.key)).app eqS).app (quoN p.val)).l.length ≤ _
  omega
theorem rowsS_le {l : List Pair} {s : Str} (h : ∀ i (h : i < l.length), l[i].key.l.length ≤ 1000 ∧ l[i].val.l.length ≤ 1000) : ∀ k, k ≤ l.length → (rowsS s (l.take k)).l.length ≤ s.l.length + 6042 * k
  | 0, _ => by simp [rowsS]
  | k + 1, hk => by
    have h1 := rowsS_le (s := s) h k (by omega)
    have h2 := (row_le (h k (by omega)).1 (h k (by omega)).2).2.2.2.2
    have h3 := app_le (rowsS s (l.take k)) (rowS l[k])
    rw [rowsS_take (by omega)]
    omega
theorem rowsS_st {l : List Pair} {s : Str} {k : Nat} (h : k < l.length) (hl : (rowsS s (l.take k)).l.length + (rowS l[k]).l.length ≤ 140737488355328) : (rowsS s (l.take k)).b ++ (rowS l[k]).b = (rowsS s (l.take (k + 1))).b := by
  rw [rowsS_take h]; exact app_b hl
theorem rowS_st {p : Pair} (hl : ((blankS.app (quoN p.key)).app eqS).l.length + (quoN p.val).l.length ≤ 140737488355328) : ((blankS.app (quoN p.key)).app eqS).b ++ (quoN p.val).b = (rowS p).b := app_b hl
theorem SzA.of {a : Ans} (h : longG Pair.w a.rows 0 1000 ≤ 1000) (hv : a.val.b.size ≤ 1000) : SzA a := by
  have h1 := longG_len Pair.w_pos (l := a.rows) (n := 0) (m := 1000) h
  have h2 := longG_mem (w := Pair.w) (fun p => by have := p.w_pos; omega) (l := a.rows) (n := 0) (m := 1000) (by omega) h
  refine ⟨by rw [Str.l_len]; exact hv, by omega, fun i hi => ?_⟩
  have h3 := h2.2 a.rows[i] (List.getElem_mem _)
  unfold Pair.w at h3
  rw [Str.l_len, Str.l_len]
  omega
theorem lineN_err {k : Int} {a : Ans} (h : a.err ≠ 0) : lineN k a = errS.app (decN a.err) := if_pos h
theorem lineN_none {k : Int} {a : Ans} (h : a.err = 0) (hk : k = 5) (hh : a.has = false) : lineN k a = noneS := by simp [lineN, h, hk, hh]
theorem lineN_rows {k : Int} {a : Ans} (h : a.err = 0) (hk : k = 6) : lineN k a = rowsS (pairsS.app (decN (a.rows.length : Int))) a.rows := by simp [lineN, h, hk]
theorem lineN_ok {k : Int} {a : Ans} (h : a.err = 0) (hk : k ≠ 5) (hk2 : k ≠ 6) : lineN k a = okS := by simp [lineN, h, hk, hk2]
section
open Go.ChangeShapes Go.WideShapes Go.ChangeAt
/-- An answer as an argument. -/
theorem dec_ans {P : Program} {t i s b tr : TypeId} (ht : structK P t = some [(i, 0, 1), (b, 1, 1), (s, 2, 1), (tr, 3, 1)]) (hi : P.underlying i = some (.int .i64)) (hs : P.underlying s = some .string) (hb : P.underlying b = some .bool) (dr : DecS P tr ePair) (hc : P.cellsOf t = 4) : Dec P t eAns := by
  intro H enc w fuel cs x h hw
  obtain ⟨hl, hf⟩ := trod_fld ht h hw
  obtain ⟨y0, n0, t0, w0⟩ := hf 0 _ _ _ rfl
  obtain ⟨y1, n1, t1, w1⟩ := hf 1 _ _ _ rfl
  obtain ⟨y2, n2, t2, w2⟩ := hf 2 _ _ _ rfl
  obtain ⟨y3, n3, t3, w3⟩ := hf 3 _ _ _ rfl
  obtain ⟨a0, e0, q0⟩ := fld_int hi t0 w0
  obtain ⟨a1, e1⟩ := fld_bool hb t1
  obtain ⟨a2, e2⟩ := fld_str hs t2 w2
  obtain ⟨v3, a3, e3, q3⟩ := fld_sl dr t3 w3
  rw [hc] at hl
  match cs, hl with
  | [_, _, _, _], _ =>
    simp at e0 e1 e2 e3
    subst e0 e1 e2 e3
    obtain ⟨p, c, rfl⟩ := q3.form
    exact ⟨⟨a0, a1, a2, a3⟩, p, c, rfl, q3, q0⟩
end
end Go.Fw
