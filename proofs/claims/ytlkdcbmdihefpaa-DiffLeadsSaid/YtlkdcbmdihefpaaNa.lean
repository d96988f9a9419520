/- What percolateref53.Wipes looks at, said of the rows of two maps. Plain Lean; nothing of the program is named here. No condition. -/
import Derived.Test.YtlkdcbmdihefpaaMz
set_option linter.unusedVariables false
set_option linter.unusedSimpArgs false
set_option linter.unnecessarySimpa false
namespace Go.Fw
theorem keys_len {a b : List Pair} (ha : Srt a) (hb : Srt b) : (keysN a b).length = (bothN a b).length := by rw [keys_both ha hb, List.length_map]
theorem keys_at {a b : List Pair} (ha : Srt a) (hb : Srt b) {i : Nat} (h : i < (keysN a b).length) (h2 : i < (bothN a b).length) : (keysN a b)[i] = (bothN a b)[i].key := by
  rw [List.getElem_of_eq (keys_both ha hb) h, List.getElem_map]
theorem keys_inB {a b : List Pair} (ha : Srt a) (hb : Srt b) {i : Nat} (h : i < (keysN a b).length) (h2 : i < (bothN a b).length) : (getN b (keysN a b)[i]).isSome = (bothN a b)[i].inB := by
  rw [keys_at ha hb h h2]
  have e := both_row a b ha hb _ (List.getElem_mem h2)
  have e2 : (bothN a b)[i].inB = (Drow.of a b (bothN a b)[i].key).inB := congrArg Drow.inB e
  rw [e2]; rfl
theorem strN_drop {R : List Drow} {i c : Nat} (h1 : i + c ≤ R.length) (h2 : ∀ j (h : i + j < R.length), j < c → R[i + j].inB = false) (h3 : ∀ h : i + c < R.length, R[i + c].inB = true) : strN (R.drop i) = c := by
  by_cases h : i + c < R.length
  · refine strN_at (k := c) (by simp; omega) (fun j hj hjc => ?_) ?_
    · rw [List.getElem_drop]; exact h2 j (by omega) hjc
    · rw [List.getElem_drop]; exact h3 h
  · rw [strN_all (fun j hj => by rw [List.getElem_drop]; simp at hj; exact h2 j (by omega) (by omega))]
    simp; omega
theorem chg_key {r : Drow} {o : Opr} (h : chg r = some o) : o.key = r.key := by
  unfold chg at h
  split at h
  · cases h; rfl
  · split at h
    · cases h; rfl
    · cases h
theorem filt_none {L : List Drow} {k : Str} (h : ∀ r ∈ L, r.key ≠ k) : ((L.filterMap chg).filter fun o => decide (o.key = k)) = [] := by
  rw [List.filter_eq_nil_iff]
  intro o ho he
  obtain ⟨r, hr, hc⟩ := List.mem_filterMap.1 ho
  exact h r hr ((chg_key hc).symm.trans (of_decide_eq_true he))
/-- The changes of one key. -/
theorem chg_filter {R : List Drow} (hd : DRise R) {j : Nat} (hj : j < R.length) : ((R.filterMap chg).filter fun o => decide (o.key = R[j].key)) = (chg R[j]).toList := by
  have e : R = R.take j ++ R[j] :: R.drop (j + 1) := by rw [← List.drop_eq_getElem_cons hj, List.take_append_drop]
  have h1 : ∀ r ∈ R.take j, r.key ≠ R[j].key := fun r hr he => by
    have := hd.parts (m := j) (s := R[j]) hr (by rw [List.drop_eq_getElem_cons hj]; exact List.mem_cons_self)
    rw [he, Str.lt_irrefl] at this; cases this
  have h2 : ∀ r ∈ R.drop (j + 1), r.key ≠ R[j].key := fun r hr he => by
    have := hd.parts (m := j + 1) (r := R[j]) (s := r) (by rw [List.take_succ_eq_append_getElem hj]; exact List.mem_append.2 (.inr (List.mem_singleton.2 rfl))) hr
    rw [he, Str.lt_irrefl] at this; cases this
  have e2 : R.filterMap chg = (R.take j).filterMap chg ++ ((chg R[j]).toList ++ (R.drop (j + 1)).filterMap chg) := by
    conv => lhs; rw [e]
    rw [List.filterMap_append]
    congr 1
    cases hc : chg R[j] with
    | none => rw [List.filterMap_cons_none hc]; rfl
    | some o => rw [List.filterMap_cons_some hc]; rfl
  rw [e2, List.filter_append, List.filter_append, filt_none h1, filt_none h2, List.append_nil, List.nil_append]
  cases hc : chg R[j] with
  | none => rfl
  | some o => simp [chg_key hc]
theorem wip53_in {a b : List Pair} (ha : Srt a) (hb : Srt b) {p s : Nat} (h : p + s < (keysN a b).length) : (⟨4, (keysN a b)[p], (keysN a b)[p + s], false, Str.nil, 0⟩ : Opr) = wipeOp ((bothN a b).drop p) s (keysN a b)[p] := by
  have h2 := keys_len ha hb
  have h3 : ((bothN a b).drop p).length = (bothN a b).length - p := List.length_drop ..
  rw [wipeOp_in (by omega), keys_at ha hb h (by omega), List.getElem_drop, decide_eq_false (by omega)]
theorem wip53_end {a b : List Pair} (ha : Srt a) (hb : Srt b) {p s : Nat} (h : ¬ p + s < (keysN a b).length) (hp : p < (keysN a b).length) (h2 : p + s ≤ (bothN a b).length) : (⟨4, (keysN a b)[p], Str.nil, true, Str.nil, 0⟩ : Opr) = wipeOp ((bothN a b).drop p) s (keysN a b)[p] := by
  have h4 := keys_len ha hb
  have h3 : ((bothN a b).drop p).length = (bothN a b).length - p := List.length_drop ..
  rw [wipeOp_end (by omega) (by omega), decide_eq_true (by omega)]
theorem key53 {a b : List Pair} (ha : Srt a) (hb : Srt b) {p : Nat} (h : p < (keysN a b).length) (h2 : 0 < ((bothN a b).drop p).length) : ((bothN a b).drop p)[0].key = (keysN a b)[p] := by
  have h3 : ((bothN a b).drop p).length = (bothN a b).length - p := List.length_drop ..
  rw [keys_at ha hb h (by omega), List.getElem_drop]; rfl
theorem fl_t {α : Type} {f : α → Bool} {l : List α} {k : Nat} (hk : k < l.length) (h : f l[k] = true) : (l.take (k + 1)).filter f = (l.take k).filter f ++ [l[k]] := by
  rw [List.take_succ_eq_append_getElem hk, List.filter_append, List.filter_cons_of_pos h, List.filter_nil]
theorem fl_f {α : Type} {f : α → Bool} {l : List α} {k : Nat} (hk : k < l.length) (h : f l[k] = false) : (l.take (k + 1)).filter f = (l.take k).filter f := by
  rw [List.take_succ_eq_append_getElem hk, List.filter_append, List.filter_cons_of_neg (by simp [h]), List.filter_nil, List.append_nil]
theorem fm_step {α β : Type} {f : α → Option β} {l : List α} {k : Nat} (hk : k < l.length) : (l.take (k + 1)).filterMap f = (l.take k).filterMap f ++ (f l[k]).toList := by
  rw [List.take_succ_eq_append_getElem hk, List.filterMap_append]
  congr 1
theorem chg53 {a b : List Pair} (ha : Srt a) (hb : Srt b) {p c i : Nat} (hi : i < (((bothN a b).drop p).take c).length) (h : p + i < (keysN a b).length) : ((chgN a b).filter fun o => decide (o.key = (keysN a b)[p + i])) = (chg (((bothN a b).drop p).take c)[i]).toList := by
  have h2 := keys_len ha hb
  rw [keys_at ha hb h (by omega), chgN, chg_filter (both_rise a b ha hb) (by omega), List.getElem_take, List.getElem_drop]
theorem chg_self : ∀ (a : List Pair), Srt a → chgN a a = [] := fun a ha => by
  unfold chgN
  rw [List.filterMap_eq_nil_iff]
  intro r hr
  have e := both_row a a ha ha r hr
  have hk : (getN a r.key).isSome = true := getN_mem_iff.2 (((both_keys a a r.key).1 (List.mem_map.2 ⟨r, hr, rfl⟩)).elim id id)
  rw [e]
  exact chg_0 hk hk rfl
end Go.Fw
