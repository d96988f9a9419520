/- Trees of rows: their texts stay short; how many nodes and rows there are. Plain Lean; nothing of the program is named here. No condition. -/
import Derived.Test.YtemoalimclnfkaaGreatQjQc
set_option linter.unusedVariables false
set_option linter.unusedSimpArgs false
set_option linter.unnecessarySimpa false
set_option maxRecDepth 100000
set_option maxHeartbeats 1600000
namespace Go.Fw
open Go Go.RowKit
def PvB : (k : Nat) → BT k → Prop
  | 0, y => ∀ p ∈ lfR y, p.key.b.size ≤ 16
  | k + 1, y => (∀ p ∈ ndP y, p.b.size ≤ 16) ∧ ∀ c ∈ ndK y, PvB k c
theorem pv_default : ∀ k : Nat, PvB k default
  | 0 => fun p hp => by cases hp
  | k + 1 => ⟨fun p hp => absurd (show p ∈ ([] : List Str) from hp) List.not_mem_nil, fun c hc => absurd (show c ∈ ([] : List (BT k)) from hc) List.not_mem_nil⟩
theorem pv_getD {k : Nat} {K : List (BT k)} (h : ∀ c ∈ K, PvB k c) (i : Nat) : PvB k (K.getD i default) := by
  rw [List.getD_eq_getElem?_getD]
  cases e : K[i]? with
  | none => exact pv_default k
  | some c => exact h c (List.mem_of_getElem? e)
theorem nil16 : Str.nil.b.size ≤ 16 := by decide
theorem pv_piv {P : List Str} (h : ∀ p ∈ P, p.b.size ≤ 16) (i : Nat) : (P.getD i Str.nil).b.size ≤ 16 := by
  rw [List.getD_eq_getElem?_getD]
  cases e : P[i]? with
  | none => exact nil16
  | some c => exact h c (List.mem_of_getElem? e)
theorem rhK_size {l : List Pair} (h : ∀ p ∈ l, p.key.b.size ≤ 16) : (rhK l).b.size ≤ 16 := by
  unfold rhK
  by_cases e : l.length < 2
  · rw [rowsN_f e]; exact nil16
  · rw [rowsN_t e]
    show (betweenN _ _).1.b.size ≤ 16
    cases e2 : (l[(l.length + 1) / 2 - 1]'(by omega)).key.lt (l[(l.length + 1) / 2]'(by omega)).key
    · rw [betweenN_f e2]; exact nil16
    · exact (between_props e2 (h _ (List.getElem_mem _))).2.1
theorem mem_set9 {α : Type} {l : List α} {i : Nat} {a b : α} (h : b ∈ l.set i a) : b ∈ l ∨ b = a := List.mem_or_eq_of_mem_set h
def Pv9 (k : Nat) (r : BT k × Option (Str × BT k)) : Prop := PvB k r.1 ∧ ∀ w, r.2 = some w → w.1.b.size ≤ 16 ∧ PvB k w.2
section
variable {fan leaf : Int} {key : Str} {e : Eff}
theorem spl_pv {k : Nat} {s t : Int} {P : List Str} {K : List (BT k)} (hP : ∀ p ∈ P, p.b.size ≤ 16) (hK : ∀ c ∈ K, PvB k c) : Pv9 (k + 1) (joinP fan s t P K) := by
  unfold joinP
  split
  · exact ⟨⟨hP, hK⟩, fun w hw => by cases hw⟩
  · refine ⟨⟨fun p hp => hP p (List.mem_of_mem_take hp), fun c hc => hK c (List.mem_of_mem_take hc)⟩, fun w hw => ?_⟩
    cases hw
    exact ⟨pv_piv hP _, fun p hp => hP p (List.mem_of_mem_drop hp), fun c hc => hK c (List.mem_of_mem_drop hc)⟩
theorem splB_joinP {k : Nat} {s : Int} {P : List Str} {K : List (BT k)} {u : List Bool} : (splB fan s P K u).1 = joinP fan s (firstN u : Int) P K := by
  unfold splB joinP
  split <;> rfl
theorem ins_pv (hk16 : key.b.size ≤ 16) : ∀ (k : Nat) {y : BT k} (u : List Bool), PvB k y → Pv9 k (insB fan leaf key e k y u).1
  | 0, y, u, h => by
    have hw : ∀ p ∈ withN (lfR y) key e, p.key.b.size ≤ 16 := fun p hp => by
      rcases with_mem hp with h9 | h9
      · exact h p h9
      · rw [h9]; exact hk16
    by_cases h5 : ((withN (lfR y) key e).length : Int) ≤ leaf
    · rw [insB_0t h5]
      exact ⟨hw, fun w hw => by cases hw⟩
    · rw [insB_0f h5]
      refine ⟨fun p hp => hw p (List.mem_of_mem_take hp), fun w hw2 => ?_⟩
      cases hw2
      exact ⟨rhK_size hw, fun p hp => hw p (List.mem_of_mem_drop hp)⟩
  | k + 1, y, u, h => by
    have ih := ins_pv hk16 k u (pv_getD h.2 (routeN (ndP y) key))
    show Pv9 (k + 1) (upB fan y (routeN (ndP y) key) (insB fan leaf key e k ((ndK y).getD (routeN (ndP y) key) default) u)).1
    generalize insB fan leaf key e k ((ndK y).getD (routeN (ndP y) key) default) u = r at *
    unfold upB
    cases hr : r.1.2 with
    | none =>
      refine ⟨⟨h.1, fun c hc => ?_⟩, fun w hw => by cases hw⟩
      rcases mem_set9 hc with h9 | h9
      · exact h.2 c h9
      · rw [h9]; exact ih.1
    | some w =>
      obtain ⟨w1, w2⟩ := ih.2 w hr
      dsimp only
      rw [splB_joinP]
      refine spl_pv (fun p hp => ?_) fun c hc => ?_
      · rcases List.mem_append.1 hp with h9 | h9
        · exact h.1 p (List.mem_of_mem_take h9)
        · rcases List.mem_append.1 h9 with h9 | h9
          · rw [List.mem_singleton.1 h9]; exact w1
          · exact h.1 p (List.mem_of_mem_drop h9)
      · rcases List.mem_append.1 hc with h9 | h9
        · exact h.2 c (List.mem_of_mem_take h9)
        · rcases List.mem_append.1 h9 with h9 | h9
          · rcases List.mem_cons.1 h9 with h9 | h9
            · rw [h9]; exact ih.1
            · rw [List.mem_singleton.1 h9]; exact w2
          · exact h.2 c (List.mem_of_mem_drop h9)
theorem join_pv : ∀ (k : Nat) {a b : BT k} {p : Str}, PvB k a → PvB k b → p.b.size ≤ 16 → Pv9 k (joinB fan leaf k a p b)
  | 0, a, b, p, ha, hb, hp => by
    have hR : ∀ p ∈ lfR a ++ lfR b, p.key.b.size ≤ 16 := fun p hp => by
      rcases List.mem_append.1 hp with h9 | h9
      · exact ha p h9
      · exact hb p h9
    show Pv9 0 (join0 leaf a.slot b.slot (lfR a ++ lfR b))
    unfold join0
    split
    · exact ⟨hR, fun w hw => by cases hw⟩
    · refine ⟨fun p hp => hR p (List.mem_of_mem_take hp), fun w hw2 => ?_⟩
      cases hw2
      exact ⟨rhK_size hR, fun p hp => hR p (List.mem_of_mem_drop hp)⟩
  | k + 1, a, b, p, ha, hb, hp => by
    refine spl_pv (fun q hq => ?_) fun c hc => ?_
    · rcases List.mem_append.1 hq with h9 | h9
      · exact ha.1 q h9
      · rcases List.mem_cons.1 h9 with h9 | h9
        · rw [h9]; exact hp
        · exact hb.1 q h9
    · rcases List.mem_append.1 hc with h9 | h9
      · exact ha.2 c h9
      · exact hb.2 c h9
theorem mend_pv {k : Nat} {s : Int} {P : List Str} {K : List (BT k)} {i : Nat} {u : List Bool} (hP : ∀ p ∈ P, p.b.size ≤ 16) (hK : ∀ c ∈ K, PvB k c) : PvB (k + 1) (mendB fan leaf s P K i u).1 := by
  have hj := join_pv (fan := fan) (leaf := leaf) k (pv_getD hK i) (pv_getD hK (i + 1)) (pv_piv hP i)
  unfold mendB
  generalize joinB fan leaf k (K.getD i default) (P.getD i Str.nil) (K.getD (i + 1) default) = r at *
  cases hr : r.2 with
  | none =>
    refine ⟨fun p hp => ?_, fun c hc => ?_⟩
    · rcases List.mem_append.1 hp with h9 | h9
      · exact hP p (List.mem_of_mem_take h9)
      · exact hP p (List.mem_of_mem_drop h9)
    · rcases List.mem_append.1 hc with h9 | h9
      · exact hK c (List.mem_of_mem_take h9)
      · rcases List.mem_append.1 h9 with h9 | h9
        · rw [List.mem_singleton.1 h9]; exact hj.1
        · exact hK c (List.mem_of_mem_drop h9)
  | some w =>
    obtain ⟨w1, w2⟩ := hj.2 w hr
    refine ⟨fun p hp => ?_, fun c hc => ?_⟩
    · rcases List.mem_append.1 hp with h9 | h9
      · exact hP p (List.mem_of_mem_take h9)
      · rcases List.mem_append.1 h9 with h9 | h9
        · rw [List.mem_singleton.1 h9]; exact w1
        · exact hP p (List.mem_of_mem_drop h9)
    · rcases List.mem_append.1 hc with h9 | h9
      · exact hK c (List.mem_of_mem_take h9)
      · rcases List.mem_append.1 h9 with h9 | h9
        · rcases List.mem_cons.1 h9 with h9 | h9
          · rw [h9]; exact hj.1
          · rw [List.mem_singleton.1 h9]; exact w2
        · exact hK c (List.mem_of_mem_drop h9)
theorem rem_pv (hk16 : key.b.size ≤ 16) : ∀ (k : Nat) {y : BT k} (u : List Bool), PvB k y → PvB k (remB fan leaf key k y u).1
  | 0, y, u, h => fun p hp => by
    rcases with_mem (show p ∈ withN (lfR y) key delE from hp) with h9 | h9
    · exact h p h9
    · rw [h9]; exact hk16
  | k + 1, y, u, h => by
    have ih := rem_pv hk16 k u (pv_getD h.2 (routeN (ndP y) key))
    have hs : ∀ c ∈ (ndK y).set (routeN (ndP y) key) (remB fan leaf key k ((ndK y).getD (routeN (ndP y) key) default) u).1, PvB k c := fun c hc => by
      rcases mem_set9 hc with h9 | h9
      · exact h.2 c h9
      · rw [h9]; exact ih
    unfold remB
    split
    · exact mend_pv h.1 hs
    · exact ⟨h.1, hs⟩
theorem rootB_pv {k : Nat} {r : InsT k} (h : Pv9 k r.1) : PvB (rootB r).k (rootB r).y := by
  cases hr : r.1.2 with
  | none => rw [rootB_n hr]; exact h.1
  | some w =>
    rw [rootB_s hr]
    obtain ⟨w1, w2⟩ := h.2 w hr
    refine ⟨fun p hp => by rw [List.mem_singleton.1 hp]; exact w1, fun c hc => ?_⟩
    rcases List.mem_cons.1 hc with h9 | h9
    · rw [h9]; exact h.1
    · rw [List.mem_singleton.1 h9]; exact w2
theorem rootD_pv : ∀ {k : Nat} {y : BT k} {u : List Bool}, PvB k y → PvB (rootD k y u).k (rootD k y u).y
  | 0, y, u, h => h
  | k + 1, y, u, h => by
    by_cases e : (ndK y).length = 1
    · rw [show rootD (k + 1) y u = _ from if_pos e]; exact pv_getD h.2 0
    · rw [show rootD (k + 1) y u = _ from if_neg e]; exact h
theorem put_pv {t : BTr} (hk16 : key.b.size ≤ 16) (h : PvB t.k t.y) : PvB (putT fan leaf key e t).2.k (putT fan leaf key e t).2.y := by
  cases hr : roomT fan leaf key e t
  · rw [putT_f hr]; exact h
  · rw [putT_t hr]; exact rootB_pv (ins_pv hk16 _ _ h)
theorem del_pv {t : BTr} (hk16 : key.b.size ≤ 16) (h : PvB t.k t.y) : PvB (delT fan leaf key t).k (delT fan leaf key t).y := rootD_pv (rem_pv hk16 _ _ h)
theorem dels_pv : ∀ {ps : List Pair} {t : BTr}, (∀ p ∈ ps, p.key.b.size ≤ 16) → PvB t.k t.y → PvB (delsT fan leaf ps t).k (delsT fan leaf ps t).y
  | [], t, _, h => h
  | p :: ps, t, hp, h => dels_pv (ps := ps) (t := delT fan leaf p.key t) (fun q hq => hp q (List.mem_cons_of_mem _ hq)) (del_pv (hp p (List.mem_cons_self ..)) h)
theorem do_pv {t : BTr} {o : Opr} (hT : TOk fan leaf t) (h : PvB t.k t.y) : PvB (doT fan leaf o t).2.k (doT fan leaf o t).2.y := by
  by_cases hR : o.R
  · have hk := hR.1.2.2.1
    by_cases h5 : o.kind = 5
    · rw [doT_5 hR h5]; exact h
    · by_cases h6 : o.kind = 6
      · rw [doT_6 hR h6]; exact h
      · by_cases h4 : o.kind = 4
        · rw [doT_4 hR h4]
          exact dels_pv (fun p hp => ((pairsR_iff.1 hT.rows).1 p (List.mem_filter.1 (List.mem_of_mem_take hp)).1).1) h
        · by_cases h3 : o.kind = 3
          · rw [doT_3 hR h3]; exact del_pv hk h
          · rw [doT_p hR h5 h6 h4 h3]; exact put_pv hk h
  · rw [doT_0 hR]; exact h
theorem nds_pv : ∀ (k : Nat) {y : BT k}, PvB k y → ∀ n ∈ nds k y, ∀ p ∈ n.P, p.b.size ≤ 16
  | 0, y, h, n, hn => by
    rw [List.mem_singleton.1 (show n ∈ [ndB 0 y] from hn)]
    intro p hp; cases hp
  | k + 1, y, h, n, hn => by
    rw [nds_succ] at hn
    rcases List.mem_cons.1 hn with h9 | h9
    · rw [h9]; exact h.1
    · obtain ⟨c, hc, h8⟩ := List.mem_flatMap.1 h9
      exact nds_pv k (h.2 c hc) n h8
theorem nds_size (hf : fan ≤ 64) (hl : leaf ≤ 64) : ∀ (k : Nat) {y : BT k} {lo : Int} {s : Span}, s.norm = s → BT.ok fan leaf k lo (mxB fan leaf k) s y → ∀ n ∈ nds k y, n.K.length ≤ 64 ∧ n.P.length ≤ 64 ∧ n.R.length ≤ 64 ∧ (∀ p ∈ n.R, p.key.b.size ≤ 16 ∧ p.val.b.size ≤ 16) ∧ 0 ≤ n.lvl ∧ n.lvl ≤ k
  | 0, y, lo, s, hs, h, n, hn => by
    rw [List.mem_singleton.1 (show n ∈ [ndB 0 y] from hn)]
    have h2 : ((lfR y).length : Int) ≤ leaf := h.1.2
    exact ⟨Nat.zero_le _, Nat.zero_le _, by show (lfR y).length ≤ 64; omega, fun p hp => (pairsR_iff.1 h.2.1).1 p hp, Int.le_refl _, Int.le_refl _⟩
  | k + 1, y, lo, s, hs, h, n, hn => by
    have hlen := h.2.len
    rw [nds_succ] at hn
    rcases List.mem_cons.1 hn with h9 | h9
    · rw [h9]
      have h2 : ((ndK y).length : Int) ≤ fan := h.1.2
      refine ⟨by show (List.map _ _).length ≤ 64; rw [List.length_map]; omega, by show (ndP y).length ≤ 64; omega, Nat.zero_le _, (fun p hp => absurd (show p ∈ ([] : List Pair) from hp) List.not_mem_nil), ?_, ?_⟩
      · rw [ndB_lvl]; omega
      · rw [ndB_lvl]; exact Int.le_refl _
    · obtain ⟨c, hc, h8⟩ := List.mem_flatMap.1 h9
      obtain ⟨j, hj, rfl⟩ := List.getElem_of_mem hc
      obtain ⟨u, hj2, u1, u2, u3, _⟩ := h.2.at hs (i := j) (by omega)
      obtain ⟨a1, a2, a3, a4, a5, a6⟩ := nds_size hf hl k u1 u3 n h8
      exact ⟨a1, a2, a3, a4, a5, by omega⟩
end
section
variable {fan leaf : Int} {t : BTr}
theorem TOk.mem_nd (h : TOk fan leaf t) {n : Nd} (hn : n ∈ ndsN t) : ∃ b ∈ nds t.k t.y, n = toNd b := by
  obtain ⟨b, hb, e⟩ := List.mem_map.1 (h.ndsP.mem_iff.1 hn)
  exact ⟨b, hb, e.symm⟩
theorem TOk.sml (h : TOk fan leaf t) (hp : PvB t.k t.y) : Sml (ndsN t) := by
  have hc := h.cfg
  refine ⟨?_, fun n hn => ?_⟩
  · rw [← h.used]
    have := free_used t.u
    have := h.len
    omega
  · obtain ⟨b, hb, rfl⟩ := h.mem_nd hn
    obtain ⟨a1, a2, a3, a4, _⟩ := nds_size hc.2.1 hc.2.2.2 t.k allS_norm h.ok b hb
    have a6 := nds_pv t.k hp b hb
    exact ⟨by show b.K.length ≤ 4000; omega, by show b.P.length ≤ 4000; omega, Nat.zero_le _, by show b.R.length ≤ 4000; omega, by show Str.nil.b.size ≤ 4000; decide, (fun m hm => absurd (show m ∈ ([] : List Msg) from hm) List.not_mem_nil),
      (fun p hp => by have := a6 p hp; omega), fun p hp => (by have := a4 p hp; omega)⟩
theorem TOk.nodes (h : TOk fan leaf t) : (nds t.k t.y).length ≤ 2 * t.rows.length + 1 := by
  have hc := h.cfg
  have hok := h.ok
  obtain ⟨k, y, u⟩ := t
  cases k with
  | zero => show 1 ≤ _; omega
  | succ k =>
    have h1 : (nds (k + 1) y).length + 1 ≤ 2 * (BT.rows (k + 1) y).length := nds_rows hc.1 hc.2.2.1 (k + 1) allS_norm hok (by rw [if_neg (by omega)]; show (2 : Int) ≤ if k + 1 = 0 then 0 else 2; rw [if_neg (by omega)]; exact Int.le_refl _)
    show (nds (k + 1) y).length ≤ 2 * (BT.rows (k + 1) y).length + 1
    omega
theorem TOk.high9 (h : TOk fan leaf t) : t.k < (nds t.k t.y).length := nds_gt allS_norm h.ok
end
section
variable {fan leaf : Int} {t : BTr}
theorem TOk.slot_nd (h : TOk fan leaf t) {s : Int} (hs : s ∈ usedN t.u) : ∃ n ∈ nds t.k t.y, n.slot = s := by
  obtain ⟨n, hn, e⟩ := List.mem_map.1 (h.all s (mem_used.1 hs))
  exact ⟨n, hn, e⟩
theorem TOk.nd_range (h : TOk fan leaf t) {n : BNd} (hn : n ∈ nds t.k t.y) : i64 n.slot ∧ i64 n.lvl ∧ n.K.length ≤ 64 ∧ n.P.length ≤ 64 ∧ n.R.length ≤ 64 := by
  have hc := h.cfg
  obtain ⟨a1, a2, a3, a4, a5, a6⟩ := nds_size hc.2.1 hc.2.2.2 t.k allS_norm h.ok n hn
  obtain ⟨b1, b2, _⟩ := hasN_lt (h.us n hn)
  have h1 := h.len
  have h2 := h.high
  exact ⟨⟨by omega, by omega⟩, ⟨by omega, by omega⟩, a1, a2, a3⟩
abbrev ndE (t : BTr) (s : Int) : Nd := toNd (atB (nds t.k t.y) s)
theorem nds_take (h : TOk fan leaf t) {k : Nat} (hk : k < (usedN t.u).length) {n : BNd} (hn : n ∈ nds t.k t.y) (es : n.slot = (usedN t.u)[k]) :
    ((usedN t.u).take k).map (ndE t) ++ [{ toNd n with slot := (usedN t.u)[k] }] = ((usedN t.u).take (k + 1)).map (ndE t) := by
  rw [List.take_succ_eq_append_getElem hk, List.map_append, List.map_cons, List.map_nil]
  congr 1
  unfold ndE
  rw [← es, atB_mem h.nd hn]; rfl
end
end Go.Fw
namespace Go.Proofs.YtemoalimclnfkaaGreat
open Go Go.Fw Go.RowKit
attribute [local irreducible] Ok W WC
theorem clonei3_fc {G : GH} {v_a : Value} {a : List Int} (h_a : SlR eInt G v_a a) :
    Fc Tryz.prog 46 [v_a] G [] (fun v G' M' => M' = [] ∧ ∃ u0, v = u0 ∧ SlR eInt G' u0 (a)) := by
 obtain ⟨sa_a, sc_a, rfl⟩ := h_a.form
 have ha := h_a.bytes
 refine Fc.go [.tmp 2] Tryz.func46 Tryz.ntmps46 rfl (fun w0 => (g9 9 ?_))
 refine W.ok (ok_eqlNil sl55 rfl rfl) (g9 2 ?_)
 refine WC.cond rfl (fun h4 => ?_) (fun h4 => ?_)
 ·have hn := SlR.isNone h_a h4
  subst hn
  refine g9 8 ?_
  refine ⟨rfl, _, rfl, ?_⟩
  · exact SlR.nil
 refine g9 4 ?_
 refine W.lit0 (e := eInt) sl55 ty3 zr3 rfl (fun v8 Ms9 ho10 => (W.mv (W.app (e := eInt) sl55 ty3 zr3 rfl by3 rfl rfl (ho10) (h_a) pr9 (by simpa using ha) (fun v11 Ms12 ho13 => (g9 3 ?_)))))
 refine WC.giveO ho13 pr9 (fun G14 hG14 hv14 => (g9 2 ?_))
 refine ⟨rfl, _, rfl, ?_⟩
 · exact hv14

theorem bpnodes_fc {G : GH} {b_t : Nat} {fan leaf : Int} {t : BTr} {Ms_t : MH} (h_t : BpM (fun ba => ArR ePt 64 4 3 114 ba) 66 70 9 b_t fan leaf G t Ms_t)  (hT : TOk fan leaf t) :
    Fc Tryz.prog 18 [pt9 b_t] G Ms_t (fun v G' M' => SlR eNode G' v (ndsN t) ∧ BpM (fun ba => ArR ePt 64 4 3 114 ba) 66 70 9 b_t fan leaf G' t M') := by
 obtain ⟨ba_t, root_t, cells_t, hr_t, hm_t, hv_t, hn_t⟩ := bpm_all h_t
 have hul9 := hT.len
 have hfu9 := free_used t.u
 refine Fc.go [.tmp 2] Tryz.func18 Tryz.ntmps18 rfl (fun w0 => (WC.perm (M' := (Ms_t ++ [])) (by simp) (g9 14 ?_)))
 refine W.ok (ok_eqlPN pp27 rfl rfl) (g9 11 ?_)
 refine W.ok (ok_loadM (vs := [.pointer _]) ((List.sublist_append_left _ _).subset hm_t) ty61 rfl rfl rfl (by simp)) (W.call (Mp := Ms_t ++ []) (Mr := []) (Fc.lend (Ml := Ms_t) (Q := fun v Mq => ∀ G9, OwnR eInt 3 G9 v (usedN t.u) Mq) cl44 fun G1 h1 h2 => (glistp_fc (hv_t G1 h1 h2).1).mono fun v G2 M2 l2 h3 G9 => flat_int.own h3) rfl (of_mq (show mq ((Ms_t ++ []) ++ []) = mq (Ms_t ++ []) by first | (simp only [mq_app, mq_cons, mq_zero]; done) | (simp only [mq_app, mq_cons, mq_zero]; ac_rfl))) ?_)
 intro v4 G1 Ms3 hG1 q2
 refine match q2 with | ⟨Mq_l5, e_6, hL_l5⟩ => ?_
 subst e_6
 refine W.perm (M' := (Mq_l5 ++ (Ms_t ++ []))) (of_mq (show mq (Mq_l5 ++ (Ms_t ++ [])) = mq ((Ms_t ++ Mq_l5) ++ []) by first | (simp only [mq_app, mq_cons, mq_zero]; done) | (simp only [mq_app, mq_cons, mq_zero]; ac_rfl))) ?_
 have hq_l5 : OwnR eInt 3 G1 v4 (usedN t.u) Mq_l5 := hL_l5 G1
 have q10 := hq_l5.form
 refine match q10 with | ⟨sa7, sc8, e_9⟩ => ?_
 subst e_9
 refine W.giveO hq_l5 pr9 (fun G11 hG11 hv11 => (g9 5 ?_))
 refine WC.loop (X := (Nat × List Nd) × Value × MH) (fun x => [(15, nt9 x.1.1), (0, pt9 b_t), (13, lV sa7 (usedN t.u).length sc8), (14, nt9 (((usedN t.u)).length)), (3, x.2.1)]) (fun x G Ml => Ml = (x.2.2 ++ (Ms_t ++ [])) ∧ OwnR eNode 58 G x.2.1 (x.1.2) x.2.2 ∧ x.1.1 ≤ (usedN t.u).length ∧ x.1.2 = ((usedN t.u).take x.1.1).map (ndE t)) (fun x => (usedN t.u).length - x.1.1) (((0, []) : Nat × List Nd), lV none 0 0, ([] : MH)) hs9 ?_ ?_
 ·exact ⟨rfl, (by exact OwnR.nil), Nat.zero_le _, rfl⟩
 rintro ⟨⟨k, out⟩, v_3, M_3⟩ gG12 G12 _ hG12 ⟨rfl, ho_3, hk, hout⟩
 try dsimp only at ho_3 hk hout
 refine WC.fr (f := setL gG12 [(15, nt9 k), (0, pt9 b_t), (13, lV sa7 (usedN t.u).length sc8), (14, nt9 (((usedN t.u)).length)), (3, v_3)]) rfl (g9 6 ?_)
 refine WC.cd (fun h16 p16 => ?_) (fun h16 p16 => ?_)
 ·refine g9 6 ?_
  refine (hv11.mono hG12).a2 (i := (k)) om9 (fun he13 hi14 => (W.ok (ok_indexAddr (i := (k)) sl55 ty3 (hv11.mono hG12) rfl rfl ⟨om9, om9⟩) (g9 8 ?_)))
  have hk9 : k < (usedN t.u).length := by omega
  have q17 := hT.slot_nd (List.getElem_mem hk9)
  refine match q17 with | ⟨n9, hn9, es9⟩ => ?_
  have q18 := hn_t n9 hn9
  refine match q18 with | ⟨b_r, vp_r, vk_r, vr_r, Mp_r, hb_r, hm_r, hs_r, hp_r, hk_r, hr_r⟩ => ?_
  rw [es9] at hb_r
  have hu_r := hT.us n9 hn9
  rw [es9] at hu_r
  have hrg9 := hT.nd_range hn9
  refine W.lendQ (fun G1 hl1 hn1 => bat_fc (hv_t _ (Le.trans lec hl1) (sub_of ((List.sublist_append_left _ _).trans (List.sublist_append_right _ _)) hn1)).1 _ b_r hb_r hu_r) cl43 rfl ?_
  have q20 := hp_r.form
  refine match q20 with | ⟨_, _, e_19⟩ => ?_
  subst e_19
  have q22 := hk_r.form
  refine match q22 with | ⟨_, _, e_21⟩ => ?_
  subst e_21
  have q24 := hr_r.form
  refine match q24 with | ⟨_, _, e_23⟩ => ?_
  subst e_23
  refine g9 3 ?_
  refine WC.dw (sr9.trans (List.sublist_append_right M_3 _)) (d9 [0, 1, 2, 3, 4] ?_)
  refine WD.tk 5 rfl (ok_loadM (vs := ic9) ((List.sublist_append_left _ _).subset hm_r) ty3 rfl rfl rfl (by simp)) (d9 [6, 7, 8] ?_)
  refine WD.tk 9 rfl (ok_loadM (vs := lc9) ((List.sublist_append_left _ _).subset hm_r) ty54 rfl rfl rfl (by simp)) (d9 [11, 12, 13] ?_)
  refine WD.tk 14 rfl (ok_loadM (vs := lc9) ((List.sublist_append_left _ _).subset hm_r) ty55 rfl rfl rfl (by simp)) (d9 [16, 17, 18] ?_)
  refine WD.tk 19 rfl (ok_loadM (vs := lc9) ((List.sublist_append_left _ _).subset hm_r) ty31 rfl rfl rfl (by simp)) (WD.a1 10 rfl (W.call (Mp := Ms_t ++ []) (Mr := (M_3 ++ [])) (lendclone hs_r (hp_r.mono lec)) rfl (of_mq (show mq ((Ms_t ++ []) ++ (M_3 ++ [])) = mq (M_3 ++ (Ms_t ++ [])) by first | (simp only [mq_app, mq_cons, mq_zero]; done) | (simp only [mq_app, mq_cons, mq_zero]; ac_rfl))) ?_))
  intro v28 G25 Ms27 hG25 q26
  refine match q26 with | ⟨Mq_l29, e_30, hL_l29⟩ => ?_
  subst e_30
  refine W.perm (M' := (Mq_l29 ++ (M_3 ++ (Ms_t ++ [])))) (of_mq (show mq (Mq_l29 ++ (M_3 ++ (Ms_t ++ []))) = mq ((Ms_t ++ Mq_l29) ++ (M_3 ++ [])) by first | (simp only [mq_app, mq_cons, mq_zero]; done) | (simp only [mq_app, mq_cons, mq_zero]; ac_rfl))) ?_
  have hq_l29 : OwnR eStr 9 G25 v28 n9.P Mq_l29 := hL_l29 G25
  have q34 := hq_l29.form
  refine match q34 with | ⟨sa31, sc32, e_33⟩ => ?_
  subst e_33
  refine W.giveO hq_l29 pr9 (fun G35 hG35 hv35 => (W.nil (WD.n9 lec (sr9.trans (List.sublist_append_right M_3 _)) (WD.a1 15 rfl (W.cS (clonei3_fc (hk_r.mono lec)) rfl (fun sa_hv37 sc_hv37 G36 hG36 hv37 => (W.nil (WD.n9 hG36 (sr9.trans (List.sublist_append_right M_3 _)) (WD.a1 20 rfl (W.cS (clonep_fc (hr_r.mono lec)) rfl (fun sa_hv44 sc_hv44 G43 hG43 hv44 => (W.nil (WD.n9 hG43 (sr9.trans (List.sublist_append_right M_3 _)) (WD.tk 21 rfl (ok_build (L := [iV _, iV _, lV _ _ _, lV _ _ _, sV _, .bool _, iV _, iV _, lV _ _ _, lV _ _ _]) pl58 zr58 rfl rfl rfl) (WD.a1 22 rfl (W.lit (e := eNode) (l := [({ toNd n9 with slot := (usedN t.u)[k]'hk9 } : Nd)]) (css := [[iV _, iV _, lV _ _ _, lV _ _ _, sV _, .bool _, iV _, iV _, lV _ _ _, lV _ _ _]]) sl47 ty58 zr58 rfl rfl rfl rfl rfl rfl ⟨⟨_, _, _, _, _, _, _, _, rfl, (hv35.mono lec), (hv37.mono hG43), SlR.nil, hv44, ⟨by rw [← es9]; exact hrg9.1, hrg9.2.1, (⟨by decide, by decide⟩ : i64 (-1)), (⟨by decide, by decide⟩ : i64 0)⟩⟩, trivial⟩ (fun bl50 G50 hG50 hv50 => (W.nil (WD.n9 hG50 (sr9.trans (List.sublist_append_right M_3 _)) (WD.a1 23 rfl (W.app (e := eNode) sl47 ty58 zr58 rfl by58 rfl rfl ((ho_3.mono lec)) (hv50) pr9 (by show (List.length _ + 1) * 152 ≤ _; rw [hout, List.length_map, List.length_take]; omega) (fun v51 Ms52 ho53 => ?_))))))))))))))))))))))
  refine W.nil (WD.n9 Le.rfl (sr9.trans (List.sublist_append_right Ms52 _)) (d9 [24] ?_))
  refine WD.done (by kernel_rfl) (blk_n (thn_n (g9 5 ?_)))
  exact ⟨lec, (((k + 1, out ++ [({ toNd n9 with slot := (usedN t.u)[k]'hk9 } : Nd)]) : Nat × List Nd), v51, Ms52), hs9, ⟨rfl, (by exact ho53), by dsimp only; omega, by dsimp only at hout ⊢; rw [hout]; exact nds_take hT hk9 hn9 es9⟩, by dsimp only; omega⟩
 refine g9 11 ?_
 refine WC.giveO ho_3 pr9 (fun G54 hG54 hv54 => (WC.ret ?_))
 refine ⟨.inr rfl, [_], ⟨rfl, trivial⟩, Ms_t, List.sublist_append_left _ _, ?_⟩
 exact ⟨SlR.cast hv54 (by rw [hout, List.take_of_length_le om9]; rfl), (bpM.mono lec h_t)⟩

end Go.Proofs.YtemoalimclnfkaaGreat
namespace Go.Fw
open Go Go.RowKit
section
variable {fan leaf : Int} {key : Str} {e : Eff}
theorem spl_ulen {k : Nat} {s : Int} {P : List Str} {K : List (BT k)} {u : List Bool} : (splB fan s P K u).2.length = u.length := by
  unfold splB
  split
  · rfl
  · exact List.length_set ..
theorem ins_ulen : ∀ (k : Nat) {y : BT k} (u : List Bool), (insB fan leaf key e k y u).2.length = u.length
  | 0, y, u => by
    by_cases h5 : ((withN (lfR y) key e).length : Int) ≤ leaf
    · rw [insB_0t h5]
    · rw [insB_0f h5]; exact List.length_set ..
  | k + 1, y, u => by
    have ih := ins_ulen k (y := (ndK y).getD (routeN (ndP y) key) default) u
    show (upB fan y (routeN (ndP y) key) (insB fan leaf key e k ((ndK y).getD (routeN (ndP y) key) default) u)).2.length = _
    generalize insB fan leaf key e k ((ndK y).getD (routeN (ndP y) key) default) u = r at *
    unfold upB
    cases hr : r.1.2 with
    | none => exact ih
    | some w => exact spl_ulen.trans ih
theorem mend_ulen {k : Nat} {s : Int} {P : List Str} {K : List (BT k)} {i : Nat} {u : List Bool} : (mendB fan leaf s P K i u).2.length = u.length := by
  unfold mendB
  split
  · exact List.length_set ..
  · rfl
theorem rem_ulen : ∀ (k : Nat) {y : BT k} (u : List Bool), (remB fan leaf key k y u).2.length = u.length
  | 0, y, u => rfl
  | k + 1, y, u => by
    have ih := rem_ulen k (y := (ndK y).getD (routeN (ndP y) key) default) u
    unfold remB
    split
    · exact mend_ulen.trans ih
    · exact ih
theorem rootD_ulen : ∀ {k : Nat} {y : BT k} {u : List Bool}, (rootD k y u).u.length = u.length
  | 0, y, u => rfl
  | k + 1, y, u => by
    by_cases e : (ndK y).length = 1
    · rw [show rootD (k + 1) y u = _ from if_pos e]; exact List.length_set ..
    · rw [show rootD (k + 1) y u = _ from if_neg e]
theorem put_ulen {t : BTr} : (putT fan leaf key e t).2.u.length = t.u.length := by
  cases hr : roomT fan leaf key e t
  · rw [putT_f hr]
  · rw [putT_t hr]
    show (rootB (insB fan leaf key e t.k t.y t.u)).u.length = _
    have h9 := ins_ulen (fan := fan) (leaf := leaf) (key := key) (e := e) t.k (y := t.y) t.u
    cases hs : (insB fan leaf key e t.k t.y t.u).1.2 with
    | none => rw [rootB_n hs]; exact h9
    | some w => rw [rootB_s hs]; exact (List.length_set ..).trans h9
theorem del_ulen {t : BTr} : (delT fan leaf key t).u.length = t.u.length := rootD_ulen.trans (rem_ulen _ _)
theorem dels_ulen : ∀ {ps : List Pair} {t : BTr}, (delsT fan leaf ps t).u.length = t.u.length
  | [], t => rfl
  | p :: ps, t => (dels_ulen (ps := ps) (t := delT fan leaf p.key t)).trans del_ulen
theorem do_ulen {t : BTr} {o : Opr} : (doT fan leaf o t).2.u.length = t.u.length := by
  by_cases hR : o.R
  · by_cases h5 : o.kind = 5
    · rw [doT_5 hR h5]
    · by_cases h6 : o.kind = 6
      · rw [doT_6 hR h6]
      · by_cases h4 : o.kind = 4
        · rw [doT_4 hR h4]; exact dels_ulen
        · by_cases h3 : o.kind = 3
          · rw [doT_3 hR h3]; exact del_ulen
          · rw [doT_p hR h5 h6 h4 h3]; exact put_ulen
  · rw [doT_0 hR]
end
structure BpK (fan leaf slots : Int) (t : BTr) : Prop where
  ok : TOk fan leaf t
  pv : PvB t.k t.y
  len : (t.u.length : Int) = slots
section
variable {fan leaf slots : Int} {t : BTr} {o : Opr}
theorem BpK.do (h : BpK fan leaf slots t) : BpK fan leaf slots (doT fan leaf o t).2 := ⟨(do_ok h.ok).1, do_pv h.ok h.pv, by rw [do_ulen]; exact h.len⟩
theorem do_err {l : List Pair} : (doN l o).2.err ≠ 4 := by
  unfold doN
  split
  · show (3 : Int) ≠ 4; decide
  · split
    · show (0 : Int) ≠ 4; decide
    · split <;> (show (0 : Int) ≠ 4; decide)
theorem need_kk {key : Str} {k : Nat} {y : BT k} : needT fan leaf key k y ≤ k + 2 := by
  unfold needT
  have h1 := need_le ((pathB key k y).map (fulN fan leaf))
  rw [List.length_map, pathB_len] at h1
  exact h1
theorem BpK.full (h : BpK fan leaf slots t) (he : (doT fan leaf o t).1.err = 4) :
    doT fan leaf o t = (⟨4, false, Str.nil, []⟩, t) ∧ (doN t.rows o).2.err = 0 ∧ (o.kind = 1 ∨ o.kind = 2) ∧ (getN t.rows o.key).isSome = false ∧ slots - ((usedN t.u).length : Int) < (t.k : Int) + 1 + 1 := by
  rcases (do_ok (o := o) h.ok).2 with ⟨h1, h2, h3, h4⟩ | ⟨h1, _⟩
  · refine ⟨h1, ?_, h3, ?_, ?_⟩
    · rw [doN_t h2 (by omega) (by omega)]
    · unfold roomT at h4
      rw [Bool.or_eq_false_iff] at h4
      obtain ⟨g1, g2, g3⟩ := leafB_ok (fan := fan) (leaf := leaf) (key := o.key) allS_norm (allS_has o.key) h.ok.ok
      cases hs : (getN t.rows o.key).isSome
      · rfl
      · exfalso
        have h6 := h4.1
        unfold fitsN at h6
        rw [g3, hs] at h6
        cases h6
    · unfold roomT at h4
      rw [Bool.or_eq_false_iff] at h4
      have h5 := of_decide_eq_false h4.2
      have h6 := need_kk (fan := fan) (leaf := leaf) (key := o.key) (k := t.k) (y := t.y)
      have h7 := free_used t.u
      have h8 := h.len
      omega
  · exfalso
    rw [h1] at he
    exact do_err he
theorem BpK.fine (h : BpK fan leaf slots t) (he : ¬ (doT fan leaf o t).1.err = 4) : (doT fan leaf o t).1 = (doN t.rows o).2 ∧ (doT fan leaf o t).2.rows = (doN t.rows o).1 := by
  rcases (do_ok (o := o) h.ok).2 with ⟨h1, _⟩ | h1
  · exact absurd (by rw [h1]) he
  · exact h1
theorem BpK.room {n i : Nat} (h : BpK fan leaf (4 * (n : Int) + 8) t) (hi : i ≤ n) (hr : t.rows.length ≤ i) : ¬ (doT fan leaf o t).1.err = 4 := fun he => by
  have h1 := (h.full he).2.2.2.2
  have h2 := h.ok.nodes
  have h3 := h.ok.high9
  have h4 := h.ok.count
  omega
/-! ## A new tree -/
def newT (n : Nat) : BTr := ⟨0, mkL (firstN (List.replicate n false) : Int) [], (List.replicate n false).set (firstN (List.replicate n false)) true⟩
theorem new_first {n : Nat} (hn : 1 ≤ n) : firstN (List.replicate n false) < (List.replicate n false).length := by
  rcases Nat.lt_or_ge (firstN (List.replicate n false)) (List.replicate n false).length with h | h
  · exact h
  · exfalso
    have h1 := firstN_end (Nat.le_antisymm (firstN_le _) h) 0 (by rw [List.length_replicate]; omega)
    rw [List.getElem_replicate] at h1
    cases h1
theorem new_k {n : Nat} (hn : 1 ≤ n ∧ n ≤ 4096) (hc : 4 ≤ fan ∧ fan ≤ 64 ∧ 2 ≤ leaf ∧ leaf ≤ 64) : BpK fan leaf (n : Int) (newT n) ∧ (newT n).rows = [] := by
  have hu := new_one (new_first hn.1)
  have hns : ∀ s, hasN (List.replicate n false) s = false := fun s => by
    cases h : hasN (List.replicate n false) s
    · rfl
    · obtain ⟨k, hk, _, h2⟩ := hasN_iff.1 h
      rw [List.getElem_replicate] at h2
      cases h2
  refine ⟨⟨⟨⟨⟨Int.le_refl _, by show ((0 : Nat) : Int) ≤ leaf; omega⟩, pairsR_iff.2 ⟨fun p hp => (by cases hp), List.Pairwise.nil⟩, fun p hp => (by cases hp)⟩, fun m hm => ?_, (by show [_].Nodup; simp), fun s hs => ?_, ?_, hc⟩, fun p hp => (by cases hp), ?_⟩, rfl⟩
  · rw [List.mem_singleton.1 (show m ∈ [ndB 0 (mkL (firstN (List.replicate n false) : Int) [])] from hm)]
    exact (hu.iff _).2 (.inr (List.mem_singleton.2 rfl))
  · rcases (hu.iff s).1 hs with h9 | h9
    · rw [hns s] at h9; cases h9
    · exact h9
  · show (List.set _ _ _).length ≤ 4096
    rw [List.length_set, List.length_replicate]; exact hn.2
  · show ((List.set _ _ _).length : Int) = _
    rw [List.length_set, List.length_replicate]
def putsT (fan leaf : Int) (L : List Str) (t : BTr) : BTr := L.foldl (fun t s => (doT fan leaf ⟨1, s, Str.nil, false, s, 0⟩ t).2) t
/-! ## Too few nodes, or too many -/
theorem more_bad {c : Cfg} {l : List Nd} {r : Int} {i : Nat} (hi : i < l.length) : ¬ Good17 c r (l ++ [l[i]]) := fun h => by
  have h1 := h.nd
  unfold SlotsNd at h1
  rw [List.map_append, List.nodup_append] at h1
  exact h1.2.2 _ (List.mem_map_of_mem (f := fun n : Nd => n.slot) (List.getElem_mem hi)) _ (List.mem_singleton.2 rfl) rfl
theorem wf_nodes {c : Cfg} {l L : List Nd} (hsub : ∀ n ∈ l, n ∈ L) (hL : SlotsNd L) : ∀ (k : Nat) {y : BT k} {x : Seat} {top : Bool}, x.n = toNd (ndB k y) → wfF c l k top x → (∀ n ∈ nds k y, toNd n ∈ L) → ∀ n ∈ ndT k y, toNd n ∈ l
  | 0, y, x, top, hx, hw, hin, n, hn => by cases hn
  | k + 1, y, x, top, hx, hw, hin, n, hn => by
    obtain ⟨h1, h2, h3, h4⟩ := hw
    obtain ⟨z, hz, hn⟩ := List.mem_flatMap.1 hn
    obtain ⟨j, hj, rfl⟩ := List.getElem_of_mem hz
    have hkl : x.n.kids = (ndK y).map BT.slot := by rw [hx]; rfl
    have hj2 : j < x.n.kids.length := by rw [hkl, List.length_map]; exact hj
    have hks : kidsD l x = kidsF l x x.n.kids.length ∧ ∀ j, j < x.n.kids.length → kidOk l x j = true := by
      rw [kidsD]
      unfold kidsO at h2 ⊢
      rw [if_neg (by omega)] at h2 ⊢
      split at h2
      · cases h2
      · split at h2
        · rename_i q1 q2
          rw [if_neg q1, if_pos q2]
          exact ⟨rfl, fun j hj => List.all_eq_true.1 q2 j (List.mem_range.2 hj)⟩
        · cases h2
    have hok := hks.2 j hj2
    unfold kidOk at hok
    rw [Bool.and_eq_true] at hok
    obtain ⟨f1, f2⟩ := find_slot hok.1
    have hsl : x.n.kids.getD j 0 = (ndK y)[j].slot := by
      rw [List.getD_eq_getElem?_getD, List.getElem?_eq_getElem hj2]
      show x.n.kids[j] = _
      simp only [hkl, List.getElem_map]
    have hkin : toNd (ndB k (ndK y)[j]) ∈ L := hin _ (nds_kid (List.getElem_mem hj) nds_head)
    have heq : (findN l (x.n.kids.getD j 0)).1 = toNd (ndB k (ndK y)[j]) := nd_map hL (hsub _ f2) hkin (by rw [f1, hsl]; exact ndB_slot.symm)
    rcases List.mem_cons.1 hn with h9 | h9
    · rw [h9, ← heq]; exact f2
    · exact wf_nodes hsub hL k (x := kidSt l x j) heq (h4 _ (by rw [hks.1]; exact List.mem_map.2 ⟨j, List.mem_range.2 hj2, rfl⟩)) (fun m hm => hin m (nds_kid (List.getElem_mem hj) hm)) n h9
theorem BpK.fewer (h : BpK fan leaf slots t) {c : Cfg} {i : Nat} (hi : i < (ndsN t).length) : ¬ Good17 c t.y.slot ((ndsN t).take i ++ (ndsN t).drop (i + 1)) := fun hg => by
  have hL := h.ok.ndN
  have hsub : ∀ n ∈ (ndsN t).take i ++ (ndsN t).drop (i + 1), n ∈ ndsN t := fun n hn => by
    rcases List.mem_append.1 hn with h9 | h9
    · exact List.mem_of_mem_take h9
    · exact List.mem_of_mem_drop h9
  have hin : ∀ n ∈ nds t.k t.y, toNd n ∈ ndsN t := fun n hn => h.ok.ndsP.mem_iff.2 (List.mem_map_of_mem hn)
  obtain ⟨f1, f2⟩ := find_slot hg.found
  have heq : (findN ((ndsN t).take i ++ (ndsN t).drop (i + 1)) t.y.slot).1 = toNd (ndB t.k t.y) := nd_map hL (hsub _ f2) (hin _ nds_head) (by rw [f1]; exact ndB_slot.symm)
  have hlv : (findN ((ndsN t).take i ++ (ndsN t).drop (i + 1)) t.y.slot).1.level.toNat = t.k := by
    rw [heq]; show (ndB t.k t.y).lvl.toNat = _; rw [ndB_lvl]; omega
  have hw := hg.wf
  rw [hlv] at hw
  have hall : ∀ n ∈ nds t.k t.y, toNd n ∈ (ndsN t).take i ++ (ndsN t).drop (i + 1) := fun n hn => by
    rcases List.mem_cons.1 hn with h9 | h9
    · rw [h9, ← heq]; exact f2
    · exact wf_nodes hsub hL t.k (x := rootS _ t.y.slot) heq hw hin n h9
  obtain ⟨b, hb, e⟩ := h.ok.mem_nd (List.getElem_mem hi)
  have h1 := hall b hb
  rw [← e] at h1
  have h2 : ∀ j (hj : j < (ndsN t).length), j ≠ i → (ndsN t)[j] ≠ (ndsN t)[i] := fun j hj hne e => by
    have h3 := List.pairwise_iff_getElem.1 hL
    rcases Nat.lt_or_gt_of_ne hne with h4 | h4
    · exact h3 j i (by rw [List.length_map]; exact hj) (by rw [List.length_map]; exact hi) h4 (by rw [List.getElem_map, List.getElem_map, e])
    · exact h3 i j (by rw [List.length_map]; exact hi) (by rw [List.length_map]; exact hj) h4 (by rw [List.getElem_map, List.getElem_map, e])
  rcases List.mem_append.1 h1 with h9 | h9
  · obtain ⟨j, hj, e2⟩ := List.getElem_of_mem h9
    rw [List.length_take] at hj
    rw [List.getElem_take] at e2
    exact h2 j (by omega) (by omega) e2
  · obtain ⟨j, hj, e2⟩ := List.getElem_of_mem h9
    rw [List.length_drop] at hj
    rw [List.getElem_drop] at e2
    exact h2 _ (by omega) (by omega) e2
end
end Go.Fw
namespace Go.Proofs.YtemoalimclnfkaaGreat
open Go Go.Fw Go.RowKit
attribute [local irreducible] Ok W WC
theorem bpnew_fc {G : GH} (cfan : Int) (cleaf : Int) (cbud : Int) (cslots : Int) (crest : Int) :
    Fc Tryz.prog 8 [.agg #[iV cfan, iV cleaf, iV cbud, iV cslots, iV crest]] G [] (fun v G' M' => (¬ (4 ≤ cfan ∧ cfan ≤ 64 ∧ 2 ≤ cleaf ∧ cleaf ≤ 64 ∧ 1 ≤ cslots ∧ cslots ≤ 4096) ∧ v = .tuple #[.pointer none, iV 2] ∧ M' = []) ∨ ((4 ≤ cfan ∧ cfan ≤ 64 ∧ 2 ≤ cleaf ∧ cleaf ≤ 64 ∧ 1 ≤ cslots ∧ cslots ≤ 4096) ∧ ∃ b_t, v = .tuple #[pt9 b_t, iV 0] ∧ BpM (fun ba => ArR ePt 64 4 3 114 ba) 66 70 9 b_t cfan cleaf G' (newT cslots.toNat) M')) := by
 refine Fc.go [.tmp 2, .tmp 3] Tryz.func8 Tryz.ntmps8 rfl (fun w0 => (g9 2 ?_))
 refine W.box (L := [iV _, iV _, iV _, iV _, iV _]) rfl rfl (fun b1 => (g9 11 ?_))
 refine W.sd 10 (fun h9 p9 => ?_) (fun h9 p9 => ?_)
 ·refine g9 23 ?_
  refine WC.sub (M' := []) (sr9.cons _) (g9 3 ?_)
  exact .inl ⟨om9, rfl, rfl⟩
 refine g9 8 ?_
 refine W.sd 15 (fun h13 p13 => ?_) (fun h13 p13 => ?_)
 ·refine g9 18 ?_
  refine WC.sub (M' := []) (sr9.cons _) (g9 3 ?_)
  exact .inl ⟨om9, rfl, rfl⟩
 refine g9 8 ?_
 refine W.sd 20 (fun h18 p18 => ?_) (fun h18 p18 => ?_)
 ·refine g9 13 ?_
  refine WC.sub (M' := []) (sr9.cons _) (g9 3 ?_)
  exact .inl ⟨om9, rfl, rfl⟩
 refine g9 9 ?_
 refine WC.cd (fun h23 p23 => ?_) (fun h23 p23 => ?_)
 ·refine g9 6 ?_
  refine WC.sub (M' := []) (sr9.cons _) (g9 3 ?_)
  exact .inl ⟨om9, rfl, rfl⟩
 refine g9 6 ?_
 refine W.call (Mp := []) (snewp_fc cslots) rfl pr9 ?_
 intro v5 G2 Ms4 hG2 q3
 refine Or.elim q3 (fun q6 => ?_) (fun q7 => ?_)
 ·refine match q6 with | ⟨hns9, e_8, e_9⟩ => ?_
  subst e_8
  subst e_9
  refine g9 22 ?_
  refine WC.sub (M' := []) (sr9.cons _) (g9 3 ?_)
  exact .inl ⟨om9, rfl, rfl⟩
 refine match q7 with | ⟨hC, ba, e_10, hA9⟩ => ?_
 subst e_10
 refine W.perm (pmC pr9).symm ?_
 obtain ⟨n9, hn9⟩ : ∃ n, cslots.toNat = n := ⟨_, rfl⟩
 rw [hn9] at hA9
 have hn8 : 1 ≤ n9 ∧ n9 ≤ 4096 := by omega
 refine g9 24 ?_
 refine W.ok (ok_build (L := [.pointer _, iV _, iV _, iV _]) pl66 zr66 rfl rfl rfl) (W.box (L := [.pointer _, iV _, iV _, iV _]) rfl rfl (fun b11 => (g9 7 ?_)))
 refine W.ok (ok_build (L := [iV _, lV _ _ _, lV _ _ _, lV _ _ _]) pl70 zr70 rfl rfl rfl) (W.box (L := [iV _, lV _ _ _, lV _ _ _, lV _ _ _]) rfl rfl (fun b12 => ?_))
 have hlt9 := new_first hn8.1
 refine W.call (Mp := Ms4) (oallocp hA9 b12) rfl (pmC (pmC (pmC pr9))) ?_
 intro v16 G13 Ms15 hG13 q14
 refine match q14 with | ⟨hv_hR17, hR17⟩ => ?_
 refine W.perm (pmC (pmC (pmC pr9))).symm ?_
 rw [nextA_t hlt9] at hv_hR17 hR17
 subst hv_hR17
 try dsimp only at hR17
 refine g9 17 ?_
 refine WC.sub (M' := ((b12, ce9 70 [iV 0, lV none 0 0, lV none 0 0, lV none 0 0]) :: ((b11, ce9 66 [pt9 ba, nt9 (firstN (List.replicate n9 false)), iV cfan, iV cleaf]) :: (Ms15 ++ [])))) ((((List.Sublist.append_left sr9 _).cons _).k9).k9) (WC.perm (M' := ((b11, ce9 66 [pt9 ba, nt9 (firstN (List.replicate n9 false)), iV cfan, iV cleaf]) :: ((b12, ce9 70 [iV 0, lV none 0 0, lV none 0 0, lV none 0 0]) :: (Ms15 ++ [])))) ((((pr9.cons _).trans pr9).cons _).trans ((List.Perm.swap _ _ _).trans (pr9.cons _))) (WC.ret ?_))
 refine ⟨.inr rfl, [_, _], ⟨rfl, rfl, trivial⟩, ((b11, ce9 66 [pt9 ba, nt9 (firstN (List.replicate n9 false)), iV cfan, iV cleaf]) :: ((b12, ce9 70 [iV 0, lV none 0 0, lV none 0 0, lV none 0 0]) :: (Ms15 ++ []))), sr9, ?_⟩
 refine .inr ⟨⟨om9, om9, om9, om9, hC.1, hC.2⟩, _, rfl, ?_⟩
 rw [hn9]
 refine ⟨ba, _, _, Ms15, [(b12, ce9 70 [iV 0, lV none 0 0, lV none 0 0, lV none 0 0])], ?_, rfl, hR17, NsM.pack0 (blk_set (by rw [List.length_replicate]; rw [List.length_replicate] at hlt9; exact hlt9)) OwnR.nil SlR.nil SlR.nil⟩
 refine List.Perm.cons _ ?_
 rw [List.append_nil]
 exact List.perm_append_comm (l₁ := [_])

theorem mk107 : mapIK Tryz.prog 107 = some 58 := by kernel_rfl
theorem mz58 : zvK Tryz.prog 58 = some (.agg #[.int .i64 0, .int .i64 0, .slice none 0 0, .slice none 0 0, .string ⟨#[]⟩, .bool false, .int .i64 0, .int .i64 0, .slice none 0 0, .slice none 0 0]) := by kernel_rfl
theorem mk108 : mapIK Tryz.prog 108 = some 4 := by kernel_rfl
theorem mz4 : zvK Tryz.prog 4 = some (.bool false) := by kernel_rfl

end Go.Proofs.YtemoalimclnfkaaGreat
