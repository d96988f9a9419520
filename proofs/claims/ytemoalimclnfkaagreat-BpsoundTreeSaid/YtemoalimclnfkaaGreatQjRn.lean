/- Trees of rows as nodes behind slots: their nodes, ways, what is full, what a scan gets. Plain Lean; nothing of the program is named here. No condition. -/
import Derived.Test.YtemoalimclnfkaaGreatQjRd
import Derived.Test.YtemoalimclnfkaaGreatQjFt
set_option linter.unusedVariables false
set_option linter.unusedSimpArgs false
set_option linter.unnecessarySimpa false
set_option maxRecDepth 100000
set_option maxHeartbeats 1600000
namespace Go.Fw
open Go Go.RowKit
def ndB : (k : Nat) → BT k → BNd
  | 0, y => ⟨y.slot, 0, [], [], lfR y⟩
  | k + 1, y => ⟨y.slot, ((k + 1 : Nat) : Int), ndP y, (ndK y).map BT.slot, []⟩
def ndT : (k : Nat) → BT k → List BNd
  | 0, _ => []
  | k + 1, y => (ndK y).flatMap fun c => ndB k c :: ndT k c
def nds (k : Nat) (y : BT k) : List BNd := ndB k y :: ndT k y
theorem ndB_slot : ∀ {k : Nat} {y : BT k}, (ndB k y).slot = y.slot
  | 0, _ => rfl
  | _ + 1, _ => rfl
theorem ndB_lvl : ∀ {k : Nat} {y : BT k}, (ndB k y).lvl = (k : Int)
  | 0, _ => rfl
  | _ + 1, _ => rfl
theorem nds_succ {k : Nat} {y : BT (k + 1)} : nds (k + 1) y = ndB (k + 1) y :: (ndK y).flatMap (nds k) := rfl
theorem flatMap_map9 {α β γ : Type} (f : α → List β) (g : β → γ) : ∀ (l : List α), (l.flatMap f).map g = l.flatMap fun a => (f a).map g
  | [] => rfl
  | a :: l => by rw [List.flatMap_cons, List.map_append, flatMap_map9 f g l, List.flatMap_cons]
theorem nds_kid {k : Nat} {y : BT (k + 1)} {c : BT k} (hc : c ∈ ndK y) {n : BNd} (hn : n ∈ nds k c) : n ∈ nds (k + 1) y := by
  rw [nds_succ]
  exact List.mem_cons_of_mem _ (List.mem_flatMap.2 ⟨c, hc, hn⟩)
theorem nds_head {k : Nat} {y : BT k} : ndB k y ∈ nds k y := List.mem_cons_self ..
def fulN (fan leaf : Int) (n : BNd) : Bool := if n.lvl = 0 then decide (leaf ≤ (n.R.length : Int)) else decide (fan ≤ (n.K.length : Int))
def fewN (fan leaf : Int) (n : BNd) : Bool := if n.lvl = 0 then decide ((n.R.length : Int) < leaf / 2) else decide ((n.K.length : Int) < fan / 2)
def pathB (key : Str) : (k : Nat) → BT k → List BNd
  | 0, y => [ndB 0 y]
  | k + 1, y => ndB (k + 1) y :: pathB key k ((ndK y).getD (routeN (ndP y) key) default)
theorem pathB_head {key : Str} : ∀ {k : Nat} {y : BT k}, ∃ l, pathB key k y = ndB k y :: l
  | 0, y => ⟨[], rfl⟩
  | k + 1, y => ⟨_, rfl⟩
theorem pathB_len {key : Str} : ∀ {k : Nat} {y : BT k}, (pathB key k y).length = k + 1
  | 0, y => rfl
  | k + 1, y => by show (pathB key k _).length + 1 = _; rw [pathB_len]
def ptB (cells : List (Option Nat)) (n : BNd) : Option Nat := cells.getD n.slot.toNat none
theorem Blk.pt {cells : List (Option Nat)} {n : BNd} {b : Nat} (h : Blk cells n.slot b) : ptB cells n = some b := by
  unfold ptB
  rw [List.getD_eq_getElem?_getD, h.2]; rfl
theorem kid_at {fan leaf : Int} {k : Nat} {lo hi : Int} {s : Span} {y : BT (k + 1)} (hs : s.norm = s) (h : BT.ok fan leaf (k + 1) lo hi s y) (key : Str) : routeN (ndP y) key < (ndK y).length := by
  have := h.2.len
  have h2 : routeN (ndP y) key ≤ (ndP y).length := List.length_filter_le _ _
  omega
theorem path_mem {fan leaf : Int} {key : Str} : ∀ {k : Nat} {y : BT k} {lo hi : Int} {s : Span}, s.norm = s → BT.ok fan leaf k lo hi s y → ∀ n ∈ pathB key k y, n ∈ nds k y
  | 0, y, _, _, _, _, _, n, hn => hn
  | k + 1, y, lo, hi, s, hs, h, n, hn => by
    rcases List.mem_cons.1 hn with rfl | hn
    · exact nds_head
    · have hl := kid_at hs h key
      rw [getD_lt hl] at hn
      obtain ⟨u, h', hu, _, hP, _⟩ := h.2.at hs (i := routeN (ndP y) key) (List.length_filter_le _ _)
      exact nds_kid (List.getElem_mem hl) (path_mem hu hP n hn)
def needN (fs : List Bool) : Nat := if (fs.reverse.takeWhile id).length = fs.length then fs.length + 1 else (fs.reverse.takeWhile id).length
theorem need_stop {fs : List Bool} {j : Nat} (hj : j < fs.length) (h : ∀ i (hi : i < fs.length), fs.length - j ≤ i → fs[i] = true) (h2 : fs[fs.length - 1 - j]'(by omega) = false) : needN fs = j := by
  have e : (fs.reverse.takeWhile id).length = j := by
    have h3 : fs.reverse.takeWhile id = fs.reverse.take j := by
      conv => lhs; rw [← List.take_append_drop j fs.reverse]
      rw [List.takeWhile_append_of_pos fun b hb => ?_]
      · rw [List.drop_eq_getElem_cons (by simpa using hj), List.takeWhile_cons]
        rw [List.getElem_reverse, h2]; simp
      · obtain ⟨i, hi, rfl⟩ := List.getElem_of_mem hb
        rw [List.length_take, List.length_reverse] at hi
        rw [List.getElem_take, List.getElem_reverse]
        exact h _ (by omega) (by omega)
    rw [h3, List.length_take, List.length_reverse]; omega
  unfold needN
  rw [e, if_neg (by omega)]
theorem need_all {fs : List Bool} (h : ∀ i (hi : i < fs.length), fs[i] = true) : needN fs = fs.length + 1 := by
  unfold needN
  rw [if_pos]
  have : fs.reverse.takeWhile id = fs.reverse := by
    conv => lhs; rw [← List.append_nil fs.reverse]
    rw [List.takeWhile_append_of_pos fun b hb => ?_]
    · simp
    · obtain ⟨i, hi, rfl⟩ := List.getElem_of_mem hb
      rw [List.length_reverse] at hi
      rw [List.getElem_reverse]
      exact h _ (by omega)
  rw [this, List.length_reverse]
theorem need_le (fs : List Bool) : needN fs ≤ fs.length + 1 := by
  unfold needN
  split
  · omega
  · have := (List.takeWhile_sublist (p := id) (l := fs.reverse)).length_le
    rw [List.length_reverse] at this; omega
def UsN (u : List Bool) (l : List BNd) : Prop := ∀ n ∈ l, hasN u n.slot = true
/-! ## Scans -/
def scB (s : Span) (lim : Int) (out A : List Pair) : List Pair := out ++ (A.filter fun p => s.has p.key).take (lim - out.length).toNat
theorem scB_len {s : Span} {lim : Int} {out A : List Pair} : (scB s lim out A).length = out.length + min (lim - out.length).toNat (A.filter fun p => s.has p.key).length := by
  unfold scB; rw [List.length_append, List.length_take]
theorem scB_app {s : Span} {lim : Int} {out A B : List Pair} : scB s lim (scB s lim out A) B = scB s lim out (A ++ B) := by
  have hl := scB_len (s := s) (lim := lim) (out := out) (A := A)
  show scB s lim out A ++ _ = _
  rw [hl]
  unfold scB
  rw [List.filter_append, List.take_append, List.append_assoc]
  congr 2
  congr 1
  omega
theorem scB_full {s : Span} {lim : Int} {out A : List Pair} (h : ¬ (out.length : Int) < lim) : scB s lim out A = out := by
  unfold scB
  rw [show (lim - out.length).toNat = 0 by omega, List.take_zero, List.append_nil]
theorem scB_none {s : Span} {lim : Int} {out A : List Pair} (h : ∀ p ∈ A, s.has p.key = false) : scB s lim out A = out := by
  unfold scB
  rw [filt_none h, List.take_nil, List.append_nil]
theorem scB_nil {s : Span} {lim : Int} {out : List Pair} : scB s lim out [] = out := scB_none fun p hp => by cases hp
theorem scB_one {s : Span} {lim : Int} {out : List Pair} {p : Pair} (hp : s.has p.key = true) (h : (out.length : Int) < lim) : scB s lim out [p] = out ++ [p] := by
  unfold scB
  rw [List.filter_cons_of_pos (p := fun p : Pair => s.has p.key) hp, List.filter_nil]
  congr 1
  rw [List.take_of_length_le (by simp; omega)]
theorem scB_step {s : Span} {lim : Int} {out A : List Pair} {j : Nat} (hj : j < (A.filter fun p => s.has p.key).length) :
    scB s lim out ((A.filter fun p => s.has p.key).take (j + 1)) = if ((scB s lim out ((A.filter fun p => s.has p.key).take j)).length : Int) < lim then scB s lim out ((A.filter fun p => s.has p.key).take j) ++ [(A.filter fun p => s.has p.key)[j]] else scB s lim out ((A.filter fun p => s.has p.key).take j) := by
  rw [List.take_succ_eq_append_getElem hj, ← scB_app]
  split
  · exact scB_one (by have := List.getElem_mem hj; simpa using (List.mem_filter.1 this).2) (by assumption)
  · exact scB_full (by assumption)
theorem scB_all {s : Span} {lim : Int} {out A : List Pair} : scB s lim out (A.filter fun p => s.has p.key) = scB s lim out A := by
  unfold scB
  rw [List.filter_filter]
  simp
theorem scB_skip {fan leaf : Int} {k : Nat} {lo hi : Int} {sp s : Span} {y : BT (k + 1)} (hs : sp.norm = sp) (h : BT.ok fan leaf (k + 1) lo hi sp y) {j : Nat} (hj : j < (ndK y).length) (ht : ((rangeN (ndP y) (j : Int)).meet s).empty = true) : ∀ p ∈ BT.rows k (ndK y)[j], s.has p.key = false := fun p hp => by
  have hlen := h.2.len
  have hr := (h.2.piv hs).1
  obtain ⟨v, hj2, v1, v2, v3, _⟩ := h.2.at hs (i := j) (by omega)
  have h2 := (BT.ok.rows v1 v3).2 p hp
  rw [v2, Bool.and_eq_true, decide_eq_true_eq] at h2
  have h3 := range_has hr p.key (j := j) (by omega)
  rw [decide_eq_true h2.2] at h3
  have h4 := empty_iff.1 ht p.key
  rw [meet_has, h3] at h4
  simpa using h4
theorem rows_take {k : Nat} {l : List (BT k)} {j : Nat} (hj : j < l.length) : (l.take (j + 1)).flatMap (BT.rows k) = (l.take j).flatMap (BT.rows k) ++ BT.rows k l[j] := by
  rw [List.take_succ_eq_append_getElem hj, List.flatMap_append, List.flatMap_cons, List.flatMap_nil, List.append_nil]
theorem scB_map {s : Span} {lim : Int} {A : List Pair} : scB s lim [] A = scanN A s lim := by
  unfold scB scanN
  rw [List.nil_append]; simp
end Go.Fw
namespace Go.Proofs.YtemoalimclnfkaaGreat
open Go Go.Fw Go.RowKit
attribute [local irreducible] Ok W WC
def S_ : Str := ⟨⟨#[]⟩, by decide⟩
theorem spanall_fc {G : GH}  :
    Fc Tryz.prog 41 [] G [] (fun v _ _ => v = .agg (List.toArray ((Span.all : Span).cells))) := by
 refine Fc.go [.cell 0 74] Tryz.func41 Tryz.ntmps41 rfl (fun w0 => (g9 2 ?_))
 refine W.alloc zr74 (fun b6 => (g9 4 ?_))
 refine W.ok (ok_build (L := [sV _, sV _, .bool _]) pl74 zr74 rfl rfl rfl) (g9 5 ?_)
 rfl

theorem spanempty_fc {G : GH} (slo : Str) (shi : Str) (so : Bool) :
    Fc Tryz.prog 64 [.agg #[sV slo.b, sV shi.b, .bool so]] G [] (fun v _ _ => v = .bool (Span.empty ⟨slo, shi, so⟩)) := by
 refine Fc.go [.tmp 2] Tryz.func64 Tryz.ntmps64 rfl (fun w0 => (g9 2 ?_))
 refine W.box (L := [sV _, sV _, .bool _]) rfl rfl (fun b7 => (g9 9 ?_))
 refine W.sp 6 rfl (fun h5 => ?_) (fun h5 => ?_)
 ·refine g9 9 ?_
  refine W.ok (ok_geqS rfl rfl) (g9 6 ?_)
  refine congrArg Value.bool ?_
  simp_all [Span.empty, Str.lt]
 refine g9 11 ?_
 refine congrArg Value.bool ?_
 simp_all [Span.empty, Str.lt]

theorem spannorm_fc {G : GH} (slo : Str) (shi : Str) (so : Bool) :
    Fc Tryz.prog 96 [.agg #[sV slo.b, sV shi.b, .bool so]] G [] (fun v _ _ => v = .agg (List.toArray ((Span.norm ⟨slo, shi, so⟩ : Span).cells))) := by
 refine Fc.go [.cell 2 74] Tryz.func96 Tryz.ntmps96 rfl (fun w0 => (g9 2 ?_))
 refine W.box (L := [sV _, sV _, .bool _]) rfl rfl (fun b8 => (W.alloc zr74 (fun b9 => (g9 7 ?_))))
 refine W.qcall (spanempty_fc _ _ _) rfl (g9 3 ?_)
 refine WC.cond rfl (fun h5 => ?_) (fun h5 => ?_)
 ·refine g9 2 ?_
  refine W.ok (ok_build (L := [sV _, sV _, .bool _]) pl74 zr74 rfl rfl rfl) (g9 7 ?_)
  refine congrArg (fun l => Value.agg (List.toArray l)) ?_
  show [Value.string _, Value.string _, Value.bool _] = _
  simp_all [Span.norm, Span.cells, Span.zero, Str.nil, setAt]
 refine g9 7 ?_
 refine WC.cond rfl (fun ha_so => ?_) (fun ha_so => ?_)
 ·refine g9 14 ?_
  refine congrArg (fun l => Value.agg (List.toArray l)) ?_
  show [Value.string _, Value.string _, Value.bool _] = _
  simp_all [Span.norm, Span.cells, Span.zero, Str.nil, setAt]
 refine g9 11 ?_
 refine congrArg (fun l => Value.agg (List.toArray l)) ?_
 show [Value.string _, Value.string _, Value.bool _] = _
 simp_all [Span.norm, Span.cells, Span.zero, Str.nil, setAt]

theorem spanhas_fc {G : GH} (slo : Str) (shi : Str) (so : Bool) (k : Str) :
    Fc Tryz.prog 78 [.agg #[sV slo.b, sV shi.b, .bool so], sV k.b] G [] (fun v _ _ => v = .bool (Span.has ⟨slo, shi, so⟩ k)) := by
 refine Fc.go [.tmp 4] Tryz.func78 Tryz.ntmps78 rfl (fun w0 => (g9 2 ?_))
 refine W.box (L := [sV _, sV _, .bool _]) rfl rfl (fun b10 => (g9 8 ?_))
 refine W.ok (ok_geqS rfl rfl) (W.mv ?_)
 refine W.sp 9 rfl (fun h8 => ?_) (fun h8 => ?_)
 ·refine g9 6 ?_
  refine W.sp 12 rfl (fun ha_so => ?_) (fun ha_so => ?_)
  ·refine g9 12 ?_
   refine congrArg Value.bool ?_
   simp_all [Span.has, Str.lt]
  refine g9 16 ?_
  refine congrArg Value.bool ?_
  simp_all [Span.has, Str.lt]
 refine g9 14 ?_
 refine congrArg Value.bool ?_
 simp_all [Span.has, Str.lt]

theorem bright_fc {G : GH} {v_p : Value} {p : List Str} (h_p : SlR eStr G v_p p) {v_c : Value} {c : List Int} (h_c : SlR eInt G v_c c) :
    Fc Tryz.prog 112 [v_p, v_c] G [] (fun v _ _ => v = .bool (rightN p c.length)) := by
 obtain ⟨sa_p, sc_p, rfl⟩ := h_p.form
 obtain ⟨sa_c, sc_c, rfl⟩ := h_c.form
 have hc := h_c.len47
 have hp := h_p.len47
 refine Fc.go [.tmp 4] Tryz.func112 Tryz.ntmps112 rfl (fun w0 => (g9 12 ?_))
 refine WC.loop (X := Nat) (fun k => [(5, nt9 (k + 1)), (0, lV sa_p p.length sc_p), (1, lV sa_c c.length sc_c)]) (fun k _ Ml => Ml = [] ∧ ∀ i (h : i + 1 < p.length), i < k → p[i].lt p[i + 1] = true) (fun k => p.length - k) 0 hs9 ?_ ?_
 ·exact ⟨rfl, fun i _ h => by omega⟩
 rintro k gG18 G18 _ hG18 ⟨rfl, hk⟩
 refine g9 9 ?_
 refine WC.cd (fun h9 p9 => ?_) (fun h9 p9 => ?_)
 ·refine g9 9 ?_
  refine (h_p.mono hG18).a1 (i := k) om9 (fun he19 => (W.ok (ok_indexAddr (i := k) sl54 ty9 (h_p.mono hG18) rfl rfl ⟨om9, om9⟩) (g9 3 ?_)))
  refine (h_p.mono hG18).a1 (i := k + 1) om9 (fun he22 => (W.ok (ok_indexAddr (i := k + 1) sl54 ty9 (h_p.mono hG18) rfl rfl ⟨om9, om9⟩) (g9 1 ?_)))
  refine W.ok (ok_geqS rfl rfl) (g9 2 ?_)
  refine WC.cond rfl (fun h21 => ?_) (fun h21 => ?_)
  ·refine g9 12 ?_
   refine congrArg Value.bool ?_
   simp [rightN, rising_not (l := p) (i := k) om9 (by simpa [Str.lt] using h21)]
  refine g9 9 ?_
  exact ⟨Le.rfl, k + 1, hs9, ⟨rfl, fun i h hi => by
      by_cases e : i = k
      · subst e; simpa [Str.lt] using h21
      · exact hk i h om9⟩, om9⟩
 refine g9 11 ?_
 refine W.sd 25 (fun h24 p24 => ?_) (fun h24 p24 => ?_)
 ·refine g9 18 ?_
  refine congrArg Value.bool ?_
  simp only [rightN, rising_iff.2 (fun i h => hk i h om9), Bool.true_and]
  first | (rw [decide_eq_decide]; omega) | (symm; rw [decide_eq_false_iff_not]; omega)
 refine g9 12 ?_
 refine congrArg Value.bool ?_
 simp only [rightN, rising_iff.2 (fun i h => hk i h om9), Bool.true_and]
 first | (rw [decide_eq_decide]; omega) | (symm; rw [decide_eq_false_iff_not]; omega)

theorem isnan_fc {G : GH} (a : Str) :
    Fc Tryz.prog 131 [sV a.b] G [] (fun v _ _ => v = .bool (false)) := by
 refine Fc.go [.tmp 2] Tryz.func131 Tryz.ntmps131 rfl (fun w0 => (g9 15 ?_))
 refine congrArg Value.bool ?_
 simp

theorem sisnan_fc {G : GH} (a : Str) :
    Fc Tryz.prog 115 [sV a.b] G [] (fun v _ _ => v = .bool (false)) := by
 refine Fc.go [.tmp 2] Tryz.func115 Tryz.ntmps115 rfl (fun w0 => (g9 15 ?_))
 refine congrArg Value.bool ?_
 simp

theorem cmpless_fc {G : GH} (a : Str) (b : Str) :
    Fc Tryz.prog 114 [sV a.b, sV b.b] G [] (fun v _ _ => v = .bool (Str.lt a b)) := by
 refine Fc.go [.tmp 4] Tryz.func114 Tryz.ntmps114 rfl (fun w0 => (g9 8 ?_))
 refine W.qcall (isnan_fc _) rfl (W.mv ?_)
 refine W.sp 7 rfl (fun h6 => ?_) (fun h6 => ?_)
 ·cases h6
 refine g9 17 ?_
 refine congrArg Value.bool ?_
 rfl

theorem bsearch_fc {G : GH} {v_l : Value} {l : List Str} (h_l : SlR eStr G v_l l) (k : Str) (hr : rising l = true) :
    Fc Tryz.prog 91 [v_l, sV k.b] G [] (fun v _ _ => v = .tuple #[iV (((lowerN l k : Nat) : Int)), .bool (decide (l[lowerN l k]? = some k))]) := by
 obtain ⟨sa_l, sc_l, rfl⟩ := h_l.form
 have hlen := h_l.len47
 refine Fc.go [.tmp 4, .tmp 5] Tryz.func91 Tryz.ntmps91 rfl (fun w0 => (g9 22 ?_))
 refine WC.loop (X := Nat × Nat) (fun x => [(6, nt9 l.length), (7, nt9 x.1), (8, nt9 x.2), (0, lV sa_l l.length sc_l), (1, sV k.b)]) (fun x _ Ml => Ml = [] ∧ x.1 ≤ x.2 ∧ x.2 ≤ l.length ∧ (∀ q (h : q < l.length), q < x.1 → l[q].lt k = true) ∧ (∀ q (h : q < l.length), x.2 ≤ q → l[q].lt k = false)) (fun x => x.2 - x.1) (0, l.length) hs9 ?_ ?_
 ·exact ⟨rfl, by simp, by simp, (fun q _ h => by simp at h), (fun q h h' => by simp at h'; omega)⟩
 rintro ⟨i, j⟩ gG25 G25 _ hG25 ⟨rfl, hi, hj, h1, h2⟩
 dsimp only at hi hj h1 h2
 refine g9 8 ?_
 refine WC.cd (fun h15 p15 => ?_) (fun h15 p15 => ?_)
 ·refine g9 8 ?_
  refine W.ok (ok_convU un3 un51 rfl om9) (W.ok (ok_shr1 rfl rfl om9) (W.ok (ok_convI un51 un3 rfl om9) (g9 7 ?_)))
  refine (h_l.mono hG25).a1 (i := (i + j) / 2) om9 (fun he26 => (W.ok (ok_indexAddr (i := (i + j) / 2) sl54 ty9 (h_l.mono hG25) rfl rfl ⟨by dsimp only; omega, om9⟩) (g9 2 ?_)))
  refine W.qcall (cmpless_fc _ _) rfl (g9 2 ?_)
  refine WC.cond rfl (fun h27 => ?_) (fun h27 => ?_)
  ·refine g9 7 ?_
   exact ⟨Le.rfl, ((i + j) / 2 + 1, j), hs9, ⟨rfl, by dsimp only; omega, by dsimp only; omega, (fun q h hq => rising_below hr om9 h27 q h (by dsimp only at hq; omega)), h2⟩, by dsimp only; omega⟩
  refine g9 6 ?_
  exact ⟨Le.rfl, (i, (i + j) / 2), hs9, ⟨rfl, by dsimp only; omega, by dsimp only; omega, h1, (fun q h hq => rising_above hr om9 h27 q h (by dsimp only at hq; omega))⟩, by dsimp only; omega⟩
 refine g9 12 ?_
 refine W.sd 35 (fun h34 p34 => ?_) (fun h34 p34 => ?_)
 ·refine g9 5 ?_
  refine (h_l.mono hG25).a1 (i := i) om9 (fun he29 => (g9 9 ?_))
  refine W.sd 42 (fun h41 p41 => ?_) (fun h41 p41 => ?_)
  ·refine g9 18 ?_
   have hlow : lowerN l k = i := lower_split om9 h1 (fun q h hq => h2 q h om9)
   refine tup2 (by rw [hlow]) ?_
   rw [hlow]
   simp only [Str.b_inj] at p41
   rw [List.getElem?_eq_getElem om9]
   simp [p41]
  refine g9 5 ?_
  refine (h_l.mono hG25).a1 (i := i) om9 (fun he32 => (g9 4 ?_))
  refine W.qcall (sisnan_fc _) rfl (g9 2 ?_)
  refine W.sp 48 rfl (fun h47 => ?_) (fun h47 => ?_)
  ·cases h47
  refine g9 13 ?_
  have hlow : lowerN l k = i := lower_split om9 h1 (fun q h hq => h2 q h om9)
  refine tup2 (by rw [hlow]) ?_
  rw [hlow]
  simp only [Str.b_inj] at p41
  rw [List.getElem?_eq_getElem om9]
  simp [p41]
 refine g9 24 ?_
 have hlow : lowerN l k = i := lower_split om9 h1 (fun q h hq => h2 q h om9)
 refine tup2 (by rw [hlow]) ?_
 rw [hlow]
 rw [List.getElem?_eq_none om9] <;> simp

theorem broute_fc {G : GH} {v_l : Value} {l : List Str} (h_l : SlR eStr G v_l l) (k : Str) (hr : rising l = true) :
    Fc Tryz.prog 65 [v_l, sV k.b] G [] (fun v _ _ => v = iV (((routeN l k : Nat) : Int))) := by
 obtain ⟨sa_l, sc_l, rfl⟩ := h_l.form
 have hlo := lowerN_le l k
 have hlen := h_l.len47
 refine Fc.go [.tmp 4] Tryz.func65 Tryz.ntmps65 rfl (fun w0 => (g9 9 ?_))
 refine W.qcall (bsearch_fc h_l _ (by assumption)) rfl (g9 13 ?_)
 refine WC.cond rfl (fun h10_1 => ?_) (fun h10_1 => ?_)
 ·refine g9 14 ?_
  exact iv (route_lower_yes hr (odt h10_1))
 refine g9 10 ?_
 exact iv (route_lower_no hr (odf h10_1))

theorem brange_fc {G : GH} {v_l : Value} {l : List Str} (h_l : SlR eStr G v_l l) (i : Int) (hi : i64 i) :
    Fc Tryz.prog 69 [v_l, iV i] G [] (fun v _ _ => v = .agg (List.toArray ((rangeN l i : Span).cells))) := by
 obtain ⟨sa_l, sc_l, rfl⟩ := h_l.form
 have hl := h_l.len47
 obtain ⟨hi1, hi2⟩ := hi
 refine Fc.go [.cell 4 74] Tryz.func69 Tryz.ntmps69 rfl (fun w0 => (WC.sr (W.alloc zr74 (fun b46 => (W.nt (WC.seq (WC.sr (W.mv (W.ok (ok_lss rfl rfl) (W.mv ?_))))))))))
 refine W.sd 8 (fun h7 p7 => ?_) (fun h7 p7 => ?_)
 ·refine W.n8 h7 rfl (W.n8 h7 rfl (W.n8 h7 rfl (W.n8 h7 rfl (W.ok (ok_pick_t rfl h7) (W.nt (WC.cond_t rfl rfl (WC.sr (W.ok (ok_build (L := [sV _, sV _, .bool _]) pl74 zr74 rfl rfl rfl) (W.st 0 sp9 sp9 ty74 rfl (W.nt (WC.rt ?_)))))))))))
  refine ⟨.inr rfl, [_], ⟨⟨_, _, _, _, _, rfl, nthM_mem (i := 0) rfl, ty74, (by simp), rfl, rfl⟩, trivial⟩, [], sn9, ?_⟩
  refine congrArg (fun l => Value.agg (List.toArray l)) ?_
  show [Value.string _, Value.string _, Value.bool _] = _
  rw [rangeN_out om9]; rfl
 refine W.y9 h7 rfl (W.mv (W.y9 h7 rfl (W.mv (W.y9 h7 rfl (W.ok (ok_len sl54 h_l rfl) (W.y9 h7 rfl (W.ok (ok_gtr rfl rfl) (W.ok (ok_pick_f rfl h7) (W.nt ?_)))))))))
 refine WC.cd (fun h12 p12 => ?_) (fun h12 p12 => ?_)
 ·refine WC.sr (W.ok (ok_build (L := [sV _, sV _, .bool _]) pl74 zr74 rfl rfl rfl) (W.st 0 sp9 sp9 ty74 rfl (W.nt (WC.rt ?_))))
  refine ⟨.inr rfl, [_], ⟨⟨_, _, _, _, _, rfl, nthM_mem (i := 0) rfl, ty74, (by simp), rfl, rfl⟩, trivial⟩, [], sn9, ?_⟩
  refine congrArg (fun l => Value.agg (List.toArray l)) ?_
  show [Value.string _, Value.string _, Value.bool _] = _
  rw [rangeN_out om9]; rfl
 refine WC.sk (WC.sr (W.qcall (spanall_fc) rfl (W.alloc zr74 (fun b47 => (W.st 0 sp9 sp9 ty74 rfl (W.nt (WC.seq (WC.sr (W.mv (W.ok (ok_gtr rfl rfl) (W.nt ?_)))))))))))
 refine WC.cd (fun h17 p17 => ?_) (fun h17 p17 => ?_)
 ·refine WC.region (W.mv (W.mv (W.ok (ok_sub rfl rfl om9) (h_l.a1 (i := (i - 1).toNat) om9 (fun he48 => (W.ok (ok_indexAddr (i := (i - 1).toNat) sl54 ty9 h_l rfl rfl ⟨om9, om9⟩) (W.ok (ok_loadE (vs := sc9) ty9 he48 rfl rfl rfl (by simp)) (W.fb fd74_0 rfl (W.st 0 sc9 sp9 ty9 rfl (W.nt (WC.seq (WC.sr (W.mv (W.mv ?_))))))))))))))
  refine W.ok (ok_len sl54 h_l rfl) (W.ok (ok_lss rfl rfl) (W.nt ?_))
  refine WC.cd (fun h27 p27 => ?_) (fun h27 p27 => ?_)
  ·refine WC.region (W.mv (W.mv (h_l.a1 (i := i.toNat) om9 (fun he51 => (W.ok (ok_indexAddr (i := i.toNat) sl54 ty9 h_l rfl rfl ⟨om9, om9⟩) (W.ok (ok_loadE (vs := sc9) ty9 he51 rfl rfl rfl (by simp)) (W.fb fd74_1 rfl (W.st 0 sc9 sp9 ty9 rfl (W.fb fd74_2 rfl (W.st 0 bc9 sp9 ty4 rfl (W.ns (W.ok (ok_ld 0 sp9 ty74 rfl) (W.qcall (spannorm_fc _ _ _) rfl (W.st 1 sp9 sp9 ty74 rfl ?_))))))))))))))
   refine W.nt (WC.ret ?_)
   refine ⟨.inr rfl, [_], ⟨⟨_, _, _, _, _, rfl, nthM_mem (i := 1) rfl, ty74, (by simp), rfl, rfl⟩, trivial⟩, [], sn9, ?_⟩
   exact congrArg (fun s : Span => Value.agg (List.toArray s.cells)) (rangeN_tt p17 p27 om9 om9)
  refine WC.sk (WC.sr (W.ok (ok_ld 0 sp9 ty74 rfl) (W.qcall (spannorm_fc _ _ _) rfl (W.st 1 sp9 sp9 ty74 rfl (W.nt (WC.ret ?_))))))
  refine ⟨.inr rfl, [_], ⟨⟨_, _, _, _, _, rfl, nthM_mem (i := 1) rfl, ty74, (by simp), rfl, rfl⟩, trivial⟩, [], sn9, ?_⟩
  exact congrArg (fun s : Span => Value.agg (List.toArray s.cells)) (rangeN_tf p17 p27 om9 om9)
 refine WC.sk (WC.seq (WC.sr (W.mv (W.mv (W.ok (ok_len sl54 h_l rfl) (W.ok (ok_lss rfl rfl) (W.nt ?_)))))))
 refine WC.cd (fun h27 p27 => ?_) (fun h27 p27 => ?_)
 ·refine WC.region (W.mv (W.mv (h_l.a1 (i := i.toNat) om9 (fun he54 => (W.ok (ok_indexAddr (i := i.toNat) sl54 ty9 h_l rfl rfl ⟨om9, om9⟩) (W.ok (ok_loadE (vs := sc9) ty9 he54 rfl rfl rfl (by simp)) (W.fb fd74_1 rfl (W.st 0 sc9 sp9 ty9 rfl (W.fb fd74_2 rfl (W.st 0 bc9 sp9 ty4 rfl (W.ns (W.ok (ok_ld 0 sp9 ty74 rfl) (W.qcall (spannorm_fc _ _ _) rfl (W.st 1 sp9 sp9 ty74 rfl ?_))))))))))))))
  refine W.nt (WC.ret ?_)
  refine ⟨.inr rfl, [_], ⟨⟨_, _, _, _, _, rfl, nthM_mem (i := 1) rfl, ty74, (by simp), rfl, rfl⟩, trivial⟩, [], sn9, ?_⟩
  exact congrArg (fun s : Span => Value.agg (List.toArray s.cells)) (rangeN_ft om9 p17 p27 om9)
 refine WC.sk (WC.sr (W.ok (ok_ld 0 sp9 ty74 rfl) (W.qcall (spannorm_fc _ _ _) rfl (W.st 1 sp9 sp9 ty74 rfl (W.nt (WC.ret ?_))))))
 refine ⟨.inr rfl, [_], ⟨⟨_, _, _, _, _, rfl, nthM_mem (i := 1) rfl, ty74, (by simp), rfl, rfl⟩, trivial⟩, [], sn9, ?_⟩
 exact congrArg (fun s : Span => Value.agg (List.toArray s.cells)) (rangeN_ff om9 p17 p27 om9)

end Go.Proofs.YtemoalimclnfkaaGreat
