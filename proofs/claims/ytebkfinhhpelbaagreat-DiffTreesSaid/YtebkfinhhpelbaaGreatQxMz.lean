/- Wipes lead from a map to another. Plain Lean; nothing of the program is named here. No condition. -/
import Derived.Test.YtebkfinhhpelbaaGreatQxMy
import Derived.Test.YtebkfinhhpelbaaGreatQxWu
set_option linter.unusedVariables false
set_option linter.unusedSimpArgs false
set_option linter.unnecessarySimpa false
namespace Go.Fw
def strN (l : List Drow) : Nat := (l.takeWhile fun r => !r.inB).length
theorem strN_le (l : List Drow) : strN l ≤ l.length := (List.takeWhile_prefix _).length_le
theorem strN_take (l : List Drow) : l.take (strN l) = l.takeWhile fun r => !r.inB := by
  have h := List.takeWhile_prefix (p := fun r : Drow => !r.inB) (l := l)
  exact (List.prefix_iff_eq_take.1 h).symm
theorem mem_tw {α : Type} {p : α → Bool} {x : α} : ∀ {l : List α}, x ∈ l.takeWhile p → p x = true
  | [], h => by cases h
  | y :: l, h => by
    rw [List.takeWhile_cons] at h
    split at h
    · rename_i hy
      rcases List.mem_cons.1 h with rfl | h
      · exact hy
      · exact mem_tw h
    · cases h
theorem strN_out {l : List Drow} : ∀ r ∈ l.take (strN l), r.inB = false := by
  rw [strN_take]
  intro r hr
  have := mem_tw hr
  simpa using this
def wipeOp (l : List Drow) (s : Nat) (k : Str) : Opr := ⟨4, k, if h : s < l.length then l[s].key else Str.nil, decide (s = l.length), Str.nil, 0⟩
def wipN (n : Int) : List Drow → List Opr
  | [] => []
  | r :: l =>
    if (strN (r :: l) : Int) < max n 2 then ((r :: l).take (max (strN (r :: l)) 1)).filterMap chg ++ wipN n ((r :: l).drop (max (strN (r :: l)) 1))
    else if h : 0 < strN (r :: l) then wipeOp (r :: l) (strN (r :: l)) r.key :: wipN n ((r :: l).drop (strN (r :: l))) else []
termination_by l => l.length
decreasing_by
  · simp; omega
  · simp; omega
theorem fm_all : ∀ {l : List Drow}, (∀ r ∈ l, r.inB = false) → (l.filterMap chg).length = l.length
  | [], _ => rfl
  | r :: l, h => by
    have ih := fm_all (l := l) fun s hs => h s (List.mem_cons_of_mem _ hs)
    rw [List.filterMap_cons_some (chg_3 (h r (by simp))), List.length_cons, List.length_cons, ih]
theorem wip_len (n : Int) : ∀ (l : List Drow), (wipN n l).length ≤ (l.filterMap chg).length
  | [] => by simp [wipN]
  | r :: l => by
    rw [wipN]
    have e : ∀ m, ((r :: l).filterMap chg).length = (((r :: l).take m).filterMap chg).length + (((r :: l).drop m).filterMap chg).length := fun m => by
      rw [← List.length_append, ← List.filterMap_append, List.take_append_drop]
    split
    · have := wip_len n ((r :: l).drop (max (strN (r :: l)) 1))
      rw [e (max (strN (r :: l)) 1), List.length_append]; omega
    · split
      · rename_i h1 h2
        have h3 := wip_len n ((r :: l).drop (strN (r :: l)))
        have h4 := fm_all (strN_out (l := r :: l))
        have h5 := strN_le (r :: l)
        rw [List.length_take] at h4
        rw [e (strN (r :: l)), List.length_cons]; omega
      · simp
termination_by l => l.length
decreasing_by
  · simp; omega
  · simp; omega
theorem DRise.drop {l : List Drow} (h : DRise l) (m : Nat) : DRise (l.drop m) := List.Pairwise.sublist (List.drop_sublist m l) h
theorem DRise.take {l : List Drow} (h : DRise l) (m : Nat) : DRise (l.take m) := List.Pairwise.sublist (List.take_sublist m l) h
theorem DRise.parts {l : List Drow} (h : DRise l) {m : Nat} {r s : Drow} (hr : r ∈ l.take m) (hs : s ∈ l.drop m) : r.key.lt s.key = true := by
  unfold DRise at h
  rw [← List.take_append_drop m l, List.pairwise_append] at h
  exact h.2.2 r hr s hs
theorem strN_at {l : List Drow} : ∀ {k : Nat} (hk : k < l.length), (∀ j (h : j < l.length), j < k → l[j].inB = false) → l[k].inB = true → strN l = k := by
  induction l with
  | nil => intro k hk; simp at hk
  | cons r l ih =>
    intro k hk h1 h2
    unfold strN
    rw [List.takeWhile_cons]
    match k with
    | 0 => simp only [List.getElem_cons_zero] at h2; simp [h2]
    | k + 1 =>
      have h0 := h1 0 (by simp) (by omega)
      simp only [List.getElem_cons_zero] at h0
      have := ih (k := k) (by simp at hk; omega) (fun j h hj => by have := h1 (j + 1) (by simp; omega) (by omega); simpa using this) (by simpa using h2)
      unfold strN at this
      simp [h0, this]
theorem strN_all {l : List Drow} : (∀ j (h : j < l.length), l[j].inB = false) → strN l = l.length := by
  induction l with
  | nil => intro _; rfl
  | cons r l ih =>
    intro h1
    unfold strN
    have h0 := h1 0 (by simp)
    simp only [List.getElem_cons_zero] at h0
    have := ih fun j h => by have := h1 (j + 1) (by simp; omega); simpa using this
    unfold strN at this
    rw [List.takeWhile_cons]
    simp [h0, this]
def sxN (l : List Drow) : Int := if strN l < l.length then strN l else -1
theorem sxN_at {l : List Drow} {k : Nat} (hk : k < l.length) (h : ∀ j (h : j < l.length), j < k → l[j].inB = false) (h2 : l[k].inB = true) : sxN l = k := by
  unfold sxN; rw [strN_at hk h h2, if_pos hk]
theorem sxN_no {l : List Drow} (h : ∀ j (h : j < l.length), l[j].inB = false) : sxN l = -1 := by
  unfold sxN; rw [strN_all h, if_neg (by omega)]
theorem sxN_lt {l : List Drow} (h : sxN l < 0) : strN l = l.length := by
  have := strN_le l
  unfold sxN at h; split at h <;> omega
theorem sxN_nn {l : List Drow} (h : ¬ sxN l < 0) : sxN l = strN l := by
  unfold sxN at h ⊢; split
  · rfl
  · rename_i h2; rw [if_neg h2] at h; omega
theorem wip_c {n : Int} {S : List Drow} (h : 0 < S.length) (hc : (strN S : Int) < max n 2) : wipN n S = (S.take (max (strN S) 1)).filterMap chg ++ wipN n (S.drop (max (strN S) 1)) := by
  match S, h with
  | r :: L, _ => rw [wipN, if_pos hc]
theorem wip_w {n : Int} {S : List Drow} (h : 0 < S.length) (hc : ¬ (strN S : Int) < max n 2) : wipN n S = wipeOp S (strN S) S[0].key :: wipN n (S.drop (strN S)) := by
  match S, h with
  | r :: L, _ => rw [wipN, if_neg hc, dif_pos (by omega)]; rfl
theorem wipeOp_ok (S : List Drow) (s : Nat) (k : Str) : (wipeOp S s k).Ok := ⟨⟨by simp [wipeOp], by simp [wipeOp]⟩, ⟨by simp [wipeOp], by simp [wipeOp]⟩⟩
theorem wipeOp_in {S : List Drow} {s : Nat} {k : Str} (h : s < S.length) : wipeOp S s k = ⟨4, k, S[s].key, decide ((s : Int) = (S.length : Int)), Str.nil, 0⟩ := by
  unfold wipeOp; rw [dif_pos h]; congr 1; rw [decide_eq_decide]; omega
theorem wipeOp_end {S : List Drow} {s : Nat} {k : Str} (h : ¬ s < S.length) (h2 : s ≤ S.length) : wipeOp S s k = ⟨4, k, Str.nil, decide ((s : Int) = (S.length : Int)), Str.nil, 0⟩ := by
  unfold wipeOp; rw [dif_neg h]; congr 1; rw [decide_eq_decide]; omega
theorem WD.doneS {E : Env} {f : Fr} {G : GH} {M M' Mk : MH} {ops : Array Oper} {K : Kt} {fuel : Nat} {listed : Array Bool} (hr : Region.ready .any ops listed = []) (hs : M'.Sublist M) (h : K f G M') : WD E ops fuel listed f G M Mk K := fun _ a w Q hi hw _ hK =>
  wpAnyH_done hr (hK _ _ _ _ _ hi ⟨hw.r.sub hs, hw.le, hw.nw⟩ h) fuel
end Go.Fw
/- Walks of how far the second map lacks rows. -/
namespace Go.Proofs.YtebkfinhhpelbaaGreat
open Go Go.Fw Go.RowKit
set_option maxRecDepth 100000
set_option maxHeartbeats 1600000
set_option linter.unusedVariables false
set_option linter.unusedSimpArgs false
set_option linter.unnecessarySimpa false
theorem str1_fc {G : GH} (rk : Str) (ra : Str) (rb : Str) (ria : Bool) (rib : Bool) :
    Fc Tryz.prog 204 [.agg #[.string rk.b, .string ra.b, .string rb.b, .bool ria, .bool rib]] G [] (fun v _ _ => v = .bool (rib)) := by
 refine Fc.intro (rs := [.tmp 2]) cl204 Tryz.func204 rfl Tryz.ntmps204 rfl rfl (fun w0 => ?_)
 refine WC.seq (WC.region (W.box (L := [.string _, .string _, .string _, .bool _, .bool _]) rfl rfl (fun b1 => (W.as (W.nil (thn_n (WC.seq (WC.region (W.ok (ok_fieldB fd225_4 rfl) ?_)))))))))
 refine W.ok (ok_loadB (i := 0) (vs := [.bool _]) ty4 rfl rfl rfl rfl (by simp)) (W.as (W.nil (thn_n (WC.ret ?_))))
 refine ⟨.inr rfl, [_], ⟨rfl, trivial⟩, [], List.nil_sublist _, ?_⟩
 rfl

theorem ixrow_fc {G : GH} {v_l : Value} {l : List Drow} (h_l : SlR eRow G v_l l) :
    Fc Tryz.prog 203 [v_l, .func (.func 204) #[] #[]] G [] (fun v _ _ => v = .int .i64 (sxN l)) := by
 obtain ⟨sa_l, sc_l, rfl⟩ := h_l.form
 have hl := h_l.len47
 refine Fc.intro (rs := [.tmp 4]) cl203 Tryz.func203 rfl Tryz.ntmps203 rfl rfl (fun w0 => ?_)
 refine WC.seq (WC.region (W.as (W.nil (thn_n (WC.seq (WC.seq (WC.region (W.mv ?_))))))))
 refine W.ok (ok_len sl221 h_l rfl) (W.mv (W.nil (thn_n (WC.block ?_))))
 refine WC.loop (X := Nat) (fun k => [(8, .int .i64 ((k : Nat) : Int)), (0, .slice sa_l l.length sc_l), (1, .func (.func 204) #[] #[]), (7, .int .i64 (((l).length : Nat) : Int))]) (fun k _ Ml => Ml = [] ∧ k ≤ l.length ∧ ∀ j (h : j < l.length), j < k → l[j].inB = false) (fun k => l.length - k) 0 ⟨eqv, eqv, eqv, eqv, trivial⟩ ?_ ?_
 ·exact ⟨rfl, by omega, fun j _ h => by omega⟩
 ·rintro k gG2 G2 _ hG2 ⟨rfl, hk, hj⟩
  refine WC.seq (WC.region (W.ok (ok_lss rfl rfl) (W.nil (thn_n (WC.seq ?_)))))
  refine WC.cond (b := _) rfl (fun h9 => ?_) (fun h9 => ?_)
  ·have p9 := of_decide_eq_true h9
   refine WC.skip (thn_n (WC.seq (WC.block (WC.seq (WC.region (W.mv (W.as (W.nil (thn_n ?_)))))))))
   refine WC.seq (WC.region (W.mv (W.mv (W.mv ?_))))
   have q7 := (h_l.mono hG2).at (i := k) (by omega)
   refine match q7 with | ⟨_, he3, e_6⟩ => ?_
   subst e_6
   refine W.ok (ok_indexAddr (i := k) sl221 ty225 (h_l.mono hG2) rfl rfl ⟨by omega, by omega⟩) (W.ok (ok_loadE (vs := [.string _, .string _, .string _, .bool _, .bool _]) ty225 he3 rfl rfl rfl (by simp)) (W.qcallV (fst := []) (caps := []) rfl (str1_fc _ _ _ _ _) rfl (W.nil (thn_n ?_))))
   refine WC.cond (b := _) rfl (fun h16 => ?_) (fun h16 => ?_)
   ·refine WC.seq (WC.region (W.mv (W.as (W.nil (thn_n (WC.ret (blk_r (thn_r (thn_r (blk_r (thn_r ?_)))))))))))
    refine ⟨.inr rfl, [_], ⟨rfl, trivial⟩, [], List.nil_sublist _, ?_⟩
    refine congrArg (Value.int .i64) ?_
    exact (sxN_at (by omega) hj h16).symm
   ·refine WC.skip (blk_n (thn_n (WC.region (W.ok (ok_add rfl rfl (by omega)) (W.mv (W.nil (thn_n ?_)))))))
    exact ⟨Le.rfl, k + 1, ⟨eqv, eqv, eqv, eqv, trivial⟩, ⟨rfl, by omega, fun j h hji => by
      by_cases e2 : j = k
      · subst e2; exact h16
      · exact hj j h (by omega)⟩, by omega⟩
  ·have p9 := of_decide_eq_false h9
   refine WC.exit (thn_x (thn_x (blk_h (thn_n (WC.seq (WC.region (W.as (W.nil (thn_n (WC.ret ?_))))))))))
   refine ⟨.inr rfl, [_], ⟨rfl, trivial⟩, [], List.nil_sublist _, ?_⟩
   refine congrArg (Value.int .i64) ?_
   exact (sxN_no (fun j h => hj j h (by omega))).symm

theorem stretch_fc {G : GH} {v_l : Value} {l : List Drow} (h_l : SlR eRow G v_l l) :
    Fc Tryz.prog 160 [v_l] G [] (fun v _ _ => v = .int .i64 ((strN l : Nat) : Int)) := by
 obtain ⟨sa_l, sc_l, rfl⟩ := h_l.form
 have hl := h_l.len47
 refine Fc.intro (rs := [.tmp 2]) cl160 Tryz.func160 rfl Tryz.ntmps160 rfl rfl (fun w0 => ?_)
 refine WC.seq (WC.region (W.as (W.nil (thn_n (WC.seq (WC.region (W.mv (W.qcall (ixrow_fc h_l) rfl ?_))))))))
 refine W.as (W.nil (thn_n (WC.seq (WC.seq (WC.region (W.mv (W.ok (ok_lss rfl rfl) (W.nil (thn_n ?_)))))))))
 refine WC.cond (b := _) rfl (fun h7 => ?_) (fun h7 => ?_)
 ·have p7 := of_decide_eq_true h7
  refine WC.seq (WC.region (W.mv (W.ok (ok_len sl221 h_l rfl) (W.as (W.nil (thn_n (WC.ret (thn_r ?_))))))))
  refine ⟨.inr rfl, [_], ⟨rfl, trivial⟩, [], List.nil_sublist _, ?_⟩
  refine congrArg (Value.int .i64) ?_
  rw [sxN_lt p7]
 ·have p7 := of_decide_eq_false h7
  refine WC.skip (thn_n (WC.seq (WC.region (W.mv (W.as (W.nil (thn_n (WC.ret ?_))))))))
  refine ⟨.inr rfl, [_], ⟨rfl, trivial⟩, [], List.nil_sublist _, ?_⟩
  refine congrArg (Value.int .i64) ?_
  exact sxN_nn p7

end Go.Proofs.YtebkfinhhpelbaaGreat
