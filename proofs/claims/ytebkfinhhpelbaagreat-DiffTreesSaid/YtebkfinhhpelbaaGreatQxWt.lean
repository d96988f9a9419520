/- The walk of the sort by definition. -/
import Derived.Test.YtebkfinhhpelbaaGreatQxWp
namespace Go.Proofs.YtebkfinhhpelbaaGreat
open Go Go.Fw Go.RowKit
set_option maxRecDepth 100000
set_option maxHeartbeats 1600000
set_option linter.unusedVariables false
set_option linter.unusedSimpArgs false
set_option linter.unnecessarySimpa false
theorem sorted1_fc {G : GH} {v_l : Value} {l : List Str} (h_l : SlR eStr G v_l l) :
    Fc Tryz.prog 169 [v_l] G [] (fun v G' M' => M' = [] ∧ ∃ u0, v = u0 ∧ SlR eStr G' u0 (sortU l)) := by
 obtain ⟨sa_l, sc_l, rfl⟩ := h_l.form
 have hl := h_l.len47
 have hsl := sortU_len l
 have hlb : l.length * 16 ≤ 140737488355328 := h_l.bytes
 refine Fc.intro (rs := [.tmp 2]) cl169 Tryz.func169 rfl Tryz.ntmps169 rfl rfl (fun w0 => ?_)
 refine WC.seq (WC.region (W.as (W.nil (thn_n (WC.seq (WC.region (W.as (W.nil (thn_n ?_)))))))))
 refine WC.block ?_
 refine WC.loop (X := (Nat) × Value × MH) (fun n => [(0, .slice sa_l l.length sc_l), (3, n.2.1)]) (fun n G Ml => Ml = (n.2.2 ++ []) ∧ OwnR eStr 9 G n.2.1 ((sortU l).take n.1) n.2.2 ∧ n.1 ≤ (sortU l).length) (fun n => (sortU l).length - n.1) (0, .slice none 0 0, ([] : MH)) ⟨eqv, eqv, trivial⟩ ?_ ?_
 ·exact ⟨rfl, (by simpa using OwnR.nil), by omega⟩
 ·rintro ⟨n, v_3, M_3⟩ gG1 G1 _ hG1 ⟨rfl, ho_3, hn⟩
  try dsimp only at ho_3 hn
  have htn : ((sortU l).take n).length ≤ n := by simp; omega
  refine WC.fr (f := setL gG1 [(0, .slice sa_l l.length sc_l), (3, v_3)]) rfl (WC.block (WC.seq (WC.region (W.as (W.nil (thn_n (WC.seq (WC.seq ?_))))))))
  refine WC.region (W.as (W.nil (thn_n (WC.block ?_))))
  refine WC.loop (X := Nat × Int) (fun y => [(4, .int .i64 y.2), (5, .int .i64 ((y.1 : Nat) : Int)), (3, v_3), (0, .slice sa_l l.length sc_l)]) (fun y _ Ml => Ml = (M_3 ++ []) ∧ ((y.2 = -1 ∧ ∀ q (h : q < l.length), q < y.1 → l[q] ∈ (sortU l).take n) ∨ (∃ i : Nat, ∃ h : i < l.length, y.2 = (i : Int) ∧ i < y.1 ∧ l[i] ∉ (sortU l).take n ∧ ∀ q (h : q < l.length), q < y.1 → l[q] ∉ (sortU l).take n → l[q].lt l[i] = false))) (fun y => l.length - y.1) ((0, -1) : Nat × Int) ⟨eqv, eqv, eqv, eqv, trivial⟩ ?_ ?_
  ·exact ⟨rfl, .inl ⟨rfl, fun q _ h => by simp at h⟩⟩
  ·rintro ⟨j, c⟩ gG2 G2 _ hG2 ⟨rfl, hinv⟩
   dsimp only at hinv
   refine WC.seq (WC.seq (WC.region (W.mv (W.mv (W.ok (ok_len sl43 (h_l.mono (hG1.trans hG2)) rfl) (W.ok (ok_lss rfl rfl) (W.nil (thn_n ?_))))))))
   refine WC.cond (b := _) rfl (fun h9 => ?_) (fun h9 => ?_)
   ·have p9 := of_decide_eq_true h9
    refine WC.skip (thn_n (WC.seq (WC.block (WC.seq (WC.drawW _ (List.nil_sublist _) mix (by rintro _ _ _ _ ⟨h | h, _⟩ <;> cases h) (WD.take 0 rfl rfl rfl (by kernel_rfl) (by kernel_rfl) (by kernel_rfl) (ok_mv) (WD.take 1 rfl rfl rfl (by kernel_rfl) (by kernel_rfl) (by kernel_rfl) (ok_mv) (WD.take 2 rfl rfl rfl (by kernel_rfl) (by kernel_rfl) (by kernel_rfl) (ok_mv) ?_))))))))
    have q5 := (h_l.mono (hG1.trans hG2)).at (i := j) (by omega)
    refine match q5 with | ⟨_, he3, e_4⟩ => ?_
    subst e_4
    refine WD.take 3 rfl rfl rfl (by kernel_rfl) (by kernel_rfl) (by kernel_rfl) (ok_indexAddr (i := j) sl43 ty9 (h_l.mono (hG1.trans hG2)) rfl rfl ⟨by dsimp only, by omega⟩) (WD.take 4 rfl rfl rfl (by kernel_rfl) (by kernel_rfl) (by kernel_rfl) (ok_loadE (vs := [.string _]) ty9 he3 rfl rfl rfl (by simp)) (WD.any [5] (by kernel_rfl) rfl ⟨⟨_, rfl, rfl, (W.call (Mp := M_3) (has1_fc (ho_3.mono hG2) _) rfl (List.Perm.refl _) ?_)⟩, trivial⟩))
    intro _ G6 Ms8 hG6 q7
    refine match q7 with | ⟨e_9, e_10⟩ => ?_
    subst e_9
    subst e_10
    refine W.nil ⟨hG6, List.nil_sublist _, _, List.nil_sublist _, List.Sublist.refl _, (WD.take 6 rfl rfl rfl (by kernel_rfl) (by kernel_rfl) (by kernel_rfl) (ok_not rfl) (WD.take 7 rfl rfl rfl (by kernel_rfl) (by kernel_rfl) (by kernel_rfl) (ok_mv) ?_))⟩
    refine WD.sp 19 rfl (fun h18 => ?_) (fun h18 => ?_)
    ·refine WD.takeY 8 19 rfl rfl rfl rfl rfl h18 (by kernel_rfl) (by kernel_rfl) (by kernel_rfl) (ok_mv) (WD.takeY 9 19 rfl rfl rfl rfl rfl h18 (by kernel_rfl) (by kernel_rfl) (by kernel_rfl) (ok_lss rfl rfl) (WD.takeY 10 19 rfl rfl rfl rfl rfl h18 (by kernel_rfl) (by kernel_rfl) (by kernel_rfl) (ok_mv) ?_))
     refine WD.sp 22 rfl (fun h21 => ?_) (fun h21 => ?_)
     ·have p21 := of_decide_eq_true h21
      refine WD.takeN 11 22 rfl rfl rfl rfl rfl h21 (by kernel_rfl) (by kernel_rfl) (by kernel_rfl) (WD.takeN 12 22 rfl rfl rfl rfl rfl h21 (by kernel_rfl) (by kernel_rfl) (by kernel_rfl) (WD.takeN 13 22 rfl rfl rfl rfl rfl h21 (by kernel_rfl) (by kernel_rfl) (by kernel_rfl) (WD.takeN 14 22 rfl rfl rfl rfl rfl h21 (by kernel_rfl) (by kernel_rfl) (by kernel_rfl) (WD.takeN 15 22 rfl rfl rfl rfl rfl h21 (by kernel_rfl) (by kernel_rfl) (by kernel_rfl) (WD.takeN 16 22 rfl rfl rfl rfl rfl h21 (by kernel_rfl) (by kernel_rfl) (by kernel_rfl) (WD.takeN 17 22 rfl rfl rfl rfl rfl h21 (by kernel_rfl) (by kernel_rfl) (by kernel_rfl) (WD.takeN 18 22 rfl rfl rfl rfl rfl h21 (by kernel_rfl) (by kernel_rfl) (by kernel_rfl) ?_)))))))
      refine WD.takeN 19 22 rfl rfl rfl rfl rfl h21 (by kernel_rfl) (by kernel_rfl) (by kernel_rfl) (WD.takeY 20 19 rfl rfl rfl rfl rfl h18 (by kernel_rfl) (by kernel_rfl) (by kernel_rfl) (ok_pick_t rfl h21) (WD.take 21 rfl rfl rfl (by kernel_rfl) (by kernel_rfl) (by kernel_rfl) (ok_pick_t rfl h18) (WD.done (by kernel_rfl) (thn_n (WC.cond_t rfl rfl (WC.region (W.mv (W.as ?_))))))))
      refine W.nil (blk_n (thn_n (WC.region (W.mv (W.ok (ok_add rfl rfl (by omega)) (W.as (W.nil (thn_n ?_))))))))
      exact ⟨hG6, ((j + 1, (j : Int)) : Nat × Int), ⟨eqv, eqv, eqv, eqv, trivial⟩, ⟨rfl, by
      have hout : l[j] ∉ (sortU l).take n := by simpa using h18
      rcases hinv with ⟨h1, h2⟩ | ⟨i, hi, h1, h2, h3, h4⟩
      · exact .inr ⟨j, by omega, rfl, by dsimp only; omega, hout, fun q hq hqj hn => by
          by_cases e : q = j
          · subst e; exact Str.lt_irrefl _
          · exact absurd (h2 q hq (by dsimp only at hqj; omega)) hn⟩
      · exfalso; omega⟩, by dsimp only; omega⟩
     ·have p21 := of_decide_eq_false h21
      obtain ⟨i0, hi0, hc0, hij0, hni0, hmin0⟩ := hinv.resolve_left (fun h => by omega)
      refine WD.takeY 11 22 rfl rfl rfl rfl rfl h21 (by kernel_rfl) (by kernel_rfl) (by kernel_rfl) (ok_mv) (WD.takeY 12 22 rfl rfl rfl rfl rfl h21 (by kernel_rfl) (by kernel_rfl) (by kernel_rfl) (ok_mv) ?_)
      have q13 := (h_l.mono ((hG1.trans hG2).trans hG6)).at (i := j) (by omega)
      refine match q13 with | ⟨_, he11, e_12⟩ => ?_
      subst e_12
      refine WD.takeY 13 22 rfl rfl rfl rfl rfl h21 (by kernel_rfl) (by kernel_rfl) (by kernel_rfl) (ok_indexAddr (i := j) sl43 ty9 (h_l.mono ((hG1.trans hG2).trans hG6)) rfl rfl ⟨by dsimp only, by omega⟩) (WD.takeY 14 22 rfl rfl rfl rfl rfl h21 (by kernel_rfl) (by kernel_rfl) (by kernel_rfl) (ok_loadE (vs := [.string _]) ty9 he11 rfl rfl rfl (by simp)) (WD.takeY 15 22 rfl rfl rfl rfl rfl h21 (by kernel_rfl) (by kernel_rfl) (by kernel_rfl) (ok_mv) (WD.takeY 16 22 rfl rfl rfl rfl rfl h21 (by kernel_rfl) (by kernel_rfl) (by kernel_rfl) (ok_mv) ?_)))
      have q16 := (h_l.mono ((hG1.trans hG2).trans hG6)).at (i := i0) (by omega)
      refine match q16 with | ⟨_, he14, e_15⟩ => ?_
      subst e_15
      refine WD.takeY 17 22 rfl rfl rfl rfl rfl h21 (by kernel_rfl) (by kernel_rfl) (by kernel_rfl) (ok_indexAddr (i := i0) sl43 ty9 (h_l.mono ((hG1.trans hG2).trans hG6)) rfl rfl ⟨by dsimp only; omega, by omega⟩) (WD.takeY 18 22 rfl rfl rfl rfl rfl h21 (by kernel_rfl) (by kernel_rfl) (by kernel_rfl) (ok_loadE (vs := [.string _]) ty9 he14 rfl rfl rfl (by simp)) (WD.anyG [19] (by kernel_rfl) rfl ⟨⟨_, rfl, .inr ⟨_, 22, _, _, rfl, rfl, rfl, h21, rfl⟩, (W.qcall (less_fc _ _) rfl (W.nil ⟨Le.rfl, List.nil_sublist _, _, List.nil_sublist _, List.Sublist.refl _, (WD.takeY 20 19 rfl rfl rfl rfl rfl h18 (by kernel_rfl) (by kernel_rfl) (by kernel_rfl) (ok_pick_f rfl h21) (WD.take 21 rfl rfl rfl (by kernel_rfl) (by kernel_rfl) (by kernel_rfl) (ok_pick_t rfl h18) (WD.done (by kernel_rfl) (thn_n ?_))))⟩))⟩, trivial⟩))
      refine WC.cond (b := _) rfl (fun h31 => ?_) (fun h31 => ?_)
      ·refine WC.region (W.mv (W.as (W.nil (blk_n (thn_n (WC.region (W.mv (W.ok (ok_add rfl rfl (by omega)) (W.as ?_)))))))))
       refine W.nil (thn_n ?_)
       exact ⟨hG6, ((j + 1, (j : Int)) : Nat × Int), ⟨eqv, eqv, eqv, eqv, trivial⟩, ⟨rfl, by
      have hout : l[j] ∉ (sortU l).take n := by simpa using h18
      exact .inr ⟨j, by omega, rfl, by dsimp only; omega, hout, fun q hq hqj hn => by
          by_cases e : q = j
          · subst e; exact Str.lt_irrefl _
          · cases hlt : l[q].lt l[j]
            · rfl
            · have h5 := Str.lt_trans hlt h31
              rw [hmin0 q hq (by dsimp only at hqj; omega) hn] at h5; cases h5⟩⟩, by dsimp only; omega⟩
      ·refine WC.skip (blk_n (thn_n (WC.region (W.mv (W.ok (ok_add rfl rfl (by omega)) (W.as (W.nil (thn_n ?_))))))))
       exact ⟨hG6, ((j + 1, c) : Nat × Int), ⟨eqv, eqv, eqv, eqv, trivial⟩, ⟨rfl, by
      exact .inr ⟨i0, hi0, hc0, by dsimp only; omega, hni0, fun q hq hqj hn => by
          by_cases e : q = j
          · subst e; exact h31
          · exact hmin0 q hq (by dsimp only at hqj; omega) hn⟩⟩, by dsimp only; omega⟩
    ·refine WD.takeN 8 19 rfl rfl rfl rfl rfl h18 (by kernel_rfl) (by kernel_rfl) (by kernel_rfl) (WD.takeN 9 19 rfl rfl rfl rfl rfl h18 (by kernel_rfl) (by kernel_rfl) (by kernel_rfl) (WD.takeN 10 19 rfl rfl rfl rfl rfl h18 (by kernel_rfl) (by kernel_rfl) (by kernel_rfl) (WD.takeU 11 22 rfl rfl rfl rfl rfl (by kernel_rfl) (by kernel_rfl) (by kernel_rfl) (WD.takeU 12 22 rfl rfl rfl rfl rfl (by kernel_rfl) (by kernel_rfl) (by kernel_rfl) (WD.takeU 13 22 rfl rfl rfl rfl rfl (by kernel_rfl) (by kernel_rfl) (by kernel_rfl) (WD.takeU 14 22 rfl rfl rfl rfl rfl (by kernel_rfl) (by kernel_rfl) (by kernel_rfl) (WD.takeU 15 22 rfl rfl rfl rfl rfl (by kernel_rfl) (by kernel_rfl) (by kernel_rfl) ?_)))))))
     refine WD.takeU 16 22 rfl rfl rfl rfl rfl (by kernel_rfl) (by kernel_rfl) (by kernel_rfl) (WD.takeU 17 22 rfl rfl rfl rfl rfl (by kernel_rfl) (by kernel_rfl) (by kernel_rfl) (WD.takeU 18 22 rfl rfl rfl rfl rfl (by kernel_rfl) (by kernel_rfl) (by kernel_rfl) (WD.takeU 19 22 rfl rfl rfl rfl rfl (by kernel_rfl) (by kernel_rfl) (by kernel_rfl) (WD.takeN 20 19 rfl rfl rfl rfl rfl h18 (by kernel_rfl) (by kernel_rfl) (by kernel_rfl) (WD.take 21 rfl rfl rfl (by kernel_rfl) (by kernel_rfl) (by kernel_rfl) (ok_pick_f rfl h18) (WD.done (by kernel_rfl) (thn_n (WC.cond_f rfl rfl ?_))))))))
     refine WC.skip (blk_n (thn_n (WC.region (W.mv (W.ok (ok_add rfl rfl (by omega)) (W.as (W.nil (thn_n ?_))))))))
     exact ⟨hG6, ((j + 1, c) : Nat × Int), ⟨eqv, eqv, eqv, eqv, trivial⟩, ⟨rfl, by
      have hin : l[j] ∈ (sortU l).take n := by simpa using h18
      rcases hinv with ⟨h1, h2⟩ | ⟨i, hi, h1, h2, h3, h4⟩
      · exact .inl ⟨h1, fun q hq hqj => by
          by_cases e : q = j
          · subst e; exact hin
          · exact h2 q hq (by dsimp only at hqj; omega)⟩
      · exact .inr ⟨i, hi, h1, by dsimp only; omega, h3, fun q hq hqj hn => by
          by_cases e : q = j
          · subst e; exact absurd hin hn
          · exact h4 q hq (by dsimp only at hqj; omega) hn⟩⟩, by dsimp only; omega⟩
   ·have p9 := of_decide_eq_false h9
    refine WC.exit (thn_x (thn_x (blk_h (thn_n (WC.seq (WC.seq (WC.region (W.mv (W.ok (ok_lss rfl rfl) (W.nil (thn_n ?_)))))))))))
    refine WC.cond (b := _) rfl (fun h36 => ?_) (fun h36 => ?_)
    ·have p36 := of_decide_eq_true h36
     have hall : ∀ x ∈ l, x ∈ (sortU l).take n := by
       rcases hinv with ⟨h1, h2⟩ | ⟨i, hi, h1, h2, h3, h4⟩
       · exact fun x hx => by obtain ⟨q, hq, rfl⟩ := List.getElem_of_mem hx; exact h2 q hq (by omega)
       · exfalso; omega
     refine WC.seq (WC.region (W.mv (W.as (W.nil (thn_n (WC.giveO (ho_3.mono hG2) (List.Perm.refl _) (fun G17 hG17 hv17 => (WC.ret (thn_r (blk_r (thn_r (blk_r ?_))))))))))))
     refine ⟨.inr rfl, [_], ⟨rfl, trivial⟩, [], List.nil_sublist _, ?_⟩
     refine ⟨rfl, _, rfl, ?_⟩
     · exact SlR.cast hv17 (take_all hn hall)
    ·have p36 := of_decide_eq_false h36
     obtain ⟨i0, hi0, hc0, hij0, hni0, hmin0⟩ := hinv.resolve_left (fun h => by omega)
     obtain ⟨hnl, hne⟩ := next_least hn (List.getElem_mem hi0) hni0 (fun y hy hyn => by obtain ⟨q, hq, rfl⟩ := List.getElem_of_mem hy; exact hmin0 q hq (by omega) hyn)
     refine WC.skip (thn_n (WC.region (W.mv (W.mv (W.mv ?_)))))
     have q20 := (h_l.mono (hG1.trans hG2)).at (i := i0) (by omega)
     refine match q20 with | ⟨_, he18, e_19⟩ => ?_
     subst e_19
     refine W.ok (ok_indexAddr (i := i0) sl43 ty9 (h_l.mono (hG1.trans hG2)) rfl rfl ⟨by dsimp only; omega, by omega⟩) (W.ok (ok_loadE (vs := [.string _]) ty9 he18 rfl rfl rfl (by simp)) (W.lit (e := eStr) (l := [_]) (css := [[.string _]]) sl43 ty9 zr9 rfl rfl rfl rfl rfl rfl ⟨rfl, trivial⟩ (fun bl21 G21 hG21 hv21 => (W.app (e := eStr) sl43 ty9 zr9 rfl by9 rfl rfl ((ho_3.mono (hG2.trans hG21))) (hv21) (List.Perm.refl _) (by show (_ + 1) * 16 ≤ _; omega) (fun v22 Ms23 ho24 => (W.as (W.nil (blk_n (thn_n ?_)))))))))
     exact ⟨(hG2.trans hG21), (n + 1, v22, Ms23), ⟨eqv, eqv, trivial⟩, ⟨rfl, (by have h := ho24; rw [List.take_succ_eq_append_getElem hnl, hne]; exact h), by omega⟩, by omega⟩

end Go.Proofs.YtebkfinhhpelbaaGreat
