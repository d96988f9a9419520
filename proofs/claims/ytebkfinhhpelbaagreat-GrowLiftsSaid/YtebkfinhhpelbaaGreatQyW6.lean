/- Walks of functions on rows, by definition. -/
import Derived.Test.YtebkfinhhpelbaaGreatQyW5
namespace Go.Proofs.YtebkfinhhpelbaaGreat
open Go Go.Fw Go.RowKit
set_option maxRecDepth 100000
set_option maxHeartbeats 1600000
set_option linter.unusedVariables false
set_option linter.unusedSimpArgs false
set_option linter.unnecessarySimpa false
theorem rwith_fc {G : GH} {v_l : Value} {l : List Pair} (h_l : SlR ePair G v_l l) (k : Str) (ek : Int) (ev : Str) (hP : PairsR l) (hn : l.length ≤ 1000000) (he : ev.b.size ≤ 1048576) :
    Fc Tryz.prog 210 [v_l, .string k.b, .agg #[.int .i64 ek, .string ev.b]] G [] (fun v G' M' => M' = [] ∧ ∃ u0, v = u0 ∧ SlR ePair G' u0 (withN l k (⟨ek, ev⟩ : Eff))) := by
 obtain ⟨sa_l, sc_l, rfl⟩ := h_l.form
 have hl := h_l.len47
 have hgv := hP.val k
 refine Fc.intro (rs := [.tmp 6]) cl210 Tryz.func210 rfl Tryz.ntmps210 rfl rfl (fun w0 => ?_)
 refine WC.seq (WC.region (W.box (L := [.int .i64 _, .string _]) rfl rfl (fun b1 => (W.as (W.nil (thn_n (WC.seq (WC.region (W.as ?_)))))))))
 refine W.nil (thn_n (WC.seq (WC.seq (WC.region (W.as (W.nil (thn_n (WC.block ?_))))))))
 refine WC.loop (X := (Nat) × Value × MH) (fun i => [(8, .int .i64 ((i.1 : Nat) : Int)), (5, .pointer (some ⟨b1, 0, none⟩)), (0, .slice sa_l l.length sc_l), (1, .string k.b), (7, i.2.1)]) (fun i G Ml => Ml = ((b1, .cells (List.toArray [.int .i64 ek, .string ev.b]) 211 (0, 0)) :: (i.2.2 ++ [])) ∧ OwnR ePair 69 G i.2.1 (List.filter (fun p : Pair => p.key.lt k) (l.take i.1)) i.2.2 ∧ i.1 ≤ l.length) (fun i => l.length - i.1) (0, .slice none 0 0, ([] : MH)) ⟨eqv, eqv, eqv, eqv, eqv, trivial⟩ ?_ ?_
 ·exact ⟨rfl, (by simpa using OwnR.nil), by omega⟩
 ·rintro ⟨i, v_7, M_7⟩ gG2 G2 _ hG2 ⟨rfl, ho_7, hi⟩
  try dsimp only at ho_7 hi
  have hfl := filt_le (fun p : Pair => p.key.lt k) l i
  refine WC.fr (f := setL gG2 [(8, .int .i64 ((i : Nat) : Int)), (5, .pointer (some ⟨b1, 0, none⟩)), (0, .slice sa_l l.length sc_l), (1, .string k.b), (7, v_7)]) rfl (WC.seq (WC.seq (WC.region (W.mv (W.mv (W.ok (ok_len sl41 (h_l.mono hG2) rfl) (W.ok (ok_lss rfl rfl) ?_)))))))
  refine W.nil (thn_n ?_)
  refine WC.cond (b := _) rfl (fun h17 => ?_) (fun h17 => ?_)
  ·have p17 := of_decide_eq_true h17
   refine WC.skip (thn_n (WC.seq (WC.block (WC.seq (WC.region (W.mv (W.mv ?_)))))))
   have q5 := (h_l.mono hG2).at (i := i) (by omega)
   refine match q5 with | ⟨_, he3, e_4⟩ => ?_
   subst e_4
   refine W.ok (ok_indexAddr (i := i) sl41 ty69 (h_l.mono hG2) rfl rfl ⟨by omega, by omega⟩) (W.ok (ok_fieldE fd69_0 rfl he3.form) (W.ok (ok_loadE (vs := [.string _]) ty9 he3 rfl rfl rfl (by simp)) (W.mv (W.qcall (less_fc _ _) rfl (W.nil (thn_n ?_))))))
   refine WC.cond (b := _) rfl (fun h26 => ?_) (fun h26 => ?_)
   ·refine WC.region (W.mv (W.mv (W.mv ?_)))
    have q8 := (h_l.mono hG2).at (i := i) (by omega)
    refine match q8 with | ⟨_, he6, e_7⟩ => ?_
    subst e_7
    refine W.ok (ok_indexAddr (i := i) sl41 ty69 (h_l.mono hG2) rfl rfl ⟨by omega, by omega⟩) (W.ok (ok_loadE (vs := [.string _, .string _]) ty69 he6 rfl rfl rfl (by simp)) (W.lit (e := ePair) (l := [((l)[i])]) (css := [[.string _, .string _]]) sl41 ty69 zr69 rfl rfl rfl rfl rfl rfl ⟨rfl, trivial⟩ (fun bl9 G9 hG9 hv9 => (W.app (e := ePair) sl41 ty69 zr69 rfl by69 rfl rfl ((ho_7.mono hG9)) (hv9) (pmC (List.Perm.refl _)) (by show (_ + 1) * 32 ≤ _; (try simp only [List.length_append] at *); omega) (fun v10 Ms11 ho12 => (W.perm (pmC (List.Perm.refl _)).symm (W.as (W.nil (blk_n (thn_n (WC.region ?_)))))))))))
    refine W.mv (W.ok (ok_add rfl rfl (by omega)) (W.as (W.nil (thn_n ?_))))
    exact ⟨hG9, (i + 1, v10, Ms11), ⟨eqv, eqv, eqv, eqv, eqv, trivial⟩, ⟨rfl, (by have h := ho12; rw [filt_t (p := (fun p : Pair => p.key.lt k)) (by omega) (by simpa using h26)]; exact h), by omega⟩, by omega⟩
   ·refine WC.skip (blk_n (thn_n (WC.region (W.mv (W.ok (ok_add rfl rfl (by omega)) (W.as (W.nil (thn_n ?_))))))))
    exact ⟨Le.rfl, (i + 1, v_7, M_7), ⟨eqv, eqv, eqv, eqv, eqv, trivial⟩, ⟨rfl, (by have h := ho_7; rw [filt_f (p := (fun p : Pair => p.key.lt k)) (by omega) (by simpa using h26)]; exact h), by omega⟩, by omega⟩
  ·have p17 := of_decide_eq_false h17
   refine WC.exit (thn_x (thn_x (blk_h (thn_n (WC.seq (WC.region (W.mv (W.mv (W.qcall (rget_fc (h_l.mono hG2) _) rfl (W.mv (W.ok (ok_extract rfl rfl) ?_)))))))))))
   refine W.ok (ok_extract rfl rfl) (W.as (W.as (W.nil (thn_n (WC.seq (WC.region (W.ok (ok_loadB (i := 0) (vs := [.int .i64 _, .string _]) ty211 rfl rfl rfl rfl (by simp)) (W.mv ?_))))))))
   refine W.mv (W.qcall (rapply_fc _ _ _ _ (by first | assumption | omega | (dsimp only; omega) | (simp; omega)) (by first | assumption | omega | (dsimp only; omega) | (simp; omega))) rfl (W.mv (W.ok (ok_extract rfl rfl) (W.ok (ok_extract rfl rfl) (W.as (W.as (W.nil (thn_n ?_))))))))
   refine WC.seq (WC.seq (WC.region (W.mv (W.nil (thn_n ?_)))))
   refine WC.cond (b := _) rfl (fun h44_0 => ?_) (fun h44_0 => ?_)
   ·refine WC.region (W.mv (W.mv (W.mv (W.ok (ok_build (L := [.string _, .string _]) pl69 zr69 rfl rfl rfl) (W.lit (e := ePair) (l := [⟨k, (((Eff.apply (⟨(ek), (ev)⟩ : Eff) (optS (((getN (l) (k)).isSome)) (((getN (l) (k)).getD Str.nil))))).getD Str.nil)⟩]) (css := [[.string _, .string _]]) sl41 ty69 zr69 rfl rfl rfl rfl rfl rfl ⟨rfl, trivial⟩ (fun bl13 G13 hG13 hv13 => (W.app (e := ePair) sl41 ty69 zr69 rfl by69 rfl rfl ((ho_7.mono hG13)) (hv13) (pmC (List.Perm.refl _)) (by show (_ + 1) * 32 ≤ _; (try simp only [List.length_append] at *); omega) (fun v14 Ms15 ho16 => (W.perm (pmC (List.Perm.refl _)).symm ?_)))))))))
    refine W.as (W.nil (thn_n (WC.seq (WC.seq (WC.region (W.as (W.nil (thn_n (WC.block ?_)))))))))
    refine WC.loop (X := (Nat) × Value × MH) (fun i => [(13, .int .i64 ((i.1 : Nat) : Int)), (0, .slice sa_l l.length sc_l), (1, .string k.b), (7, i.2.1)]) (fun i G Ml => Ml = ((b1, .cells (List.toArray [.int .i64 ek, .string ev.b]) 211 (0, 0)) :: (i.2.2 ++ [])) ∧ OwnR ePair 69 G i.2.1 ((List.filter (fun p : Pair => p.key.lt k) l ++ midN (Eff.apply (⟨ek, ev⟩ : Eff) (getN l k)) k) ++ List.filter (fun p : Pair => k.lt p.key) (l.take i.1)) i.2.2 ∧ i.1 ≤ l.length) (fun i => l.length - i.1) (0, v14, Ms15) ⟨eqv, eqv, eqv, eqv, trivial⟩ ?_ ?_
    ·exact ⟨rfl, (by have h := ho16; rw [List.take_of_length_le (by omega)] at h; have hs := h44_0; rw [optS_get] at hs; rw [midN_some hs]; rw [optS_get] at h; simpa using h), by omega⟩
    ·rintro ⟨i, v_7, M_7⟩ gG17 G17 _ hG17 ⟨rfl, ho_7, hi⟩
     try dsimp only at ho_7 hi
     have hfl := filt_le (fun p : Pair => k.lt p.key) l i
     have hfl2 := List.length_filter_le (fun p : Pair => p.key.lt k) l
     have hml := midN_le (Eff.apply (⟨ek, ev⟩ : Eff) (getN l k)) k
     refine WC.fr (f := setL gG17 [(13, .int .i64 ((i : Nat) : Int)), (0, .slice sa_l l.length sc_l), (1, .string k.b), (7, v_7)]) rfl (WC.seq (WC.seq (WC.region (W.mv (W.mv (W.ok (ok_len sl41 (h_l.mono ((hG2.trans hG13).trans hG17)) rfl) (W.ok (ok_lss rfl rfl) ?_)))))))
     refine W.nil (thn_n ?_)
     refine WC.cond (b := _) rfl (fun h57 => ?_) (fun h57 => ?_)
     ·have p57 := of_decide_eq_true h57
      refine WC.skip (thn_n (WC.seq (WC.block (WC.seq (WC.region (W.mv (W.mv (W.mv ?_))))))))
      have q20 := (h_l.mono ((hG2.trans hG13).trans hG17)).at (i := i) (by omega)
      refine match q20 with | ⟨_, he18, e_19⟩ => ?_
      subst e_19
      refine W.ok (ok_indexAddr (i := i) sl41 ty69 (h_l.mono ((hG2.trans hG13).trans hG17)) rfl rfl ⟨by omega, by omega⟩) (W.ok (ok_fieldE fd69_0 rfl he18.form) (W.ok (ok_loadE (vs := [.string _]) ty9 he18 rfl rfl rfl (by simp)) (W.qcall (less_fc _ _) rfl (W.nil (thn_n ?_)))))
      refine WC.cond (b := _) rfl (fun h66 => ?_) (fun h66 => ?_)
      ·refine WC.region (W.mv (W.mv (W.mv ?_)))
       have q23 := (h_l.mono ((hG2.trans hG13).trans hG17)).at (i := i) (by omega)
       refine match q23 with | ⟨_, he21, e_22⟩ => ?_
       subst e_22
       refine W.ok (ok_indexAddr (i := i) sl41 ty69 (h_l.mono ((hG2.trans hG13).trans hG17)) rfl rfl ⟨by omega, by omega⟩) (W.ok (ok_loadE (vs := [.string _, .string _]) ty69 he21 rfl rfl rfl (by simp)) (W.lit (e := ePair) (l := [((l)[i])]) (css := [[.string _, .string _]]) sl41 ty69 zr69 rfl rfl rfl rfl rfl rfl ⟨rfl, trivial⟩ (fun bl24 G24 hG24 hv24 => (W.app (e := ePair) sl41 ty69 zr69 rfl by69 rfl rfl ((ho_7.mono hG24)) (hv24) (pmC (List.Perm.refl _)) (by show (_ + 1) * 32 ≤ _; (try simp only [List.length_append] at *); omega) (fun v25 Ms26 ho27 => (W.perm (pmC (List.Perm.refl _)).symm (W.as (W.nil (blk_n (thn_n (WC.region ?_)))))))))))
       refine W.mv (W.ok (ok_add rfl rfl (by omega)) (W.as (W.nil (thn_n ?_))))
       exact ⟨hG24, (i + 1, v25, Ms26), ⟨eqv, eqv, eqv, eqv, trivial⟩, ⟨rfl, (by have h := ho27; rw [filt_t (p := (fun p : Pair => k.lt p.key)) (by omega) (by simpa using h66), ← List.append_assoc]; exact h), by omega⟩, by omega⟩
      ·refine WC.skip (blk_n (thn_n (WC.region (W.mv (W.ok (ok_add rfl rfl (by omega)) (W.as (W.nil (thn_n ?_))))))))
       exact ⟨Le.rfl, (i + 1, v_7, M_7), ⟨eqv, eqv, eqv, eqv, trivial⟩, ⟨rfl, (by have h := ho_7; rw [filt_f (p := (fun p : Pair => k.lt p.key)) (by omega) (by simpa using h66)]; exact h), by omega⟩, by omega⟩
     ·have p57 := of_decide_eq_false h57
      refine WC.exit (thn_x (thn_x (blk_h (thn_n (WC.seq (WC.region (W.mv (W.as (W.nil (thn_n (WC.giveO ho_7 (pmC (List.Perm.refl _)) (fun G28 hG28 hv28 => (WC.ret ?_)))))))))))))
      refine ⟨.inr rfl, [_], ⟨rfl, trivial⟩, [], List.nil_sublist _, ?_⟩
      refine ⟨rfl, _, rfl, ?_⟩
      · have h := hv28; rw [List.take_of_length_le (by omega), ← withN_mid] at h; exact h
   ·refine WC.skip (thn_n (WC.seq (WC.seq (WC.region (W.as (W.nil (thn_n (WC.block ?_))))))))
    refine WC.loop (X := (Nat) × Value × MH) (fun i => [(13, .int .i64 ((i.1 : Nat) : Int)), (0, .slice sa_l l.length sc_l), (1, .string k.b), (7, i.2.1)]) (fun i G Ml => Ml = ((b1, .cells (List.toArray [.int .i64 ek, .string ev.b]) 211 (0, 0)) :: (i.2.2 ++ [])) ∧ OwnR ePair 69 G i.2.1 ((List.filter (fun p : Pair => p.key.lt k) l ++ midN (Eff.apply (⟨ek, ev⟩ : Eff) (getN l k)) k) ++ List.filter (fun p : Pair => k.lt p.key) (l.take i.1)) i.2.2 ∧ i.1 ≤ l.length) (fun i => l.length - i.1) (0, v_7, M_7) ⟨eqv, eqv, eqv, eqv, trivial⟩ ?_ ?_
    ·exact ⟨rfl, (by have h := ho_7; rw [List.take_of_length_le (by omega)] at h; have hs := h44_0; rw [optS_get] at hs; rw [midN_none hs]; simpa using h), by omega⟩
    ·rintro ⟨i, v_7, M_7⟩ gG29 G29 _ hG29 ⟨rfl, ho_7, hi⟩
     try dsimp only at ho_7 hi
     have hfl := filt_le (fun p : Pair => k.lt p.key) l i
     have hfl2 := List.length_filter_le (fun p : Pair => p.key.lt k) l
     have hml := midN_le (Eff.apply (⟨ek, ev⟩ : Eff) (getN l k)) k
     refine WC.fr (f := setL gG29 [(13, .int .i64 ((i : Nat) : Int)), (0, .slice sa_l l.length sc_l), (1, .string k.b), (7, v_7)]) rfl (WC.seq (WC.seq (WC.region (W.mv (W.mv (W.ok (ok_len sl41 (h_l.mono (hG2.trans hG29)) rfl) (W.ok (ok_lss rfl rfl) ?_)))))))
     refine W.nil (thn_n ?_)
     refine WC.cond (b := _) rfl (fun h57 => ?_) (fun h57 => ?_)
     ·have p57 := of_decide_eq_true h57
      refine WC.skip (thn_n (WC.seq (WC.block (WC.seq (WC.region (W.mv (W.mv (W.mv ?_))))))))
      have q32 := (h_l.mono (hG2.trans hG29)).at (i := i) (by omega)
      refine match q32 with | ⟨_, he30, e_31⟩ => ?_
      subst e_31
      refine W.ok (ok_indexAddr (i := i) sl41 ty69 (h_l.mono (hG2.trans hG29)) rfl rfl ⟨by omega, by omega⟩) (W.ok (ok_fieldE fd69_0 rfl he30.form) (W.ok (ok_loadE (vs := [.string _]) ty9 he30 rfl rfl rfl (by simp)) (W.qcall (less_fc _ _) rfl (W.nil (thn_n ?_)))))
      refine WC.cond (b := _) rfl (fun h66 => ?_) (fun h66 => ?_)
      ·refine WC.region (W.mv (W.mv (W.mv ?_)))
       have q35 := (h_l.mono (hG2.trans hG29)).at (i := i) (by omega)
       refine match q35 with | ⟨_, he33, e_34⟩ => ?_
       subst e_34
       refine W.ok (ok_indexAddr (i := i) sl41 ty69 (h_l.mono (hG2.trans hG29)) rfl rfl ⟨by omega, by omega⟩) (W.ok (ok_loadE (vs := [.string _, .string _]) ty69 he33 rfl rfl rfl (by simp)) (W.lit (e := ePair) (l := [((l)[i])]) (css := [[.string _, .string _]]) sl41 ty69 zr69 rfl rfl rfl rfl rfl rfl ⟨rfl, trivial⟩ (fun bl36 G36 hG36 hv36 => (W.app (e := ePair) sl41 ty69 zr69 rfl by69 rfl rfl ((ho_7.mono hG36)) (hv36) (pmC (List.Perm.refl _)) (by show (_ + 1) * 32 ≤ _; (try simp only [List.length_append] at *); omega) (fun v37 Ms38 ho39 => (W.perm (pmC (List.Perm.refl _)).symm (W.as (W.nil (blk_n (thn_n (WC.region ?_)))))))))))
       refine W.mv (W.ok (ok_add rfl rfl (by omega)) (W.as (W.nil (thn_n ?_))))
       exact ⟨hG36, (i + 1, v37, Ms38), ⟨eqv, eqv, eqv, eqv, trivial⟩, ⟨rfl, (by have h := ho39; rw [filt_t (p := (fun p : Pair => k.lt p.key)) (by omega) (by simpa using h66), ← List.append_assoc]; exact h), by omega⟩, by omega⟩
      ·refine WC.skip (blk_n (thn_n (WC.region (W.mv (W.ok (ok_add rfl rfl (by omega)) (W.as (W.nil (thn_n ?_))))))))
       exact ⟨Le.rfl, (i + 1, v_7, M_7), ⟨eqv, eqv, eqv, eqv, trivial⟩, ⟨rfl, (by have h := ho_7; rw [filt_f (p := (fun p : Pair => k.lt p.key)) (by omega) (by simpa using h66)]; exact h), by omega⟩, by omega⟩
     ·have p57 := of_decide_eq_false h57
      refine WC.exit (thn_x (thn_x (blk_h (thn_n (WC.seq (WC.region (W.mv (W.as (W.nil (thn_n (WC.giveO ho_7 (pmC (List.Perm.refl _)) (fun G40 hG40 hv40 => (WC.ret ?_)))))))))))))
      refine ⟨.inr rfl, [_], ⟨rfl, trivial⟩, [], List.nil_sublist _, ?_⟩
      refine ⟨rfl, _, rfl, ?_⟩
      · have h := hv40; rw [List.take_of_length_le (by omega), ← withN_mid] at h; exact h

end Go.Proofs.YtebkfinhhpelbaaGreat
