/- Walks of functions on rows, by definition. -/
import Derived.Test.YthmkpaoolhcibaaDoorW5
namespace Go.Proofs.YthmkpaoolhcibaaDoor
open Go Go.Fw Go.RowKit
set_option maxRecDepth 100000
set_option maxHeartbeats 1600000
set_option linter.unusedVariables false
set_option linter.unusedSimpArgs false
set_option linter.unnecessarySimpa false
theorem rwith_fc {G : GH} {v_l : Value} {l : List Pair} (h_l : SlR ePair G v_l l) (k : Str) (ek : Int) (ev : Str) (hP : PairsR l) (hn : l.length ≤ 1000000) (he : ev.b.size ≤ 1048576) :
    Fc Tryd.prog 59 [v_l, .string k.b, .agg #[.int .i64 ek, .string ev.b]] G [] (fun v G' M' => M' = [] ∧ ∃ u0, v = u0 ∧ SlR ePair G' u0 (withN l k (⟨ek, ev⟩ : Eff))) := by
 obtain ⟨sa_l, sc_l, rfl⟩ := h_l.form
 have hl := h_l.len47
 have hgv := hP.val k
 refine Fc.intro (rs := [.tmp 6]) cl59 Tryd.func59 rfl Tryd.ntmps59 rfl rfl (fun w0 => ?_)
 refine WC.seq ?_
 refine WC.region ?_
 refine W.box (L := [.int .i64 _, .string _]) rfl rfl (fun b1 => ?_)
 refine W.as ?_
 refine W.nil (thn_n ?_)
 refine WC.seq ?_
 refine WC.region ?_
 refine W.as ?_
 refine W.nil (thn_n ?_)
 refine WC.seq ?_
 refine WC.seq ?_
 refine WC.region ?_
 refine W.as ?_
 refine W.nil (thn_n ?_)
 refine WC.block ?_
 refine WC.loop (X := (Nat) × Value × MH) (fun i => [(8, .int .i64 ((i.1 : Nat) : Int)), (5, .pointer (some ⟨b1, 0, none⟩)), (0, .slice sa_l l.length sc_l), (1, .string k.b), (7, i.2.1)]) (fun i G Ml => Ml = ((b1, .cells (List.toArray [.int .i64 ek, .string ev.b]) 86 (0, 0)) :: (i.2.2 ++ [])) ∧ OwnR ePair 45 G i.2.1 (List.filter (fun p : Pair => p.key.lt k) (l.take i.1)) i.2.2 ∧ i.1 ≤ l.length) (fun i => l.length - i.1) (0, .slice none 0 0, ([] : MH)) ⟨(by first | rfl | exact iv (by dsimp only; omega) | exact iv (by omega)), (by first | rfl | exact iv (by dsimp only; omega) | exact iv (by omega)), (by first | rfl | exact iv (by dsimp only; omega) | exact iv (by omega)), (by first | rfl | exact iv (by dsimp only; omega) | exact iv (by omega)), (by first | rfl | exact iv (by dsimp only; omega) | exact iv (by omega)), trivial⟩ ?_ ?_
 ·exact ⟨rfl, (by simpa using OwnR.nil), by omega⟩
 ·rintro ⟨i, v_7, M_7⟩ gG2 G2 _ hG2 ⟨rfl, ho_7, hi⟩
  try dsimp only at ho_7 hi
  have hfl := filt_le (fun p : Pair => p.key.lt k) l i
  refine WC.fr (f := setL gG2 [(8, .int .i64 ((i : Nat) : Int)), (5, .pointer (some ⟨b1, 0, none⟩)), (0, .slice sa_l l.length sc_l), (1, .string k.b), (7, v_7)]) rfl ?_
  refine WC.seq ?_
  refine WC.seq ?_
  refine WC.region ?_
  refine W.mv ?_
  refine W.mv ?_
  refine W.ok (ok_len sl25 (h_l.mono hG2) rfl) ?_
  refine W.ok (ok_lss rfl rfl) ?_
  refine W.nil (thn_n ?_)
  refine WC.cond (b := _) rfl (fun h17 => ?_) (fun h17 => ?_)
  ·have p17 := of_decide_eq_true h17
   refine WC.skip (thn_n ?_)
   refine WC.seq ?_
   refine WC.block ?_
   refine WC.seq ?_
   refine WC.region ?_
   refine W.mv ?_
   refine W.mv ?_
   have q5 := (h_l.mono hG2).at (i := i) (by omega)
   refine match q5 with | ⟨_, he3, e_4⟩ => ?_
   subst e_4
   refine W.ok (ok_indexAddr (i := i) sl25 ty45 (h_l.mono hG2) rfl rfl ⟨by omega, by omega⟩) ?_
   refine W.ok (ok_fieldE fd45_0 rfl he3.form) ?_
   refine W.ok (ok_loadE (vs := [.string _]) ty9 he3 rfl rfl rfl (by simp)) ?_
   refine W.mv ?_
   refine W.qcall (less_fc _ _) rfl ?_
   refine W.nil (thn_n ?_)
   refine WC.cond (b := _) rfl (fun h26 => ?_) (fun h26 => ?_)
   ·refine WC.region ?_
    refine W.mv ?_
    refine W.mv ?_
    refine W.mv ?_
    have q8 := (h_l.mono hG2).at (i := i) (by omega)
    refine match q8 with | ⟨_, he6, e_7⟩ => ?_
    subst e_7
    refine W.ok (ok_indexAddr (i := i) sl25 ty45 (h_l.mono hG2) rfl rfl ⟨by omega, by omega⟩) ?_
    refine W.ok (ok_loadE (vs := [.string _, .string _]) ty45 he6 rfl rfl rfl (by simp)) ?_
    refine W.lit (e := ePair) (l := [((l)[i])]) (css := [[.string _, .string _]]) sl25 ty45 zr45 rfl rfl rfl rfl rfl rfl ⟨rfl, trivial⟩ (fun bl9 G9 hG9 hv9 => ?_)
    refine W.app (e := ePair) sl25 ty45 zr45 rfl by45 rfl rfl ((ho_7.mono hG9)) (hv9) (pmC (List.Perm.refl _)) (by show (_ + 1) * 32 ≤ _; (try simp only [List.length_append] at *); omega) (fun v10 Ms11 ho12 => ?_)
    refine W.perm (pmC (List.Perm.refl _)).symm ?_
    refine W.as ?_
    refine W.nil (blk_n (thn_n ?_))
    refine WC.region ?_
    refine W.mv ?_
    refine W.ok (ok_add rfl rfl (by omega)) ?_
    refine W.as ?_
    refine W.nil (thn_n ?_)
    exact ⟨hG9, (i + 1, v10, Ms11), ⟨(by first | rfl | exact iv (by dsimp only; omega) | exact iv (by omega)), (by first | rfl | exact iv (by dsimp only; omega) | exact iv (by omega)), (by first | rfl | exact iv (by dsimp only; omega) | exact iv (by omega)), (by first | rfl | exact iv (by dsimp only; omega) | exact iv (by omega)), (by first | rfl | exact iv (by dsimp only; omega) | exact iv (by omega)), trivial⟩, ⟨rfl, (by have h := ho12; rw [filt_t (p := (fun p : Pair => p.key.lt k)) (by omega) (by simpa using h26)]; exact h), by omega⟩, by omega⟩
   ·refine WC.skip (blk_n (thn_n ?_))
    refine WC.region ?_
    refine W.mv ?_
    refine W.ok (ok_add rfl rfl (by omega)) ?_
    refine W.as ?_
    refine W.nil (thn_n ?_)
    exact ⟨Le.rfl, (i + 1, v_7, M_7), ⟨(by first | rfl | exact iv (by dsimp only; omega) | exact iv (by omega)), (by first | rfl | exact iv (by dsimp only; omega) | exact iv (by omega)), (by first | rfl | exact iv (by dsimp only; omega) | exact iv (by omega)), (by first | rfl | exact iv (by dsimp only; omega) | exact iv (by omega)), (by first | rfl | exact iv (by dsimp only; omega) | exact iv (by omega)), trivial⟩, ⟨rfl, (by have h := ho_7; rw [filt_f (p := (fun p : Pair => p.key.lt k)) (by omega) (by simpa using h26)]; exact h), by omega⟩, by omega⟩
  ·have p17 := of_decide_eq_false h17
   refine WC.exit (thn_x (thn_x (blk_h (thn_n ?_))))
   refine WC.seq ?_
   refine WC.region ?_
   refine W.mv ?_
   refine W.mv ?_
   refine W.qcall (rget_fc (h_l.mono hG2) _) rfl ?_
   refine W.mv ?_
   refine W.ok (ok_extract rfl rfl) ?_
   refine W.ok (ok_extract rfl rfl) ?_
   refine W.as ?_
   refine W.as ?_
   refine W.nil (thn_n ?_)
   refine WC.seq ?_
   refine WC.region ?_
   refine W.ok (ok_loadB (i := 0) (vs := [.int .i64 _, .string _]) ty86 rfl rfl rfl rfl (by simp)) ?_
   refine W.mv ?_
   refine W.mv ?_
   refine W.qcall (rapply_fc _ _ _ _ (by first | assumption | omega | (dsimp only; omega) | (simp; omega)) (by first | assumption | omega | (dsimp only; omega) | (simp; omega))) rfl ?_
   refine W.mv ?_
   refine W.ok (ok_extract rfl rfl) ?_
   refine W.ok (ok_extract rfl rfl) ?_
   refine W.as ?_
   refine W.as ?_
   refine W.nil (thn_n ?_)
   refine WC.seq ?_
   refine WC.seq ?_
   refine WC.region ?_
   refine W.mv ?_
   refine W.nil (thn_n ?_)
   refine WC.cond (b := _) rfl (fun h44_0 => ?_) (fun h44_0 => ?_)
   ·refine WC.region ?_
    refine W.mv ?_
    refine W.mv ?_
    refine W.mv ?_
    refine W.ok (ok_build (L := [.string _, .string _]) pl45 zr45 rfl rfl rfl) ?_
    refine W.lit (e := ePair) (l := [⟨k, (((Eff.apply (⟨(ek), (ev)⟩ : Eff) (optS (((getN (l) (k)).isSome)) (((getN (l) (k)).getD Str.nil))))).getD Str.nil)⟩]) (css := [[.string _, .string _]]) sl25 ty45 zr45 rfl rfl rfl rfl rfl rfl ⟨rfl, trivial⟩ (fun bl13 G13 hG13 hv13 => ?_)
    refine W.app (e := ePair) sl25 ty45 zr45 rfl by45 rfl rfl ((ho_7.mono hG13)) (hv13) (pmC (List.Perm.refl _)) (by show (_ + 1) * 32 ≤ _; (try simp only [List.length_append] at *); omega) (fun v14 Ms15 ho16 => ?_)
    refine W.perm (pmC (List.Perm.refl _)).symm ?_
    refine W.as ?_
    refine W.nil (thn_n ?_)
    refine WC.seq ?_
    refine WC.seq ?_
    refine WC.region ?_
    refine W.as ?_
    refine W.nil (thn_n ?_)
    refine WC.block ?_
    refine WC.loop (X := (Nat) × Value × MH) (fun i => [(13, .int .i64 ((i.1 : Nat) : Int)), (0, .slice sa_l l.length sc_l), (1, .string k.b), (7, i.2.1)]) (fun i G Ml => Ml = ((b1, .cells (List.toArray [.int .i64 ek, .string ev.b]) 86 (0, 0)) :: (i.2.2 ++ [])) ∧ OwnR ePair 45 G i.2.1 ((List.filter (fun p : Pair => p.key.lt k) l ++ midN (Eff.apply (⟨ek, ev⟩ : Eff) (getN l k)) k) ++ List.filter (fun p : Pair => k.lt p.key) (l.take i.1)) i.2.2 ∧ i.1 ≤ l.length) (fun i => l.length - i.1) (0, v14, Ms15) ⟨(by first | rfl | exact iv (by dsimp only; omega) | exact iv (by omega)), (by first | rfl | exact iv (by dsimp only; omega) | exact iv (by omega)), (by first | rfl | exact iv (by dsimp only; omega) | exact iv (by omega)), (by first | rfl | exact iv (by dsimp only; omega) | exact iv (by omega)), trivial⟩ ?_ ?_
    ·exact ⟨rfl, (by have h := ho16; rw [List.take_of_length_le (by omega)] at h; have hs := h44_0; rw [optS_get] at hs; rw [midN_some hs]; rw [optS_get] at h; simpa using h), by omega⟩
    ·rintro ⟨i, v_7, M_7⟩ gG17 G17 _ hG17 ⟨rfl, ho_7, hi⟩
     try dsimp only at ho_7 hi
     have hfl := filt_le (fun p : Pair => k.lt p.key) l i
     have hfl2 := List.length_filter_le (fun p : Pair => p.key.lt k) l
     have hml := midN_le (Eff.apply (⟨ek, ev⟩ : Eff) (getN l k)) k
     refine WC.fr (f := setL gG17 [(13, .int .i64 ((i : Nat) : Int)), (0, .slice sa_l l.length sc_l), (1, .string k.b), (7, v_7)]) rfl ?_
     refine WC.seq ?_
     refine WC.seq ?_
     refine WC.region ?_
     refine W.mv ?_
     refine W.mv ?_
     refine W.ok (ok_len sl25 (h_l.mono ((hG2.trans hG13).trans hG17)) rfl) ?_
     refine W.ok (ok_lss rfl rfl) ?_
     refine W.nil (thn_n ?_)
     refine WC.cond (b := _) rfl (fun h57 => ?_) (fun h57 => ?_)
     ·have p57 := of_decide_eq_true h57
      refine WC.skip (thn_n ?_)
      refine WC.seq ?_
      refine WC.block ?_
      refine WC.seq ?_
      refine WC.region ?_
      refine W.mv ?_
      refine W.mv ?_
      refine W.mv ?_
      have q20 := (h_l.mono ((hG2.trans hG13).trans hG17)).at (i := i) (by omega)
      refine match q20 with | ⟨_, he18, e_19⟩ => ?_
      subst e_19
      refine W.ok (ok_indexAddr (i := i) sl25 ty45 (h_l.mono ((hG2.trans hG13).trans hG17)) rfl rfl ⟨by omega, by omega⟩) ?_
      refine W.ok (ok_fieldE fd45_0 rfl he18.form) ?_
      refine W.ok (ok_loadE (vs := [.string _]) ty9 he18 rfl rfl rfl (by simp)) ?_
      refine W.qcall (less_fc _ _) rfl ?_
      refine W.nil (thn_n ?_)
      refine WC.cond (b := _) rfl (fun h66 => ?_) (fun h66 => ?_)
      ·refine WC.region ?_
       refine W.mv ?_
       refine W.mv ?_
       refine W.mv ?_
       have q23 := (h_l.mono ((hG2.trans hG13).trans hG17)).at (i := i) (by omega)
       refine match q23 with | ⟨_, he21, e_22⟩ => ?_
       subst e_22
       refine W.ok (ok_indexAddr (i := i) sl25 ty45 (h_l.mono ((hG2.trans hG13).trans hG17)) rfl rfl ⟨by omega, by omega⟩) ?_
       refine W.ok (ok_loadE (vs := [.string _, .string _]) ty45 he21 rfl rfl rfl (by simp)) ?_
       refine W.lit (e := ePair) (l := [((l)[i])]) (css := [[.string _, .string _]]) sl25 ty45 zr45 rfl rfl rfl rfl rfl rfl ⟨rfl, trivial⟩ (fun bl24 G24 hG24 hv24 => ?_)
       refine W.app (e := ePair) sl25 ty45 zr45 rfl by45 rfl rfl ((ho_7.mono hG24)) (hv24) (pmC (List.Perm.refl _)) (by show (_ + 1) * 32 ≤ _; (try simp only [List.length_append] at *); omega) (fun v25 Ms26 ho27 => ?_)
       refine W.perm (pmC (List.Perm.refl _)).symm ?_
       refine W.as ?_
       refine W.nil (blk_n (thn_n ?_))
       refine WC.region ?_
       refine W.mv ?_
       refine W.ok (ok_add rfl rfl (by omega)) ?_
       refine W.as ?_
       refine W.nil (thn_n ?_)
       exact ⟨hG24, (i + 1, v25, Ms26), ⟨(by first | rfl | exact iv (by dsimp only; omega) | exact iv (by omega)), (by first | rfl | exact iv (by dsimp only; omega) | exact iv (by omega)), (by first | rfl | exact iv (by dsimp only; omega) | exact iv (by omega)), (by first | rfl | exact iv (by dsimp only; omega) | exact iv (by omega)), trivial⟩, ⟨rfl, (by have h := ho27; rw [filt_t (p := (fun p : Pair => k.lt p.key)) (by omega) (by simpa using h66), ← List.append_assoc]; exact h), by omega⟩, by omega⟩
      ·refine WC.skip (blk_n (thn_n ?_))
       refine WC.region ?_
       refine W.mv ?_
       refine W.ok (ok_add rfl rfl (by omega)) ?_
       refine W.as ?_
       refine W.nil (thn_n ?_)
       exact ⟨Le.rfl, (i + 1, v_7, M_7), ⟨(by first | rfl | exact iv (by dsimp only; omega) | exact iv (by omega)), (by first | rfl | exact iv (by dsimp only; omega) | exact iv (by omega)), (by first | rfl | exact iv (by dsimp only; omega) | exact iv (by omega)), (by first | rfl | exact iv (by dsimp only; omega) | exact iv (by omega)), trivial⟩, ⟨rfl, (by have h := ho_7; rw [filt_f (p := (fun p : Pair => k.lt p.key)) (by omega) (by simpa using h66)]; exact h), by omega⟩, by omega⟩
     ·have p57 := of_decide_eq_false h57
      refine WC.exit (thn_x (thn_x (blk_h (thn_n ?_))))
      refine WC.seq ?_
      refine WC.region ?_
      refine W.mv ?_
      refine W.as ?_
      refine W.nil (thn_n ?_)
      refine WC.giveO ho_7 (pmC (List.Perm.refl _)) (fun G28 hG28 hv28 => ?_)
      refine WC.ret ?_
      refine ⟨.inr rfl, [_], ⟨rfl, trivial⟩, [], List.nil_sublist _, ?_⟩
      refine ⟨rfl, _, rfl, ?_⟩
      · have h := hv28; rw [List.take_of_length_le (by omega), ← withN_mid] at h; exact h
   ·refine WC.skip (thn_n ?_)
    refine WC.seq ?_
    refine WC.seq ?_
    refine WC.region ?_
    refine W.as ?_
    refine W.nil (thn_n ?_)
    refine WC.block ?_
    refine WC.loop (X := (Nat) × Value × MH) (fun i => [(13, .int .i64 ((i.1 : Nat) : Int)), (0, .slice sa_l l.length sc_l), (1, .string k.b), (7, i.2.1)]) (fun i G Ml => Ml = ((b1, .cells (List.toArray [.int .i64 ek, .string ev.b]) 86 (0, 0)) :: (i.2.2 ++ [])) ∧ OwnR ePair 45 G i.2.1 ((List.filter (fun p : Pair => p.key.lt k) l ++ midN (Eff.apply (⟨ek, ev⟩ : Eff) (getN l k)) k) ++ List.filter (fun p : Pair => k.lt p.key) (l.take i.1)) i.2.2 ∧ i.1 ≤ l.length) (fun i => l.length - i.1) (0, v_7, M_7) ⟨(by first | rfl | exact iv (by dsimp only; omega) | exact iv (by omega)), (by first | rfl | exact iv (by dsimp only; omega) | exact iv (by omega)), (by first | rfl | exact iv (by dsimp only; omega) | exact iv (by omega)), (by first | rfl | exact iv (by dsimp only; omega) | exact iv (by omega)), trivial⟩ ?_ ?_
    ·exact ⟨rfl, (by have h := ho_7; rw [List.take_of_length_le (by omega)] at h; have hs := h44_0; rw [optS_get] at hs; rw [midN_none hs]; simpa using h), by omega⟩
    ·rintro ⟨i, v_7, M_7⟩ gG29 G29 _ hG29 ⟨rfl, ho_7, hi⟩
     try dsimp only at ho_7 hi
     have hfl := filt_le (fun p : Pair => k.lt p.key) l i
     have hfl2 := List.length_filter_le (fun p : Pair => p.key.lt k) l
     have hml := midN_le (Eff.apply (⟨ek, ev⟩ : Eff) (getN l k)) k
     refine WC.fr (f := setL gG29 [(13, .int .i64 ((i : Nat) : Int)), (0, .slice sa_l l.length sc_l), (1, .string k.b), (7, v_7)]) rfl ?_
     refine WC.seq ?_
     refine WC.seq ?_
     refine WC.region ?_
     refine W.mv ?_
     refine W.mv ?_
     refine W.ok (ok_len sl25 (h_l.mono (hG2.trans hG29)) rfl) ?_
     refine W.ok (ok_lss rfl rfl) ?_
     refine W.nil (thn_n ?_)
     refine WC.cond (b := _) rfl (fun h57 => ?_) (fun h57 => ?_)
     ·have p57 := of_decide_eq_true h57
      refine WC.skip (thn_n ?_)
      refine WC.seq ?_
      refine WC.block ?_
      refine WC.seq ?_
      refine WC.region ?_
      refine W.mv ?_
      refine W.mv ?_
      refine W.mv ?_
      have q32 := (h_l.mono (hG2.trans hG29)).at (i := i) (by omega)
      refine match q32 with | ⟨_, he30, e_31⟩ => ?_
      subst e_31
      refine W.ok (ok_indexAddr (i := i) sl25 ty45 (h_l.mono (hG2.trans hG29)) rfl rfl ⟨by omega, by omega⟩) ?_
      refine W.ok (ok_fieldE fd45_0 rfl he30.form) ?_
      refine W.ok (ok_loadE (vs := [.string _]) ty9 he30 rfl rfl rfl (by simp)) ?_
      refine W.qcall (less_fc _ _) rfl ?_
      refine W.nil (thn_n ?_)
      refine WC.cond (b := _) rfl (fun h66 => ?_) (fun h66 => ?_)
      ·refine WC.region ?_
       refine W.mv ?_
       refine W.mv ?_
       refine W.mv ?_
       have q35 := (h_l.mono (hG2.trans hG29)).at (i := i) (by omega)
       refine match q35 with | ⟨_, he33, e_34⟩ => ?_
       subst e_34
       refine W.ok (ok_indexAddr (i := i) sl25 ty45 (h_l.mono (hG2.trans hG29)) rfl rfl ⟨by omega, by omega⟩) ?_
       refine W.ok (ok_loadE (vs := [.string _, .string _]) ty45 he33 rfl rfl rfl (by simp)) ?_
       refine W.lit (e := ePair) (l := [((l)[i])]) (css := [[.string _, .string _]]) sl25 ty45 zr45 rfl rfl rfl rfl rfl rfl ⟨rfl, trivial⟩ (fun bl36 G36 hG36 hv36 => ?_)
       refine W.app (e := ePair) sl25 ty45 zr45 rfl by45 rfl rfl ((ho_7.mono hG36)) (hv36) (pmC (List.Perm.refl _)) (by show (_ + 1) * 32 ≤ _; (try simp only [List.length_append] at *); omega) (fun v37 Ms38 ho39 => ?_)
       refine W.perm (pmC (List.Perm.refl _)).symm ?_
       refine W.as ?_
       refine W.nil (blk_n (thn_n ?_))
       refine WC.region ?_
       refine W.mv ?_
       refine W.ok (ok_add rfl rfl (by omega)) ?_
       refine W.as ?_
       refine W.nil (thn_n ?_)
       exact ⟨hG36, (i + 1, v37, Ms38), ⟨(by first | rfl | exact iv (by dsimp only; omega) | exact iv (by omega)), (by first | rfl | exact iv (by dsimp only; omega) | exact iv (by omega)), (by first | rfl | exact iv (by dsimp only; omega) | exact iv (by omega)), (by first | rfl | exact iv (by dsimp only; omega) | exact iv (by omega)), trivial⟩, ⟨rfl, (by have h := ho39; rw [filt_t (p := (fun p : Pair => k.lt p.key)) (by omega) (by simpa using h66), ← List.append_assoc]; exact h), by omega⟩, by omega⟩
      ·refine WC.skip (blk_n (thn_n ?_))
       refine WC.region ?_
       refine W.mv ?_
       refine W.ok (ok_add rfl rfl (by omega)) ?_
       refine W.as ?_
       refine W.nil (thn_n ?_)
       exact ⟨Le.rfl, (i + 1, v_7, M_7), ⟨(by first | rfl | exact iv (by dsimp only; omega) | exact iv (by omega)), (by first | rfl | exact iv (by dsimp only; omega) | exact iv (by omega)), (by first | rfl | exact iv (by dsimp only; omega) | exact iv (by omega)), (by first | rfl | exact iv (by dsimp only; omega) | exact iv (by omega)), trivial⟩, ⟨rfl, (by have h := ho_7; rw [filt_f (p := (fun p : Pair => k.lt p.key)) (by omega) (by simpa using h66)]; exact h), by omega⟩, by omega⟩
     ·have p57 := of_decide_eq_false h57
      refine WC.exit (thn_x (thn_x (blk_h (thn_n ?_))))
      refine WC.seq ?_
      refine WC.region ?_
      refine W.mv ?_
      refine W.as ?_
      refine W.nil (thn_n ?_)
      refine WC.giveO ho_7 (pmC (List.Perm.refl _)) (fun G40 hG40 hv40 => ?_)
      refine WC.ret ?_
      refine ⟨.inr rfl, [_], ⟨rfl, trivial⟩, [], List.nil_sublist _, ?_⟩
      refine ⟨rfl, _, rfl, ?_⟩
      · have h := hv40; rw [List.take_of_length_le (by omega), ← withN_mid] at h; exact h

theorem rtake_fc {G : GH} {v_l : Value} {l : List Pair} (h_l : SlR ePair G v_l l) (ms : Int) (mk : Int) (mkey : Str) (mhi : Str) (mo : Bool) (mv : Str) (hP : PairsR l) (hn : l.length ≤ 1000000) (hk : mkey.b.size ≤ 16 ∧ mv.b.size ≤ 16) :
    Fc Tryd.prog 36 [v_l, .agg #[.int .i64 ms, .int .i64 mk, .string mkey.b, .string mhi.b, .bool mo, .string mv.b]] G [] (fun v G' M' => M' = [] ∧ ∃ u0, v = u0 ∧ SlR ePair G' u0 (takeN l (⟨ms, mk, mkey, mhi, mo, mv⟩ : Msg))) := by
 obtain ⟨sa_l, sc_l, rfl⟩ := h_l.form
 have hl := h_l.len47
 have hov := on_val (m := (⟨ms, mk, mkey, mhi, mo, mv⟩ : Msg)) mkey hk.2
 refine Fc.intro (rs := [.tmp 4]) cl36 Tryd.func36 rfl Tryd.ntmps36 rfl rfl (fun w0 => ?_)
 refine WC.seq ?_
 refine WC.region ?_
 refine W.box (L := [.int .i64 _, .int .i64 _, .string _, .string _, .bool _, .string _]) rfl rfl (fun b41 => ?_)
 refine W.as ?_
 refine W.nil (thn_n ?_)
 refine WC.seq ?_
 refine WC.seq ?_
 refine WC.region ?_
 refine W.ok (ok_fieldB fd59_1 rfl) ?_
 refine W.ok (ok_loadB (i := 0) (vs := [.int .i64 _]) ty3 rfl rfl rfl rfl (by simp)) ?_
 refine W.ok (ok_neq rfl rfl) ?_
 refine W.nil (thn_n ?_)
 refine WC.cond (b := _) rfl (fun h9 => ?_) (fun h9 => ?_)
 ·have p9 := nd_t h9
  refine WC.seq ?_
  refine WC.drawW _ ((List.Sublist.refl _).cons_cons _) mix (by rintro _ _ _ _ ⟨h | h, _⟩ <;> cases h) ?_
  refine WD.take 0 rfl rfl rfl (by kernel_rfl) (by kernel_rfl) (by kernel_rfl) (ok_mv) ?_
  refine WD.take 1 rfl rfl rfl (by kernel_rfl) (by kernel_rfl) (by kernel_rfl) (ok_fieldB fd59_2 rfl) ?_
  refine WD.take 2 rfl rfl rfl (by kernel_rfl) (by kernel_rfl) (by kernel_rfl) (ok_loadB (i := 0) (vs := [.string _]) ty9 rfl rfl rfl rfl (by simp)) ?_
  refine WD.take 3 rfl rfl rfl (by kernel_rfl) (by kernel_rfl) (by kernel_rfl) (ok_loadB (i := 0) (vs := [.int .i64 _, .int .i64 _, .string _, .string _, .bool _, .string _]) ty59 rfl rfl rfl rfl (by simp)) ?_
  refine WD.take 4 rfl rfl rfl (by kernel_rfl) (by kernel_rfl) (by kernel_rfl) (ok_fieldB fd59_2 rfl) ?_
  refine WD.take 5 rfl rfl rfl (by kernel_rfl) (by kernel_rfl) (by kernel_rfl) (ok_loadB (i := 0) (vs := [.string _]) ty9 rfl rfl rfl rfl (by simp)) ?_
  refine WD.any [6] (by kernel_rfl) rfl ⟨⟨_, rfl, rfl, ?_⟩, trivial⟩
  refine W.qcall (ron_fc ms mk mkey mhi mo mv mkey (by omega)) rfl ?_
  refine W.nil ⟨Le.rfl, (List.Sublist.refl _).cons_cons _, _, (List.Sublist.refl _).cons_cons _, List.Sublist.refl _, ?_⟩
  refine WD.any [7] (by kernel_rfl) rfl ⟨⟨_, rfl, rfl, ?_⟩, trivial⟩
  refine W.call (Mp := []) (rwith_fc h_l mkey (Msg.on (⟨ms, mk, mkey, mhi, mo, mv⟩ : Msg) mkey).kind (Msg.on (⟨ms, mk, mkey, mhi, mo, mv⟩ : Msg) mkey).val hP hn (by omega)) rfl (List.Perm.refl _) ?_
  intro _ G42 _ hG42 q44
  refine match q44 with | ⟨e_45, _, e_46, hv43⟩ => ?_
  subst e_45
  subst e_46
  have q48 := hv43.form
  refine match q48 with | ⟨sa_hv43, sc_hv43, e_47⟩ => ?_
  subst e_47
  refine W.nil ⟨hG42, (List.Sublist.refl _).cons_cons _, _, (List.Sublist.refl _).cons_cons _, List.Sublist.refl _, ?_⟩
  refine WD.take 8 rfl rfl rfl (by kernel_rfl) (by kernel_rfl) (by kernel_rfl) (ok_as) ?_
  refine WD.done (by kernel_rfl) (thn_n ?_)
  refine WC.ret (thn_r ?_)
  refine ⟨.inr rfl, [_], ⟨rfl, trivial⟩, [], List.nil_sublist _, ?_⟩
  refine ⟨rfl, _, rfl, ?_⟩
  · have h := hv43; rw [takeN, if_neg (by simpa using h9)]; exact h
 ·have p9 := nd_f h9
  refine WC.skip (thn_n ?_)
  refine WC.seq ?_
  refine WC.region ?_
  refine W.as ?_
  refine W.nil (thn_n ?_)
  refine WC.seq ?_
  refine WC.seq ?_
  refine WC.region ?_
  refine W.as ?_
  refine W.nil (thn_n ?_)
  refine WC.block ?_
  refine WC.loop (X := (Nat) × Value × MH) (fun i => [(6, .int .i64 ((i.1 : Nat) : Int)), (3, .pointer (some ⟨b41, 0, none⟩)), (0, .slice sa_l l.length sc_l), (5, i.2.1)]) (fun i G Ml => Ml = ((b41, .cells (List.toArray [.int .i64 ms, .int .i64 mk, .string mkey.b, .string mhi.b, .bool mo, .string mv.b]) 59 (0, 0)) :: (i.2.2 ++ [])) ∧ OwnR ePair 45 G i.2.1 (List.filter (fun p : Pair => !(Msg.span (⟨ms, mk, mkey, mhi, mo, mv⟩ : Msg)).has p.key) (l.take i.1)) i.2.2 ∧ i.1 ≤ l.length) (fun i => l.length - i.1) (0, .slice none 0 0, ([] : MH)) ⟨(by first | rfl | exact iv (by dsimp only; omega) | exact iv (by omega)), (by first | rfl | exact iv (by dsimp only; omega) | exact iv (by omega)), (by first | rfl | exact iv (by dsimp only; omega) | exact iv (by omega)), (by first | rfl | exact iv (by dsimp only; omega) | exact iv (by omega)), trivial⟩ ?_ ?_
  ·exact ⟨rfl, (by simpa using OwnR.nil), by omega⟩
  ·rintro ⟨i, v_5, M_5⟩ gG49 G49 _ hG49 ⟨rfl, ho_5, hi⟩
   try dsimp only at ho_5 hi
   have hfl := filt_le (fun p : Pair => !(Msg.span (⟨ms, mk, mkey, mhi, mo, mv⟩ : Msg)).has p.key) l i
   refine WC.fr (f := setL gG49 [(6, .int .i64 ((i : Nat) : Int)), (3, .pointer (some ⟨b41, 0, none⟩)), (0, .slice sa_l l.length sc_l), (5, v_5)]) rfl ?_
   refine WC.seq ?_
   refine WC.seq ?_
   refine WC.region ?_
   refine W.mv ?_
   refine W.mv ?_
   refine W.ok (ok_len sl25 (h_l.mono hG49) rfl) ?_
   refine W.ok (ok_lss rfl rfl) ?_
   refine W.nil (thn_n ?_)
   refine WC.cond (b := _) rfl (fun h21 => ?_) (fun h21 => ?_)
   ·have p21 := of_decide_eq_true h21
    refine WC.skip (thn_n ?_)
    refine WC.seq ?_
    refine WC.block ?_
    refine WC.seq ?_
    refine WC.draw mix (by kernel_rfl) ?_
    refine W.ok (ok_loadB (i := 0) (vs := [.int .i64 _, .int .i64 _, .string _, .string _, .bool _, .string _]) ty59 rfl rfl rfl rfl (by simp)) ?_
    refine W.qcall (rspan_fc _ _ _ _ _ _ (by first | assumption | omega | (dsimp only; omega))) rfl ?_
    refine W.mv ?_
    refine W.mv ?_
    have q52 := (h_l.mono hG49).at (i := i) (by omega)
    refine match q52 with | ⟨_, he50, e_51⟩ => ?_
    subst e_51
    refine W.ok (ok_indexAddr (i := i) sl25 ty45 (h_l.mono hG49) rfl rfl ⟨by omega, by omega⟩) ?_
    refine W.ok (ok_fieldE fd45_0 rfl he50.form) ?_
    refine W.ok (ok_loadE (vs := [.string _]) ty9 he50 rfl rfl rfl (by simp)) ?_
    refine W.qcall (has_fc _ _ _ _) rfl ?_
    refine W.ok (ok_not rfl) ?_
    refine W.nil (thn_n ?_)
    refine WC.cond (b := _) rfl (fun h32 => ?_) (fun h32 => ?_)
    ·refine WC.region ?_
     refine W.mv ?_
     refine W.mv ?_
     refine W.mv ?_
     have q55 := (h_l.mono hG49).at (i := i) (by omega)
     refine match q55 with | ⟨_, he53, e_54⟩ => ?_
     subst e_54
     refine W.ok (ok_indexAddr (i := i) sl25 ty45 (h_l.mono hG49) rfl rfl ⟨by omega, by omega⟩) ?_
     refine W.ok (ok_loadE (vs := [.string _, .string _]) ty45 he53 rfl rfl rfl (by simp)) ?_
     refine W.lit (e := ePair) (l := [((l)[i])]) (css := [[.string _, .string _]]) sl25 ty45 zr45 rfl rfl rfl rfl rfl rfl ⟨rfl, trivial⟩ (fun bl56 G56 hG56 hv56 => ?_)
     refine W.app (e := ePair) sl25 ty45 zr45 rfl by45 rfl rfl ((ho_5.mono hG56)) (hv56) (pmC (List.Perm.refl _)) (by show (_ + 1) * 32 ≤ _; (try simp only [List.length_append] at *); omega) (fun v57 Ms58 ho59 => ?_)
     refine W.perm (pmC (List.Perm.refl _)).symm ?_
     refine W.as ?_
     refine W.nil (blk_n (thn_n ?_))
     refine WC.region ?_
     refine W.mv ?_
     refine W.ok (ok_add rfl rfl (by omega)) ?_
     refine W.as ?_
     refine W.nil (thn_n ?_)
     exact ⟨hG56, (i + 1, v57, Ms58), ⟨(by first | rfl | exact iv (by dsimp only; omega) | exact iv (by omega)), (by first | rfl | exact iv (by dsimp only; omega) | exact iv (by omega)), (by first | rfl | exact iv (by dsimp only; omega) | exact iv (by omega)), (by first | rfl | exact iv (by dsimp only; omega) | exact iv (by omega)), trivial⟩, ⟨rfl, (by have h := ho59; rw [filt_t (p := (fun p : Pair => !(Msg.span (⟨ms, mk, mkey, mhi, mo, mv⟩ : Msg)).has p.key)) (by omega) (by simpa using h32)]; exact h), by omega⟩, by omega⟩
    ·refine WC.skip (blk_n (thn_n ?_))
     refine WC.region ?_
     refine W.mv ?_
     refine W.ok (ok_add rfl rfl (by omega)) ?_
     refine W.as ?_
     refine W.nil (thn_n ?_)
     exact ⟨Le.rfl, (i + 1, v_5, M_5), ⟨(by first | rfl | exact iv (by dsimp only; omega) | exact iv (by omega)), (by first | rfl | exact iv (by dsimp only; omega) | exact iv (by omega)), (by first | rfl | exact iv (by dsimp only; omega) | exact iv (by omega)), (by first | rfl | exact iv (by dsimp only; omega) | exact iv (by omega)), trivial⟩, ⟨rfl, (by have h := ho_5; rw [filt_f (p := (fun p : Pair => !(Msg.span (⟨ms, mk, mkey, mhi, mo, mv⟩ : Msg)).has p.key)) (by omega) (by simpa using h32)]; exact h), by omega⟩, by omega⟩
   ·have p21 := of_decide_eq_false h21
    refine WC.exit (thn_x (thn_x (blk_h (thn_n ?_))))
    refine WC.seq ?_
    refine WC.region ?_
    refine W.mv ?_
    refine W.as ?_
    refine W.nil (thn_n ?_)
    refine WC.giveO ho_5 (pmC (List.Perm.refl _)) (fun G60 hG60 hv60 => ?_)
    refine WC.ret ?_
    refine ⟨.inr rfl, [_], ⟨rfl, trivial⟩, [], List.nil_sublist _, ?_⟩
    refine ⟨rfl, _, rfl, ?_⟩
    · have h := hv60; rw [List.take_of_length_le (by omega)] at h; rw [takeN, if_pos (by simpa using h9)]; exact h

end Go.Proofs.YthmkpaoolhcibaaDoor
