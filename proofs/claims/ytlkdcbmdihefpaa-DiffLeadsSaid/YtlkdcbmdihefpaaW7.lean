/- Walks of functions that look through rows. -/
import Derived.Test.YtlkdcbmdihefpaaW5
namespace Go.Proofs.Ytlkdcbmdihefpaa
open Go Go.Fw Go.RowKit
set_option maxRecDepth 100000
set_option maxHeartbeats 1600000
set_option linter.unusedVariables false
set_option linter.unusedSimpArgs false
set_option linter.unnecessarySimpa false
theorem mscan_fc {G : GH} {v_l : Value} {l : List Pair} (h_l : SlR ePair G v_l l) (slo : Str) (shi : Str) (so : Bool) (n : Int) (hn : l.length ≤ 1000000) :
    Fc Try.prog 37 [v_l, .agg #[.string slo.b, .string shi.b, .bool so], .int .i64 n] G [] (fun v G' M' => M' = [] ∧ ∃ u0, v = u0 ∧ SlR ePair G' u0 (scanN l ⟨slo, shi, so⟩ n)) := by
 obtain ⟨sa_l, sc_l, rfl⟩ := h_l.form
 have hl := h_l.len47
 refine Fc.intro (rs := [.tmp 6]) cl37 Try.func37 rfl Try.ntmps37 rfl rfl (fun w0 => ?_)
 refine WC.seq ?_
 refine WC.region ?_
 refine W.box (L := [.string _, .string _, .bool _]) rfl rfl (fun b1 => ?_)
 refine W.as ?_
 refine W.nil (thn_n ?_)
 refine WC.seq ?_
 refine WC.region ?_
 refine W.as ?_
 refine W.nil (thn_n ?_)
 refine WC.seq ?_
 refine WC.seq ?_
 refine WC.region ?_
 refine W.mv ?_
 refine W.ok (ok_len sl22 h_l rfl) ?_
 refine W.mv ?_
 refine W.nil (thn_n ?_)
 refine WC.block ?_
 refine WC.loop (X := (Nat) × Value × MH) (fun i => [(12, .int .i64 ((i.1 : Nat) : Int)), (4, .pointer (some ⟨b1, 0, none⟩)), (2, .int .i64 n), (10, .slice sa_l l.length sc_l), (11, .int .i64 (((l).length : Nat) : Int)), (7, i.2.1)]) (fun i G Ml => Ml = ((b1, .cells (List.toArray [.string slo.b, .string shi.b, .bool so]) 62 (0, 0)) :: (i.2.2 ++ [])) ∧ OwnR ePair 35 G i.2.1 (scanN (l.take i.1) ⟨slo, shi, so⟩ n) i.2.2 ∧ i.1 ≤ l.length) (fun i => l.length - i.1) (0, .slice none 0 0, ([] : MH)) ⟨(by first | rfl | exact iv (by dsimp only; omega) | exact iv (by omega)), (by first | rfl | exact iv (by dsimp only; omega) | exact iv (by omega)), (by first | rfl | exact iv (by dsimp only; omega) | exact iv (by omega)), (by first | rfl | exact iv (by dsimp only; omega) | exact iv (by omega)), (by first | rfl | exact iv (by dsimp only; omega) | exact iv (by omega)), (by first | rfl | exact iv (by dsimp only; omega) | exact iv (by omega)), trivial⟩ ?_ ?_
 ·exact ⟨rfl, (by simpa [scanN] using OwnR.nil), by omega⟩
 ·rintro ⟨i, v_7, M_7⟩ gG2 G2 _ hG2 ⟨rfl, ho_7, hi⟩
  try dsimp only at ho_7 hi
  have hsl := scan_len (l := l.take i) (s := ⟨slo, shi, so⟩) (n := n)
  have htl : (l.take i).length ≤ i := by simp; omega
  refine WC.seq ?_
  refine WC.region ?_
  refine W.ok (ok_lss rfl rfl) ?_
  refine W.nil (thn_n ?_)
  refine WC.seq ?_
  refine WC.cond (b := _) rfl (fun h13 => ?_) (fun h13 => ?_)
  ·have p13 := of_decide_eq_true h13
   refine WC.skip (thn_n ?_)
   refine WC.seq ?_
   refine WC.block ?_
   refine WC.seq ?_
   refine WC.region ?_
   have q5 := (h_l.mono hG2).at (i := i) (by omega)
   refine match q5 with | ⟨_, he3, e_4⟩ => ?_
   subst e_4
   refine W.ok (ok_indexAddr (i := i) sl22 ty35 (h_l.mono hG2) rfl rfl ⟨by omega, by omega⟩) ?_
   refine W.ok (ok_loadE (vs := [.string _, .string _]) ty35 he3 rfl rfl rfl (by simp)) ?_
   refine W.alloc zr35 (fun b6 => ?_)
   refine W.store (i := 0) (vs := [.string _, .string _]) (L' := [.string _, .string _]) ty35 rfl rfl rfl rfl rfl rfl rfl rfl ?_
   refine W.nil (thn_n ?_)
   refine WC.seq ?_
   refine WC.seq ?_
   refine WC.region ?_
   refine W.mv ?_
   refine W.ok (ok_lenO sl22 ho_7 rfl) ?_
   refine W.mv ?_
   refine W.ok (ok_geq rfl rfl) ?_
   refine W.nil (thn_n ?_)
   refine WC.cond (b := _) rfl (fun h19 => ?_) (fun h19 => ?_)
   ·have p19 := of_decide_eq_true h19
    refine WC.exit (thn_x (blk_m (thn_x (thn_x (blk_h (thn_n ?_))))))
    refine WC.seq ?_
    refine WC.region ?_
    refine W.mv ?_
    refine W.as ?_
    refine W.nil (thn_n ?_)
    refine WC.giveO ho_7 (pmC (pmC (List.Perm.refl _))) (fun G7 hG7 hv7 => ?_)
    refine WC.ret ?_
    refine ⟨.inr rfl, [_], ⟨rfl, trivial⟩, [], List.nil_sublist _, ?_⟩
    refine ⟨rfl, _, rfl, ?_⟩
    · have h := hv7; rw [← scan_full (by omega)] at h; exact h
   ·have p19 := of_decide_eq_false h19
    refine WC.skip (thn_n ?_)
    refine WC.seq ?_
    refine WC.region ?_
    refine W.ok (ok_loadB (i := 1) (vs := [.string _, .string _, .bool _]) ty62 rfl rfl rfl rfl (by simp)) ?_
    refine W.ok (ok_fieldB fd35_0 rfl) ?_
    refine W.ok (ok_loadB (i := 0) (vs := [.string _]) ty9 rfl rfl rfl rfl (by simp)) ?_
    refine W.qcall (spanhas_fc _ _ _ _) rfl ?_
    refine W.nil (thn_n ?_)
    refine WC.cond (b := _) rfl (fun h23 => ?_) (fun h23 => ?_)
    ·refine WC.region ?_
     refine W.mv ?_
     refine W.ok (ok_loadB (i := 0) (vs := [.string _, .string _]) ty35 rfl rfl rfl rfl (by simp)) ?_
     refine W.lit (e := ePair) (l := [⟨((l)[i]).key, ((l)[i]).val⟩]) (css := [[.string _, .string _]]) sl22 ty35 zr35 rfl rfl rfl rfl rfl rfl ⟨rfl, trivial⟩ (fun bl8 G8 hG8 hv8 => ?_)
     refine W.app (e := ePair) sl22 ty35 zr35 rfl by35 rfl rfl ((ho_7.mono hG8)) (hv8) (pmC (pmC (List.Perm.refl _))) (by show (_ + 1) * 32 ≤ _; simp only [List.length_append] at *; omega) (fun v9 Ms10 ho11 => ?_)
     refine W.perm (pmC (pmC (List.Perm.refl _))).symm ?_
     refine W.as ?_
     refine W.nil (blk_n (thn_n ?_))
     refine WC.region ?_
     refine W.ok (ok_add rfl rfl (by omega)) ?_
     refine W.mv ?_
     refine W.sub ((List.Sublist.refl _).cons _) ?_
     refine W.nil (thn_n ?_)
     exact ⟨hG8, (i + 1, v9, Ms10), ⟨(by first | rfl | exact iv (by dsimp only; omega) | exact iv (by omega)), (by first | rfl | exact iv (by dsimp only; omega) | exact iv (by omega)), (by first | rfl | exact iv (by dsimp only; omega) | exact iv (by omega)), (by first | rfl | exact iv (by dsimp only; omega) | exact iv (by omega)), (by first | rfl | exact iv (by dsimp only; omega) | exact iv (by omega)), (by first | rfl | exact iv (by dsimp only; omega) | exact iv (by omega)), trivial⟩, ⟨rfl, (by have h := ho11; rw [scan_succ_t (by omega) (by omega) (by simpa using h23)]; exact h), by omega⟩, by omega⟩
    ·refine WC.skip (blk_n (thn_n ?_))
     refine WC.region ?_
     refine W.ok (ok_add rfl rfl (by omega)) ?_
     refine W.mv ?_
     refine W.sub ((List.Sublist.refl _).cons _) ?_
     refine W.nil (thn_n ?_)
     exact ⟨Le.rfl, (i + 1, v_7, M_7), ⟨(by first | rfl | exact iv (by dsimp only; omega) | exact iv (by omega)), (by first | rfl | exact iv (by dsimp only; omega) | exact iv (by omega)), (by first | rfl | exact iv (by dsimp only; omega) | exact iv (by omega)), (by first | rfl | exact iv (by dsimp only; omega) | exact iv (by omega)), (by first | rfl | exact iv (by dsimp only; omega) | exact iv (by omega)), (by first | rfl | exact iv (by dsimp only; omega) | exact iv (by omega)), trivial⟩, ⟨rfl, (by have h := ho_7; rw [scan_succ_f (by omega) (by simpa using h23)]; exact h), by omega⟩, by omega⟩
  ·have p13 := of_decide_eq_false h13
   refine WC.exit (thn_x (thn_x (blk_h (thn_n ?_))))
   refine WC.seq ?_
   refine WC.region ?_
   refine W.mv ?_
   refine W.as ?_
   refine W.nil (thn_n ?_)
   refine WC.giveO ho_7 (pmC (List.Perm.refl _)) (fun G12 hG12 hv12 => ?_)
   refine WC.ret ?_
   refine ⟨.inr rfl, [_], ⟨rfl, trivial⟩, [], List.nil_sublist _, ?_⟩
   refine ⟨rfl, _, rfl, ?_⟩
   · have h := hv12; rw [List.take_of_length_le (by omega)] at h; exact h

end Go.Proofs.Ytlkdcbmdihefpaa
