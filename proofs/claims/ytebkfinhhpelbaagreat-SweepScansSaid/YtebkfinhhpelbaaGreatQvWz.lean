/- Walks of what a sweep gets of a leaf. -/
import Derived.Test.YtebkfinhhpelbaaGreatQvWh
import Derived.Test.YtebkfinhhpelbaaGreatQvNb
namespace Go.Proofs.YtebkfinhhpelbaaGreat
open Go Go.Fw Go.RowKit
set_option maxRecDepth 100000
set_option maxHeartbeats 1600000
set_option linter.unusedVariables false
set_option linter.unusedSimpArgs false
set_option linter.unnecessarySimpa false
theorem spart_fc {G : GH} {v_l : Value} {l : List Pair} (h_l : SlR ePair G v_l l) (slo : Str) (shi : Str) (so : Bool) {v_ms : Value} {ms : List Msg} (h_ms : SlR eMsg G v_ms ms) (c : Str) (n : Int) (hP : PairsR l) (hn : l.length + ms.length ≤ 1000000) (hm : ∀ m ∈ ms, m.key.b.size ≤ 16 ∧ m.val.b.size ≤ 16) (hs : slo.b.size ≤ 300) :
    Fc Tryz.prog 107 [v_l, .agg #[.string slo.b, .string shi.b, .bool so], v_ms, .string c.b, .int .i64 n] G [] (fun v G' M' => M' = [] ∧ ∃ r : List Pair × Str × Bool, r = partN l ⟨slo, shi, so⟩ ms c n ∧ ∃ u0, v = .tuple #[u0, .string (Str.b (r.2.1)), .bool (r.2.2)] ∧ SlR ePair G' u0 (r.1)) := by
 obtain ⟨sa_l, sc_l, rfl⟩ := h_l.form
 obtain ⟨sa_ms, sc_ms, rfl⟩ := h_ms.form
 have hcl := cutN_eq (foldN (l.filter fun p => Span.has ⟨slo, shi, so⟩ p.key) (clips ⟨slo, shi, so⟩ ms)) n
 refine Fc.intro (rs := [.tmp 10, .tmp 11, .tmp 12]) cl107 Tryz.func107 rfl Tryz.ntmps107 rfl rfl (fun w0 => ?_)
 refine WC.seq (WC.region (W.box (L := [.string _, .string _, .bool _]) rfl rfl (fun b1 => (W.as (W.as (W.as (W.nil (thn_n (WC.seq ?_)))))))))
 refine WC.seq (WC.region (W.ok (ok_loadB (i := 0) (vs := [.string _, .string _, .bool _]) ty52 rfl rfl rfl rfl (by simp)) (W.qcall (spanempty_fc _ _ _) rfl (W.nil (thn_n ?_)))))
 refine WC.cond (b := _) rfl (fun h16 => ?_) (fun h16 => ?_)
 ·refine WC.seq (WC.region (W.mv (W.as (W.as (W.as (W.nil (thn_n (WC.ret (thn_r ?_)))))))))
  refine ⟨.inr rfl, [_, _, _], ⟨rfl, rfl, rfl, trivial⟩, [], List.nil_sublist _, ?_⟩
  refine ⟨rfl, _, (partN_e h16).symm, _, rfl, ?_⟩
  · exact SlR.nil
 ·refine WC.skip (thn_n (WC.seq (WC.region (W.mv (W.ok (ok_loadB (i := 0) (vs := [.string _, .string _, .bool _]) ty52 rfl rfl rfl rfl (by simp)) (W.mv (W.call (Mp := []) (mview_fc h_l slo shi so h_ms hP hn hm hs) rfl (List.Perm.refl _) ?_)))))))
  intro _ G2 _ hG2 q4
  refine match q4 with | ⟨e_5, _, e_6, hv3⟩ => ?_
  subst e_5
  subst e_6
  have q8 := hv3.form
  refine match q8 with | ⟨sa_hv3, sc_hv3, e_7⟩ => ?_
  subst e_7
  refine W.as (W.nil (thn_n (WC.seq (WC.region (W.ok (ok_fieldB fd52_2 rfl) (W.ok (ok_loadB (i := 0) (vs := [.bool _]) ty4 rfl rfl rfl rfl (by simp)) (W.mv ?_)))))))
  refine W.sp 24 rfl (fun ha_so => ?_) (fun ha_so => ?_)
  ·refine W.no (dj := 24) rfl rfl ha_so (W.no (dj := 24) rfl rfl ha_so (W.no (dj := 24) rfl rfl ha_so (W.no (dj := 24) rfl rfl ha_so (W.ok (ok_pick_t rfl ha_so) (W.as (W.nil (thn_n (WC.seq ?_))))))))
   refine WC.seq (WC.region (W.ok (ok_fieldB fd52_2 rfl) (W.ok (ok_loadB (i := 0) (vs := [.bool _]) ty4 rfl rfl rfl rfl (by simp)) (W.nil (thn_n (WC.cond_t rfl ha_so (WC.region (W.ok (ok_fieldB fd52_1 rfl) ?_))))))))
   refine W.store (i := 0) (vs := [.string _]) (L' := [.string _, .string _, .bool _]) ty9 rfl rfl rfl rfl rfl rfl rfl rfl (W.nil (thn_n (WC.seq (WC.drawW _ ((List.Sublist.refl _).cons_cons _) mix (by rintro _ _ _ _ ⟨h | h, _⟩ <;> cases h) (WD.take 0 rfl rfl rfl (by kernel_rfl) (by kernel_rfl) (by kernel_rfl) (ok_mv) (WD.take 1 rfl rfl rfl (by kernel_rfl) (by kernel_rfl) (by kernel_rfl) (ok_mv) (WD.take 2 rfl rfl rfl (by kernel_rfl) (by kernel_rfl) (by kernel_rfl) (ok_len sl41 hv3 rfl) (WD.take 3 rfl rfl rfl (by kernel_rfl) (by kernel_rfl) (by kernel_rfl) (ok_mv) ?_))))))))
   refine WD.take 4 rfl rfl rfl (by kernel_rfl) (by kernel_rfl) (by kernel_rfl) (ok_mini rfl rfl) (WD.take 5 rfl rfl rfl (by kernel_rfl) (by kernel_rfl) (by kernel_rfl) (Ok.int (n := ((cutN (foldN (l.filter fun p => Span.has ⟨slo, shi, so⟩ p.key) (clips ⟨slo, shi, so⟩ ms)) n : Nat) : Int)) (ok_maxi rfl rfl) (by omega)) ?_)
   have hs9 := SlR.slice hv3 (lo := 0) (hi := (cutN (foldN (l.filter fun p => Span.has ⟨slo, shi, so⟩ p.key) (clips ⟨slo, shi, so⟩ ms)) n)) (by omega) (by omega)
   refine WD.take 6 rfl rfl rfl (by kernel_rfl) (by kernel_rfl) (by kernel_rfl) (ok_slice (0) ((cutN (foldN (l.filter fun p => Span.has ⟨slo, shi, so⟩ p.key) (clips ⟨slo, shi, so⟩ ms)) n)) sl41 ty69 hv3 rfl rfl ⟨_, _, rfl, by omega⟩ ⟨by omega, by omega⟩) (WD.take 8 rfl rfl rfl (by kernel_rfl) (by kernel_rfl) (by kernel_rfl) (ok_fieldB fd52_1 rfl) (WD.take 9 rfl rfl rfl (by kernel_rfl) (by kernel_rfl) (by kernel_rfl) (ok_loadB (i := 0) (vs := [.string _]) ty9 rfl rfl rfl rfl (by simp)) (WD.take 10 rfl rfl rfl (by kernel_rfl) (by kernel_rfl) (by kernel_rfl) (ok_mv) (WD.any [7] (by kernel_rfl) rfl ⟨⟨_, rfl, rfl, (W.call (Mp := []) (clonep_fc hs9) rfl (List.Perm.refl _) ?_)⟩, trivial⟩))))
   intro _ G10 _ hG10 q12
   refine match q12 with | ⟨e_13, _, e_14, hv11⟩ => ?_
   subst e_13
   subst e_14
   have q16 := hv11.form
   refine match q16 with | ⟨sa_hv11, sc_hv11, e_15⟩ => ?_
   subst e_15
   refine W.nil ⟨hG10, (List.Sublist.refl _).cons_cons _, _, (List.Sublist.refl _).cons_cons _, List.Sublist.refl _, (WD.take 11 rfl rfl rfl (by kernel_rfl) (by kernel_rfl) (by kernel_rfl) (ok_as) (WD.take 12 rfl rfl rfl (by kernel_rfl) (by kernel_rfl) (by kernel_rfl) (ok_as) (WD.take 13 rfl rfl rfl (by kernel_rfl) (by kernel_rfl) (by kernel_rfl) (ok_as) (WD.done (by kernel_rfl) (thn_n (WC.ret ?_))))))⟩
   refine ⟨.inr rfl, [_, _, _], ⟨rfl, rfl, rfl, trivial⟩, [], List.nil_sublist _, ?_⟩
   refine ⟨rfl, _, (partN_n h16 (x := Str.nil) (b := true) (by simp [ha_so]) (by simp [ha_so])).symm, _, rfl, ?_⟩
   · exact hv11
  ·refine W.yes (dj := 24) rfl rfl ha_so (W.mv (W.yes (dj := 24) rfl rfl ha_so (W.ok (ok_len sl41 hv3 rfl) (W.yes (dj := 24) rfl rfl ha_so (W.mv (W.yes (dj := 24) rfl rfl ha_so (W.ok (ok_geq rfl rfl) ?_)))))))
   refine W.ok (ok_pick_f rfl ha_so) (W.as (W.nil (thn_n (WC.seq (WC.seq (WC.region (W.ok (ok_fieldB fd52_2 rfl) (W.ok (ok_loadB (i := 0) (vs := [.bool _]) ty4 rfl rfl rfl rfl (by simp)) ?_))))))))
   refine W.nil (thn_n (WC.cond_f rfl ha_so (WC.skip (thn_n (WC.seq (WC.drawW _ ((List.Sublist.refl _).cons_cons _) mix (by rintro _ _ _ _ ⟨h | h, _⟩ <;> cases h) (WD.take 0 rfl rfl rfl (by kernel_rfl) (by kernel_rfl) (by kernel_rfl) (ok_mv) (WD.take 1 rfl rfl rfl (by kernel_rfl) (by kernel_rfl) (by kernel_rfl) (ok_mv) (WD.take 2 rfl rfl rfl (by kernel_rfl) (by kernel_rfl) (by kernel_rfl) (ok_len sl41 hv3 rfl) ?_)))))))))
   refine WD.take 3 rfl rfl rfl (by kernel_rfl) (by kernel_rfl) (by kernel_rfl) (ok_mv) (WD.take 4 rfl rfl rfl (by kernel_rfl) (by kernel_rfl) (by kernel_rfl) (ok_mini rfl rfl) (WD.take 5 rfl rfl rfl (by kernel_rfl) (by kernel_rfl) (by kernel_rfl) (Ok.int (n := ((cutN (foldN (l.filter fun p => Span.has ⟨slo, shi, so⟩ p.key) (clips ⟨slo, shi, so⟩ ms)) n : Nat) : Int)) (ok_maxi rfl rfl) (by omega)) ?_))
   have hs17 := SlR.slice hv3 (lo := 0) (hi := (cutN (foldN (l.filter fun p => Span.has ⟨slo, shi, so⟩ p.key) (clips ⟨slo, shi, so⟩ ms)) n)) (by omega) (by omega)
   refine WD.take 6 rfl rfl rfl (by kernel_rfl) (by kernel_rfl) (by kernel_rfl) (ok_slice (0) ((cutN (foldN (l.filter fun p => Span.has ⟨slo, shi, so⟩ p.key) (clips ⟨slo, shi, so⟩ ms)) n)) sl41 ty69 hv3 rfl rfl ⟨_, _, rfl, by omega⟩ ⟨by omega, by omega⟩) (WD.take 8 rfl rfl rfl (by kernel_rfl) (by kernel_rfl) (by kernel_rfl) (ok_fieldB fd52_1 rfl) (WD.take 9 rfl rfl rfl (by kernel_rfl) (by kernel_rfl) (by kernel_rfl) (ok_loadB (i := 0) (vs := [.string _]) ty9 rfl rfl rfl rfl (by simp)) (WD.take 10 rfl rfl rfl (by kernel_rfl) (by kernel_rfl) (by kernel_rfl) (ok_mv) (WD.any [7] (by kernel_rfl) rfl ⟨⟨_, rfl, rfl, (W.call (Mp := []) (clonep_fc hs17) rfl (List.Perm.refl _) ?_)⟩, trivial⟩))))
   intro _ G18 _ hG18 q20
   refine match q20 with | ⟨e_21, _, e_22, hv19⟩ => ?_
   subst e_21
   subst e_22
   have q24 := hv19.form
   refine match q24 with | ⟨sa_hv19, sc_hv19, e_23⟩ => ?_
   subst e_23
   refine W.nil ⟨hG18, (List.Sublist.refl _).cons_cons _, _, (List.Sublist.refl _).cons_cons _, List.Sublist.refl _, (WD.take 11 rfl rfl rfl (by kernel_rfl) (by kernel_rfl) (by kernel_rfl) (ok_as) (WD.take 12 rfl rfl rfl (by kernel_rfl) (by kernel_rfl) (by kernel_rfl) (ok_as) (WD.take 13 rfl rfl rfl (by kernel_rfl) (by kernel_rfl) (by kernel_rfl) (ok_as) (WD.done (by kernel_rfl) (thn_n (WC.ret ?_))))))⟩
   refine ⟨.inr rfl, [_, _, _], ⟨rfl, rfl, rfl, trivial⟩, [], List.nil_sublist _, ?_⟩
   refine ⟨rfl, _, (partN_n h16 (x := shi) (b := decide (n ≤ ((foldN (l.filter fun p => Span.has ⟨slo, shi, so⟩ p.key) (clips ⟨slo, shi, so⟩ ms)).length : Int))) (by simp [ha_so]) (by simp [ha_so])).symm, _, rfl, ?_⟩
   · exact hv19

end Go.Proofs.YtebkfinhhpelbaaGreat
