/- The law GrowLoads is walked. -/
import Derived.Test.YtjbbookmgohamaaU5
import Derived.Test.YtjbbookmgohamaaA26
namespace Go.Proofs.Ytjbbookmgohamaa
open Go Go.Fw Go.RowKit
set_option maxRecDepth 100000
set_option maxHeartbeats 1600000
set_option linter.unusedVariables false
set_option linter.unusedSimpArgs false
set_option linter.unnecessarySimpa false
theorem growLoads_fc {G : GH} (cfan : Int) (cleaf : Int) (cbud : Int) (cslots : Int) (crest : Int) {v_l : Value} {l : List Nd} (h_l : SlR eNode G v_l l) :
    Fc Try.prog 8 [.agg #[.int .i64 cfan, .int .i64 cleaf, .int .i64 cbud, .int .i64 cslots, .int .i64 crest], v_l] G [] (fun v _ _ => v = .bool (true)) := by
 obtain ⟨sa_l, sc_l, rfl⟩ := h_l.form
 have hl := h_l.len47
 refine Fc.intro (rs := [.tmp 4]) cl8 Try.func8 rfl Try.ntmps8 rfl rfl (fun w0 => ?_)
 refine WC.seq ?_
 refine WC.region ?_
 refine W.box (L := [.int .i64 _, .int .i64 _, .int .i64 _, .int .i64 _, .int .i64 _]) rfl rfl (fun b1 => ?_)
 refine W.as ?_
 refine W.nil (thn_n ?_)
 refine WC.seq ?_
 refine WC.seq ?_
 refine WC.region ?_
 refine W.mv ?_
 refine W.qcall (light_fc h_l _ _ (by omega)) rfl ?_
 refine W.ok (ok_not rfl) ?_
 refine W.nil (thn_n ?_)
 refine WC.cond (b := _) rfl (fun h12 => ?_) (fun h12 => ?_)
 ·refine WC.seq ?_
  refine WC.region ?_
  refine W.qcall (awake26_fc) rfl ?_
  refine W.as ?_
  refine W.nil (thn_n ?_)
  refine WC.ret (thn_r ?_)
  refine ⟨.inr rfl, [_], ⟨rfl, trivial⟩, [], List.nil_sublist _, ?_⟩
  rfl
 ·refine WC.skip (thn_n ?_)
  refine WC.seq ?_
  refine WC.region ?_
  refine W.ok (ok_loadB (i := 0) (vs := [.int .i64 _, .int .i64 _, .int .i64 _, .int .i64 _, .int .i64 _]) ty23 rfl rfl rfl rfl (by simp)) ?_
  refine W.mv ?_
  refine W.call (Mp := []) (gload_fc (cfan) (cleaf) (cbud) (cslots) (crest) h_l) rfl (List.Perm.refl _) ?_
  intro v5 G2 Ms4 hG2 q3
  have q6 := or3 q3
  refine Or.elim q6 (fun q7 => ?_) (fun q8 => ?_)
  ·refine match q7 with | ⟨hnl, e_9, e_10⟩ => ?_
   subst e_9
   subst e_10
   refine W.mv ?_
   refine W.ok (ok_extract rfl rfl) ?_
   refine W.ok (ok_extract rfl rfl) ?_
   refine W.as ?_
   refine W.as ?_
   refine W.nil (thn_n ?_)
   refine WC.seq ?_
   refine WC.region ?_
   refine W.mv ?_
   refine W.ok (ok_len sl24 (h_l.mono hG2) rfl) ?_
   refine W.ok (ok_gtr rfl rfl) ?_
   refine W.as ?_
   refine W.nil (thn_n ?_)
   refine WC.seq ?_
   refine WC.seq ?_
   refine WC.region ?_
   refine W.mv ?_
   refine W.ok (ok_len sl24 (h_l.mono hG2) rfl) ?_
   refine W.mv ?_
   refine W.nil (thn_n ?_)
   refine WC.block ?_
   refine WC.loop (X := Nat) (fun k => [(7, .bool (decide (0 < l.length) && placedF 0 (l.take k))), (25, .int .i64 ((k : Nat) : Int)), (2, .pointer (some ⟨b1, 0, none⟩)), (1, .slice sa_l l.length sc_l), (5, .pointer none), (6, .int .i64 2), (23, .slice sa_l l.length sc_l), (24, .int .i64 (((l).length : Nat) : Int))]) (fun k _ Ml => Ml = [(b1, .cells (List.toArray [.int .i64 cfan, .int .i64 cleaf, .int .i64 cbud, .int .i64 cslots, .int .i64 crest]) 23 (0, 0))] ∧ k ≤ l.length) (fun k => l.length - k) 0 ⟨(congrArg Value.bool (by simp [placedF])), (by first | rfl | exact iv (by dsimp only; omega) | exact iv (by omega)), (by first | rfl | exact iv (by dsimp only; omega) | exact iv (by omega)), (by first | rfl | exact iv (by dsimp only; omega) | exact iv (by omega)), (by first | rfl | exact iv (by dsimp only; omega) | exact iv (by omega)), (by first | rfl | exact iv (by dsimp only; omega) | exact iv (by omega)), (by first | rfl | exact iv (by dsimp only; omega) | exact iv (by omega)), (by first | rfl | exact iv (by dsimp only; omega) | exact iv (by omega)), trivial⟩ ?_ ?_
   ·exact ⟨rfl, by omega⟩
   ·rintro k gG11 G11 _ hG11 ⟨rfl, hk⟩
    refine WC.seq ?_
    refine WC.region ?_
    refine W.ok (ok_lss rfl rfl) ?_
    refine W.nil (thn_n ?_)
    refine WC.seq ?_
    refine WC.cond (b := _) rfl (fun h26 => ?_) (fun h26 => ?_)
    ·have p26 := of_decide_eq_true h26
     refine WC.skip (thn_n ?_)
     refine WC.seq ?_
     refine WC.block ?_
     refine WC.seq ?_
     refine WC.region ?_
     refine W.mv ?_
     have q16 := (h_l.mono (hG2.trans hG11)).at (i := k) (by omega)
     refine match q16 with | ⟨_, he12, ⟨_, _, _, _, _, _, _, _, e_15, hp_n13, hk_n13, hm_n13, hr_n13, hok_n13⟩⟩ => ?_
     subst e_15
     refine W.ok (ok_indexAddr (i := k) sl24 ty35 (h_l.mono (hG2.trans hG11)) rfl rfl ⟨by omega, by omega⟩) ?_
     refine W.ok (ok_loadE (vs := [.int .i64 _, .int .i64 _, .slice _ _ _, .slice _ _ _, .string _, .bool _, .int .i64 _, .int .i64 _, .slice _ _ _, .slice _ _ _]) ty35 he12 rfl rfl rfl (by simp)) ?_
     refine W.alloc zr35 (fun b17 => ?_)
     refine W.as ?_
     refine W.store (i := 0) (vs := [.int .i64 _, .int .i64 _, .slice _ _ _, .slice _ _ _, .string _, .bool _, .int .i64 _, .int .i64 _, .slice _ _ _, .slice _ _ _]) (L' := [.int .i64 _, .int .i64 _, .slice _ _ _, .slice _ _ _, .string _, .bool _, .int .i64 _, .int .i64 _, .slice _ _ _, .slice _ _ _]) ty35 rfl rfl rfl rfl rfl rfl rfl rfl ?_
     refine W.nil (thn_n ?_)
     refine WC.region ?_
     refine W.mv ?_
     refine W.mv ?_
     refine W.sp 31 rfl (fun hplk => ?_) (fun hplk => ?_)
     ·refine W.yes (dj := 31) rfl rfl hplk ?_
      refine W.ok (ok_fieldB fd35_0 rfl) ?_
      refine W.yes (dj := 31) rfl rfl hplk ?_
      refine W.ok (ok_loadB (i := 0) (vs := [.int .i64 _]) ty3 rfl rfl rfl rfl (by simp)) ?_
      refine W.yes (dj := 31) rfl rfl hplk ?_
      refine W.mv ?_
      refine W.yes (dj := 31) rfl rfl hplk ?_
      refine W.ok (ok_eql rfl rfl) ?_
      refine W.ok (ok_pick_t rfl hplk) ?_
      refine W.as ?_
      refine W.nil (blk_n (thn_n ?_))
      refine WC.region ?_
      refine W.ok (ok_add rfl rfl (by omega)) ?_
      refine W.mv ?_
      refine W.sub ((List.Sublist.refl _).cons _) ?_
      refine W.nil (thn_n ?_)
      exact ⟨Le.rfl, k + 1, ⟨(congrArg Value.bool (by rw [placed_succ (by omega)]; simp_all)), (by first | rfl | exact iv (by dsimp only; omega) | exact iv (by omega)), (by first | rfl | exact iv (by dsimp only; omega) | exact iv (by omega)), (by first | rfl | exact iv (by dsimp only; omega) | exact iv (by omega)), (by first | rfl | exact iv (by dsimp only; omega) | exact iv (by omega)), (by first | rfl | exact iv (by dsimp only; omega) | exact iv (by omega)), (by first | rfl | exact iv (by dsimp only; omega) | exact iv (by omega)), (by first | rfl | exact iv (by dsimp only; omega) | exact iv (by omega)), trivial⟩, ⟨rfl, by omega⟩, by omega⟩
     ·refine W.no (dj := 31) rfl rfl hplk ?_
      refine W.no (dj := 31) rfl rfl hplk ?_
      refine W.no (dj := 31) rfl rfl hplk ?_
      refine W.no (dj := 31) rfl rfl hplk ?_
      refine W.ok (ok_pick_f rfl hplk) ?_
      refine W.as ?_
      refine W.nil (blk_n (thn_n ?_))
      refine WC.region ?_
      refine W.ok (ok_add rfl rfl (by omega)) ?_
      refine W.mv ?_
      refine W.sub ((List.Sublist.refl _).cons _) ?_
      refine W.nil (thn_n ?_)
      exact ⟨Le.rfl, k + 1, ⟨(congrArg Value.bool (by rw [placed_succ (by omega)]; simp_all)), (by first | rfl | exact iv (by dsimp only; omega) | exact iv (by omega)), (by first | rfl | exact iv (by dsimp only; omega) | exact iv (by omega)), (by first | rfl | exact iv (by dsimp only; omega) | exact iv (by omega)), (by first | rfl | exact iv (by dsimp only; omega) | exact iv (by omega)), (by first | rfl | exact iv (by dsimp only; omega) | exact iv (by omega)), (by first | rfl | exact iv (by dsimp only; omega) | exact iv (by omega)), (by first | rfl | exact iv (by dsimp only; omega) | exact iv (by omega)), trivial⟩, ⟨rfl, by omega⟩, by omega⟩
    ·have p26 := of_decide_eq_false h26
     have hpe : placedF 0 (l.take k) = placedF 0 l := by rw [List.take_of_length_le (by omega)]
     refine WC.exit (thn_x (thn_x (blk_h (thn_n ?_))))
     refine WC.seq ?_
     refine WC.block ?_
     refine WC.seq ?_
     refine WC.region ?_
     refine W.ok (ok_loadB (i := 0) (vs := [.int .i64 _, .int .i64 _, .int .i64 _, .int .i64 _, .int .i64 _]) ty23 rfl rfl rfl rfl (by simp)) ?_
     refine W.qcall (rright25_fc _ _ _ _ _) rfl ?_
     refine W.ok (ok_not rfl) ?_
     refine W.mv ?_
     refine W.sp 42 rfl (fun h41 => ?_) (fun h41 => ?_)
     ·refine W.no (dj := 42) rfl rfl h41 ?_
      refine W.no (dj := 42) rfl rfl h41 ?_
      refine W.ok (ok_pick_t rfl h41) ?_
      refine W.as ?_
      refine W.nil (thn_n ?_)
      refine WC.cond_t rfl rfl ?_
      refine WC.seq ?_
      refine WC.region ?_
      refine W.mv ?_
      refine W.ok (ok_eqlPN pp79 rfl rfl) ?_
      refine W.mv ?_
      refine W.yes (dj := 48) rfl rfl rfl ?_
      refine W.mv ?_
      refine W.yes (dj := 48) rfl rfl rfl ?_
      refine W.ok (ok_eql rfl rfl) ?_
      refine W.ok (ok_pick_t rfl rfl) ?_
      refine W.mv ?_
      refine W.yes (dj := 52) rfl rfl rfl ?_
      refine W.qcall (awake26_fc) rfl ?_
      refine W.ok (ok_pick_t rfl rfl) ?_
      refine W.as ?_
      refine W.nil (thn_n ?_)
      refine WC.ret (blk_r (thn_r ?_))
      refine ⟨.inr rfl, [_], ⟨rfl, trivial⟩, [], List.nil_sublist _, ?_⟩
      rfl
     ·refine W.yes (dj := 42) rfl rfl h41 ?_
      refine W.mv ?_
      refine W.yes (dj := 42) rfl rfl h41 ?_
      refine W.ok (ok_not rfl) ?_
      refine W.ok (ok_pick_f rfl h41) ?_
      refine W.as ?_
      refine W.nil (thn_n ?_)
      refine WC.cond (b := _) rfl (fun h44 => ?_) (fun h44 => ?_)
      ·refine WC.seq ?_
       refine WC.region ?_
       refine W.mv ?_
       refine W.ok (ok_eqlPN pp79 rfl rfl) ?_
       refine W.mv ?_
       refine W.yes (dj := 48) rfl rfl rfl ?_
       refine W.mv ?_
       refine W.yes (dj := 48) rfl rfl rfl ?_
       refine W.ok (ok_eql rfl rfl) ?_
       refine W.ok (ok_pick_t rfl rfl) ?_
       refine W.mv ?_
       refine W.yes (dj := 52) rfl rfl rfl ?_
       refine W.qcall (awake26_fc) rfl ?_
       refine W.ok (ok_pick_t rfl rfl) ?_
       refine W.as ?_
       refine W.nil (thn_n ?_)
       refine WC.ret (blk_r (thn_r ?_))
       refine ⟨.inr rfl, [_], ⟨rfl, trivial⟩, [], List.nil_sublist _, ?_⟩
       rfl
      ·have h1 : CfgR (⟨cfan, cleaf, cbud, cslots, crest⟩ : Cfg) := by simpa using h41
       have h2 : (decide (0 < l.length) && placedF 0 (l.take k)) = true := by simpa using h44
       rw [hpe] at h2
       simp only [Bool.and_eq_true, decide_eq_true_eq] at h2
       exact absurd ⟨h1, h2⟩ hnl
  ·refine Or.elim q8 (fun q18 => ?_) (fun q19 => ?_)
   ·refine match q18 with | ⟨hOK, hnle, e_20, e_21⟩ => ?_
    subst e_20
    subst e_21
    refine W.mv ?_
    refine W.ok (ok_extract rfl rfl) ?_
    refine W.ok (ok_extract rfl rfl) ?_
    refine W.as ?_
    refine W.as ?_
    refine W.nil (thn_n ?_)
    refine WC.seq ?_
    refine WC.region ?_
    refine W.mv ?_
    refine W.ok (ok_len sl24 (h_l.mono hG2) rfl) ?_
    refine W.ok (ok_gtr rfl rfl) ?_
    refine W.as ?_
    refine W.nil (thn_n ?_)
    refine WC.seq ?_
    refine WC.seq ?_
    refine WC.region ?_
    refine W.mv ?_
    refine W.ok (ok_len sl24 (h_l.mono hG2) rfl) ?_
    refine W.mv ?_
    refine W.nil (thn_n ?_)
    refine WC.block ?_
    refine WC.loop (X := Nat) (fun k => [(7, .bool (decide (0 < l.length) && placedF 0 (l.take k))), (25, .int .i64 ((k : Nat) : Int)), (2, .pointer (some ⟨b1, 0, none⟩)), (1, .slice sa_l l.length sc_l), (5, .pointer none), (6, .int .i64 4), (23, .slice sa_l l.length sc_l), (24, .int .i64 (((l).length : Nat) : Int))]) (fun k _ Ml => Ml = [(b1, .cells (List.toArray [.int .i64 cfan, .int .i64 cleaf, .int .i64 cbud, .int .i64 cslots, .int .i64 crest]) 23 (0, 0))] ∧ k ≤ l.length) (fun k => l.length - k) 0 ⟨(congrArg Value.bool (by simp [placedF])), (by first | rfl | exact iv (by dsimp only; omega) | exact iv (by omega)), (by first | rfl | exact iv (by dsimp only; omega) | exact iv (by omega)), (by first | rfl | exact iv (by dsimp only; omega) | exact iv (by omega)), (by first | rfl | exact iv (by dsimp only; omega) | exact iv (by omega)), (by first | rfl | exact iv (by dsimp only; omega) | exact iv (by omega)), (by first | rfl | exact iv (by dsimp only; omega) | exact iv (by omega)), (by first | rfl | exact iv (by dsimp only; omega) | exact iv (by omega)), trivial⟩ ?_ ?_
    ·exact ⟨rfl, by omega⟩
    ·rintro k gG22 G22 _ hG22 ⟨rfl, hk⟩
     refine WC.seq ?_
     refine WC.region ?_
     refine W.ok (ok_lss rfl rfl) ?_
     refine W.nil (thn_n ?_)
     refine WC.seq ?_
     refine WC.cond (b := _) rfl (fun h26 => ?_) (fun h26 => ?_)
     ·have p26 := of_decide_eq_true h26
      refine WC.skip (thn_n ?_)
      refine WC.seq ?_
      refine WC.block ?_
      refine WC.seq ?_
      refine WC.region ?_
      refine W.mv ?_
      have q27 := (h_l.mono (hG2.trans hG22)).at (i := k) (by omega)
      refine match q27 with | ⟨_, he23, ⟨_, _, _, _, _, _, _, _, e_26, hp_n24, hk_n24, hm_n24, hr_n24, hok_n24⟩⟩ => ?_
      subst e_26
      refine W.ok (ok_indexAddr (i := k) sl24 ty35 (h_l.mono (hG2.trans hG22)) rfl rfl ⟨by omega, by omega⟩) ?_
      refine W.ok (ok_loadE (vs := [.int .i64 _, .int .i64 _, .slice _ _ _, .slice _ _ _, .string _, .bool _, .int .i64 _, .int .i64 _, .slice _ _ _, .slice _ _ _]) ty35 he23 rfl rfl rfl (by simp)) ?_
      refine W.alloc zr35 (fun b28 => ?_)
      refine W.as ?_
      refine W.store (i := 0) (vs := [.int .i64 _, .int .i64 _, .slice _ _ _, .slice _ _ _, .string _, .bool _, .int .i64 _, .int .i64 _, .slice _ _ _, .slice _ _ _]) (L' := [.int .i64 _, .int .i64 _, .slice _ _ _, .slice _ _ _, .string _, .bool _, .int .i64 _, .int .i64 _, .slice _ _ _, .slice _ _ _]) ty35 rfl rfl rfl rfl rfl rfl rfl rfl ?_
      refine W.nil (thn_n ?_)
      refine WC.region ?_
      refine W.mv ?_
      refine W.mv ?_
      refine W.sp 31 rfl (fun hplk => ?_) (fun hplk => ?_)
      ·refine W.yes (dj := 31) rfl rfl hplk ?_
       refine W.ok (ok_fieldB fd35_0 rfl) ?_
       refine W.yes (dj := 31) rfl rfl hplk ?_
       refine W.ok (ok_loadB (i := 0) (vs := [.int .i64 _]) ty3 rfl rfl rfl rfl (by simp)) ?_
       refine W.yes (dj := 31) rfl rfl hplk ?_
       refine W.mv ?_
       refine W.yes (dj := 31) rfl rfl hplk ?_
       refine W.ok (ok_eql rfl rfl) ?_
       refine W.ok (ok_pick_t rfl hplk) ?_
       refine W.as ?_
       refine W.nil (blk_n (thn_n ?_))
       refine WC.region ?_
       refine W.ok (ok_add rfl rfl (by omega)) ?_
       refine W.mv ?_
       refine W.sub ((List.Sublist.refl _).cons _) ?_
       refine W.nil (thn_n ?_)
       exact ⟨Le.rfl, k + 1, ⟨(congrArg Value.bool (by rw [placed_succ (by omega)]; simp_all)), (by first | rfl | exact iv (by dsimp only; omega) | exact iv (by omega)), (by first | rfl | exact iv (by dsimp only; omega) | exact iv (by omega)), (by first | rfl | exact iv (by dsimp only; omega) | exact iv (by omega)), (by first | rfl | exact iv (by dsimp only; omega) | exact iv (by omega)), (by first | rfl | exact iv (by dsimp only; omega) | exact iv (by omega)), (by first | rfl | exact iv (by dsimp only; omega) | exact iv (by omega)), (by first | rfl | exact iv (by dsimp only; omega) | exact iv (by omega)), trivial⟩, ⟨rfl, by omega⟩, by omega⟩
      ·refine W.no (dj := 31) rfl rfl hplk ?_
       refine W.no (dj := 31) rfl rfl hplk ?_
       refine W.no (dj := 31) rfl rfl hplk ?_
       refine W.no (dj := 31) rfl rfl hplk ?_
       refine W.ok (ok_pick_f rfl hplk) ?_
       refine W.as ?_
       refine W.nil (blk_n (thn_n ?_))
       refine WC.region ?_
       refine W.ok (ok_add rfl rfl (by omega)) ?_
       refine W.mv ?_
       refine W.sub ((List.Sublist.refl _).cons _) ?_
       refine W.nil (thn_n ?_)
       exact ⟨Le.rfl, k + 1, ⟨(congrArg Value.bool (by rw [placed_succ (by omega)]; simp_all)), (by first | rfl | exact iv (by dsimp only; omega) | exact iv (by omega)), (by first | rfl | exact iv (by dsimp only; omega) | exact iv (by omega)), (by first | rfl | exact iv (by dsimp only; omega) | exact iv (by omega)), (by first | rfl | exact iv (by dsimp only; omega) | exact iv (by omega)), (by first | rfl | exact iv (by dsimp only; omega) | exact iv (by omega)), (by first | rfl | exact iv (by dsimp only; omega) | exact iv (by omega)), (by first | rfl | exact iv (by dsimp only; omega) | exact iv (by omega)), trivial⟩, ⟨rfl, by omega⟩, by omega⟩
     ·have p26 := of_decide_eq_false h26
      have hpe : placedF 0 (l.take k) = placedF 0 l := by rw [List.take_of_length_le (by omega)]
      refine WC.exit (thn_x (thn_x (blk_h (thn_n ?_))))
      refine WC.seq ?_
      refine WC.block ?_
      refine WC.seq ?_
      refine WC.region ?_
      refine W.ok (ok_loadB (i := 0) (vs := [.int .i64 _, .int .i64 _, .int .i64 _, .int .i64 _, .int .i64 _]) ty23 rfl rfl rfl rfl (by simp)) ?_
      refine W.qcall (rright25_fc _ _ _ _ _) rfl ?_
      refine W.ok (ok_not rfl) ?_
      refine W.mv ?_
      refine W.sp 42 rfl (fun h41 => ?_) (fun h41 => ?_)
      ·exact absurd hOK.1 (by simpa using h41)
      ·refine W.yes (dj := 42) rfl rfl h41 ?_
       refine W.mv ?_
       refine W.yes (dj := 42) rfl rfl h41 ?_
       refine W.ok (ok_not rfl) ?_
       refine W.ok (ok_pick_f rfl h41) ?_
       refine W.as ?_
       refine W.nil (thn_n ?_)
       refine WC.cond (b := _) rfl (fun h44 => ?_) (fun h44 => ?_)
       ·rw [hpe] at h44
        simp [hOK.2.1, hOK.2.2] at h44
       ·refine WC.seq ?_
        refine WC.region ?_
        refine W.mv ?_
        refine W.ok (ok_len sl24 (h_l.mono (hG2.trans hG22)) rfl) ?_
        refine W.ok (ok_fieldB fd23_3 rfl) ?_
        refine W.ok (ok_loadB (i := 0) (vs := [.int .i64 _]) ty3 rfl rfl rfl rfl (by simp)) ?_
        refine W.ok (ok_gtr rfl rfl) ?_
        refine W.as ?_
        refine W.nil (thn_n ?_)
        refine WC.cond (b := _) rfl (fun h60 => ?_) (fun h60 => ?_)
        ·have p60 := of_decide_eq_true h60
         refine WC.seq ?_
         refine WC.region ?_
         refine W.mv ?_
         refine W.ok (ok_eqlPN pp79 rfl rfl) ?_
         refine W.mv ?_
         refine W.yes (dj := 63) rfl rfl rfl ?_
         refine W.mv ?_
         refine W.yes (dj := 63) rfl rfl rfl ?_
         refine W.ok (ok_eql rfl rfl) ?_
         refine W.ok (ok_pick_t rfl rfl) ?_
         refine W.mv ?_
         refine W.yes (dj := 67) rfl rfl rfl ?_
         refine W.qcall (awake26_fc) rfl ?_
         refine W.ok (ok_pick_t rfl rfl) ?_
         refine W.as ?_
         refine W.nil (thn_n ?_)
         refine WC.ret (blk_r (thn_r ?_))
         refine ⟨.inr rfl, [_], ⟨rfl, trivial⟩, [], List.nil_sublist _, ?_⟩
         rfl
        ·have p60 := of_decide_eq_false h60
         exfalso; omega
   ·refine match q19 with | ⟨hOK, hle, bSt, e_29, hS9⟩ => ?_
    subst e_29
    refine W.perm (pmC (List.Perm.refl _)).symm ?_
    refine W.mv ?_
    refine W.ok (ok_extract rfl rfl) ?_
    refine W.ok (ok_extract rfl rfl) ?_
    refine W.as ?_
    refine W.as ?_
    refine W.nil (thn_n ?_)
    refine WC.seq ?_
    refine WC.region ?_
    refine W.mv ?_
    refine W.ok (ok_len sl24 (h_l.mono hG2) rfl) ?_
    refine W.ok (ok_gtr rfl rfl) ?_
    refine W.as ?_
    refine W.nil (thn_n ?_)
    refine WC.seq ?_
    refine WC.seq ?_
    refine WC.region ?_
    refine W.mv ?_
    refine W.ok (ok_len sl24 (h_l.mono hG2) rfl) ?_
    refine W.mv ?_
    refine W.nil (thn_n ?_)
    refine WC.block ?_
    refine WC.loop (X := Nat) (fun k => [(7, .bool (decide (0 < l.length) && placedF 0 (l.take k))), (25, .int .i64 ((k : Nat) : Int)), (5, .pointer (some ⟨bSt, 0, none⟩)), (2, .pointer (some ⟨b1, 0, none⟩)), (1, .slice sa_l l.length sc_l), (6, .int .i64 0), (23, .slice sa_l l.length sc_l), (24, .int .i64 (((l).length : Nat) : Int))]) (fun k _ Ml => Ml = ((b1, .cells (List.toArray [.int .i64 cfan, .int .i64 cleaf, .int .i64 cbud, .int .i64 cslots, .int .i64 crest]) 23 (0, 0)) :: (Ms4 ++ [])) ∧ k ≤ l.length) (fun k => l.length - k) 0 ⟨(congrArg Value.bool (by simp [placedF])), (by first | rfl | exact iv (by dsimp only; omega) | exact iv (by omega)), (by first | rfl | exact iv (by dsimp only; omega) | exact iv (by omega)), (by first | rfl | exact iv (by dsimp only; omega) | exact iv (by omega)), (by first | rfl | exact iv (by dsimp only; omega) | exact iv (by omega)), (by first | rfl | exact iv (by dsimp only; omega) | exact iv (by omega)), (by first | rfl | exact iv (by dsimp only; omega) | exact iv (by omega)), (by first | rfl | exact iv (by dsimp only; omega) | exact iv (by omega)), trivial⟩ ?_ ?_
    ·exact ⟨rfl, by omega⟩
    ·rintro k gG30 G30 _ hG30 ⟨rfl, hk⟩
     refine WC.seq ?_
     refine WC.region ?_
     refine W.ok (ok_lss rfl rfl) ?_
     refine W.nil (thn_n ?_)
     refine WC.seq ?_
     refine WC.cond (b := _) rfl (fun h26 => ?_) (fun h26 => ?_)
     ·have p26 := of_decide_eq_true h26
      refine WC.skip (thn_n ?_)
      refine WC.seq ?_
      refine WC.block ?_
      refine WC.seq ?_
      refine WC.region ?_
      refine W.mv ?_
      have q35 := (h_l.mono (hG2.trans hG30)).at (i := k) (by omega)
      refine match q35 with | ⟨_, he31, ⟨_, _, _, _, _, _, _, _, e_34, hp_n32, hk_n32, hm_n32, hr_n32, hok_n32⟩⟩ => ?_
      subst e_34
      refine W.ok (ok_indexAddr (i := k) sl24 ty35 (h_l.mono (hG2.trans hG30)) rfl rfl ⟨by omega, by omega⟩) ?_
      refine W.ok (ok_loadE (vs := [.int .i64 _, .int .i64 _, .slice _ _ _, .slice _ _ _, .string _, .bool _, .int .i64 _, .int .i64 _, .slice _ _ _, .slice _ _ _]) ty35 he31 rfl rfl rfl (by simp)) ?_
      refine W.alloc zr35 (fun b36 => ?_)
      refine W.as ?_
      refine W.store (i := 0) (vs := [.int .i64 _, .int .i64 _, .slice _ _ _, .slice _ _ _, .string _, .bool _, .int .i64 _, .int .i64 _, .slice _ _ _, .slice _ _ _]) (L' := [.int .i64 _, .int .i64 _, .slice _ _ _, .slice _ _ _, .string _, .bool _, .int .i64 _, .int .i64 _, .slice _ _ _, .slice _ _ _]) ty35 rfl rfl rfl rfl rfl rfl rfl rfl ?_
      refine W.nil (thn_n ?_)
      refine WC.region ?_
      refine W.mv ?_
      refine W.mv ?_
      refine W.sp 31 rfl (fun hplk => ?_) (fun hplk => ?_)
      ·refine W.yes (dj := 31) rfl rfl hplk ?_
       refine W.ok (ok_fieldB fd35_0 rfl) ?_
       refine W.yes (dj := 31) rfl rfl hplk ?_
       refine W.ok (ok_loadB (i := 0) (vs := [.int .i64 _]) ty3 rfl rfl rfl rfl (by simp)) ?_
       refine W.yes (dj := 31) rfl rfl hplk ?_
       refine W.mv ?_
       refine W.yes (dj := 31) rfl rfl hplk ?_
       refine W.ok (ok_eql rfl rfl) ?_
       refine W.ok (ok_pick_t rfl hplk) ?_
       refine W.as ?_
       refine W.nil (blk_n (thn_n ?_))
       refine WC.region ?_
       refine W.ok (ok_add rfl rfl (by omega)) ?_
       refine W.mv ?_
       refine W.sub ((List.Sublist.refl _).cons _) ?_
       refine W.nil (thn_n ?_)
       exact ⟨Le.rfl, k + 1, ⟨(congrArg Value.bool (by rw [placed_succ (by omega)]; simp_all)), (by first | rfl | exact iv (by dsimp only; omega) | exact iv (by omega)), (by first | rfl | exact iv (by dsimp only; omega) | exact iv (by omega)), (by first | rfl | exact iv (by dsimp only; omega) | exact iv (by omega)), (by first | rfl | exact iv (by dsimp only; omega) | exact iv (by omega)), (by first | rfl | exact iv (by dsimp only; omega) | exact iv (by omega)), (by first | rfl | exact iv (by dsimp only; omega) | exact iv (by omega)), (by first | rfl | exact iv (by dsimp only; omega) | exact iv (by omega)), trivial⟩, ⟨rfl, by omega⟩, by omega⟩
      ·refine W.no (dj := 31) rfl rfl hplk ?_
       refine W.no (dj := 31) rfl rfl hplk ?_
       refine W.no (dj := 31) rfl rfl hplk ?_
       refine W.no (dj := 31) rfl rfl hplk ?_
       refine W.ok (ok_pick_f rfl hplk) ?_
       refine W.as ?_
       refine W.nil (blk_n (thn_n ?_))
       refine WC.region ?_
       refine W.ok (ok_add rfl rfl (by omega)) ?_
       refine W.mv ?_
       refine W.sub ((List.Sublist.refl _).cons _) ?_
       refine W.nil (thn_n ?_)
       exact ⟨Le.rfl, k + 1, ⟨(congrArg Value.bool (by rw [placed_succ (by omega)]; simp_all)), (by first | rfl | exact iv (by dsimp only; omega) | exact iv (by omega)), (by first | rfl | exact iv (by dsimp only; omega) | exact iv (by omega)), (by first | rfl | exact iv (by dsimp only; omega) | exact iv (by omega)), (by first | rfl | exact iv (by dsimp only; omega) | exact iv (by omega)), (by first | rfl | exact iv (by dsimp only; omega) | exact iv (by omega)), (by first | rfl | exact iv (by dsimp only; omega) | exact iv (by omega)), (by first | rfl | exact iv (by dsimp only; omega) | exact iv (by omega)), trivial⟩, ⟨rfl, by omega⟩, by omega⟩
     ·have p26 := of_decide_eq_false h26
      have hpe : placedF 0 (l.take k) = placedF 0 l := by rw [List.take_of_length_le (by omega)]
      refine WC.exit (thn_x (thn_x (blk_h (thn_n ?_))))
      refine WC.seq ?_
      refine WC.block ?_
      refine WC.seq ?_
      refine WC.region ?_
      refine W.ok (ok_loadB (i := 0) (vs := [.int .i64 _, .int .i64 _, .int .i64 _, .int .i64 _, .int .i64 _]) ty23 rfl rfl rfl rfl (by simp)) ?_
      refine W.qcall (rright25_fc _ _ _ _ _) rfl ?_
      refine W.ok (ok_not rfl) ?_
      refine W.mv ?_
      refine W.sp 42 rfl (fun h41 => ?_) (fun h41 => ?_)
      ·exact absurd hOK.1 (by simpa using h41)
      ·refine W.yes (dj := 42) rfl rfl h41 ?_
       refine W.mv ?_
       refine W.yes (dj := 42) rfl rfl h41 ?_
       refine W.ok (ok_not rfl) ?_
       refine W.ok (ok_pick_f rfl h41) ?_
       refine W.as ?_
       refine W.nil (thn_n ?_)
       refine WC.cond (b := _) rfl (fun h44 => ?_) (fun h44 => ?_)
       ·rw [hpe] at h44
        simp [hOK.2.1, hOK.2.2] at h44
       ·refine WC.seq ?_
        refine WC.region ?_
        refine W.mv ?_
        refine W.ok (ok_len sl24 (h_l.mono (hG2.trans hG30)) rfl) ?_
        refine W.ok (ok_fieldB fd23_3 rfl) ?_
        refine W.ok (ok_loadB (i := 0) (vs := [.int .i64 _]) ty3 rfl rfl rfl rfl (by simp)) ?_
        refine W.ok (ok_gtr rfl rfl) ?_
        refine W.as ?_
        refine W.nil (thn_n ?_)
        refine WC.cond (b := _) rfl (fun h60 => ?_) (fun h60 => ?_)
        ·have p60 := of_decide_eq_true h60
         exfalso; omega
        ·have p60 := of_decide_eq_false h60
         refine WC.skip (blk_n (thn_n ?_))
         refine WC.seq ?_
         refine WC.region ?_
         refine W.mv ?_
         refine W.ok (ok_neqPN pp79 rfl rfl) ?_
         refine W.mv ?_
         refine W.yes (dj := 72) rfl rfl rfl ?_
         refine W.mv ?_
         refine W.yes (dj := 72) rfl rfl rfl ?_
         refine W.ok (ok_eql rfl rfl) ?_
         refine W.ok (ok_pick_t rfl rfl) ?_
         refine W.mv ?_
         refine W.yes (dj := 76) rfl rfl rfl ?_
         refine W.mv ?_
         refine W.yes (dj := 76) rfl rfl rfl ?_
         refine W.call (Mp := Ms4) (pnodes_fc (StR.mono hG30 hS9)) rfl (pmC (List.Perm.refl _)) ?_
         intro v40 G37 Ms39 hG37 q38
         refine match q38 with | ⟨hR41, eeq38⟩ => ?_
         have eeq38 := eeq38.symm
         subst eeq38
         refine W.perm (pmC (List.Perm.refl _)).symm ?_
         have q43 := hR41.form
         refine match q43 with | ⟨sa_hR41, sc_hR41, e_42⟩ => ?_
         subst e_42
         refine W.yes (dj := 76) rfl rfl rfl ?_
         refine W.mv ?_
         refine W.yes (dj := 76) rfl rfl rfl ?_
         refine W.qcall ((all21_fc hR41 (h_l.mono ((hG2.trans hG30).trans hG37))).mono (fun v _ _ _ hv => hv.trans (congrArg Value.bool (decide_eq_true rfl)))) rfl ?_
         refine W.ok (ok_pick_t rfl rfl) ?_
         refine W.mv ?_
         refine W.yes (dj := 82) rfl rfl rfl ?_
         refine W.qcall (awake26_fc) rfl ?_
         refine W.ok (ok_pick_t rfl rfl) ?_
         refine W.as ?_
         refine W.nil (thn_n ?_)
         refine WC.ret ?_
         refine ⟨.inr rfl, [_], ⟨rfl, trivial⟩, [], List.nil_sublist _, ?_⟩
         rfl

end Go.Proofs.Ytjbbookmgohamaa
