/- Walks of nodes in two. -/
import Derived.Test.YtebkfinhhpelbaaGreatQzUb
set_option maxRecDepth 100000
set_option maxHeartbeats 1600000
set_option linter.unusedVariables false
set_option linter.unusedSimpArgs false
set_option linter.unnecessarySimpa false
namespace Go.Proofs.YtebkfinhhpelbaaGreat
open Go Go.Fw Go.RowKit
theorem bhalve_fc {G : GH} {v_p : Value} {p : List Str} (h_p : SlR eStr G v_p p) {v_c : Value} {c : List Int} (h_c : SlR eInt G v_c c) :
    Fc Tryz.prog 200 [v_p, v_c] G [] (fun v G' M' => M' = [] ∧ ∃ r : List Str × List Int × Str × List Str × List Int × Bool, r = halveN p c ∧ ∃ u0 u1 u2 u3, v = .tuple #[u0, u1, .string (Str.b (r.2.2.1)), u2, u3, .bool (r.2.2.2.2.2)] ∧ SlR eStr G' u0 (r.1) ∧ SlR eInt G' u1 (r.2.1) ∧ SlR eStr G' u2 (r.2.2.2.1) ∧ SlR eInt G' u3 (r.2.2.2.2.1)) := by
 obtain ⟨sa_p, sc_p, rfl⟩ := h_p.form
 obtain ⟨sa_c, sc_c, rfl⟩ := h_c.form
 have hp := h_p.len47
 have hc := h_c.len47
 refine Fc.intro (rs := [.tmp 4, .tmp 5, .tmp 6, .tmp 7, .tmp 8, .tmp 9]) cl200 Tryz.func200 rfl Tryz.ntmps200 rfl rfl (fun w0 => ?_)
 refine WC.seq (WC.region (W.as (W.as (W.as (W.as (W.as (W.as (W.nil (thn_n (WC.seq (WC.seq (WC.region (W.mv (W.ok (ok_len sl44 h_c rfl) ?_))))))))))))))
 refine W.ok (ok_lss rfl rfl) (W.mv ?_)
 refine W.sp 14 rfl (fun h13 => ?_) (fun h13 => ?_)
 ·have p13 := of_decide_eq_true h13
  refine W.no (dj := 14) rfl rfl h13 (W.no (dj := 14) rfl rfl h13 (W.no (dj := 14) rfl rfl h13 (W.no (dj := 14) rfl rfl h13 (W.no (dj := 14) rfl rfl h13 (W.no (dj := 14) rfl rfl h13 (W.ok (ok_pick_t rfl h13) (W.nil (thn_n (WC.cond_t rfl rfl (WC.seq (WC.region (W.as (W.as (W.as ?_))))))))))))))
  refine W.as (W.as (W.as (W.nil (thn_n (WC.ret (thn_r ?_))))))
  refine ⟨.inr rfl, [_, _, _, _, _, _], ⟨rfl, rfl, rfl, rfl, rfl, rfl, trivial⟩, [], sn9, ?_⟩
  refine ⟨rfl, _, (halveN_f (by omega)).symm, _, _, _, _, rfl, ?_, ?_, ?_, ?_⟩
  · exact SlR.nil
  · exact SlR.nil
  · exact SlR.nil
  exact SlR.nil
 have p13 := of_decide_eq_false h13
 refine W.yes (dj := 14) rfl rfl h13 (W.mv (W.yes (dj := 14) rfl rfl h13 (W.ok (ok_len sl43 h_p rfl) (W.yes (dj := 14) rfl rfl h13 (W.mv (W.yes (dj := 14) rfl rfl h13 (W.ok (ok_len sl44 h_c rfl) (W.yes (dj := 14) rfl rfl h13 (W.ok (ok_sub rfl rfl (by omega)) (W.yes (dj := 14) rfl rfl h13 (W.ok (ok_neq rfl rfl) (W.ok (ok_pick_f rfl h13) (W.nil (thn_n ?_))))))))))))))
 refine WC.cond (b := _) rfl (fun h20 => ?_) (fun h20 => ?_)
 ·have p20 := nd_t h20
  refine WC.seq (WC.region (W.as (W.as (W.as (W.as (W.as (W.as (W.nil (thn_n (WC.ret (thn_r ?_)))))))))))
  refine ⟨.inr rfl, [_, _, _, _, _, _], ⟨rfl, rfl, rfl, rfl, rfl, rfl, trivial⟩, [], sn9, ?_⟩
  refine ⟨rfl, _, (halveN_f (by omega)).symm, _, _, _, _, rfl, ?_, ?_, ?_, ?_⟩
  · exact SlR.nil
  · exact SlR.nil
  · exact SlR.nil
  exact SlR.nil
 have p20 := nd_f h20
 refine WC.skip (thn_n (WC.seq (WC.region (W.mv (W.ok (ok_len sl44 h_c rfl) (W.ok (ok_add rfl rfl (by omega)) (W.ok (ok_quo' rfl rfl (by omega) (by omega) (by omega)) (W.as (W.nil (thn_n (WC.seq (WC.drawW _ sr9 mix (by rintro _ _ _ _ ⟨h | h, _⟩ <;> cases h) (WD.tk 0 rfl (ok_mv) (WD.tk 1 rfl (ok_mv) (WD.tk 2 rfl (ok_sub rfl rfl (by omega)) ?_)))))))))))))))
 have hs1 := SlR.slice h_p (lo := 0) (hi := ((c.length + 1) / 2) - 1) (by omega) (by omega)
 refine WD.tk 3 rfl (ok_slice (0) (((c.length + 1) / 2) - 1) sl43 ty9 h_p rfl rfl ⟨_, _, rfl, by omega⟩ ⟨by omega, by omega⟩) (WD.tk 5 rfl (ok_mv) (WD.tk 6 rfl (ok_mv) ?_))
 have hs2 := SlR.slice h_c (lo := 0) (hi := ((c.length + 1) / 2)) (by omega) (by omega)
 refine WD.tk 7 rfl (ok_slice (0) (((c.length + 1) / 2)) sl44 ty3 h_c rfl rfl ⟨_, _, rfl, by omega⟩ ⟨by omega, by omega⟩) (WD.tk 9 rfl (ok_mv) (WD.tk 10 rfl (ok_mv) (WD.tk 11 rfl (ok_sub rfl rfl (by omega)) ?_)))
 have q5 := h_p.at (i := ((c.length + 1) / 2) - 1) (by omega)
 refine match q5 with | ⟨_, he3, e_4⟩ => ?_
 subst e_4
 refine WD.tk 12 rfl (ok_indexAddr (i := ((c.length + 1) / 2) - 1) sl43 ty9 h_p rfl rfl ⟨by omega, by omega⟩) (WD.tk 13 rfl (ok_loadE (vs := [.string _]) ty9 he3 rfl rfl rfl (by simp)) (WD.tk 14 rfl (ok_mv) (WD.tk 15 rfl (ok_mv) ?_)))
 have hs6 := SlR.slice h_p (lo := ((c.length + 1) / 2)) (hi := p.length) (by omega) (by omega)
 refine WD.tk 16 rfl (ok_slice (((c.length + 1) / 2)) (p.length) sl43 ty9 h_p rfl ⟨_, _, rfl, by omega⟩ rfl ⟨by omega, by omega⟩) (WD.tk 18 rfl (ok_mv) (WD.tk 19 rfl (ok_mv) ?_))
 have hs7 := SlR.slice h_c (lo := ((c.length + 1) / 2)) (hi := c.length) (by omega) (by omega)
 refine WD.tk 20 rfl (ok_slice (((c.length + 1) / 2)) (c.length) sl44 ty3 h_c rfl ⟨_, _, rfl, by omega⟩ rfl ⟨by omega, by omega⟩) (WD.a1 4 rfl (W.call (Mp := []) (clones_fc hs1) rfl pr9 ?_))
 intro _ G8 _ hG8 q10
 refine match q10 with | ⟨e_11, _, e_12, hv9⟩ => ?_
 subst e_11
 subst e_12
 have q14 := hv9.form
 refine match q14 with | ⟨sa_hv9, sc_hv9, e_13⟩ => ?_
 subst e_13
 refine W.nil (WD.n9 hG8 sr9 (WD.a1 8 rfl (W.call (Mp := []) (clonei_fc (hs2.mono hG8)) rfl pr9 ?_)))
 intro _ G15 _ hG15 q17
 refine match q17 with | ⟨e_18, _, e_19, hv16⟩ => ?_
 subst e_18
 subst e_19
 have q21 := hv16.form
 refine match q21 with | ⟨sa_hv16, sc_hv16, e_20⟩ => ?_
 subst e_20
 refine W.nil (WD.n9 hG15 sr9 (WD.a1 17 rfl (W.call (Mp := []) (clones_fc (hs6.mono (hG8.trans hG15))) rfl pr9 ?_)))
 intro _ G22 _ hG22 q24
 refine match q24 with | ⟨e_25, _, e_26, hv23⟩ => ?_
 subst e_25
 subst e_26
 have q28 := hv23.form
 refine match q28 with | ⟨sa_hv23, sc_hv23, e_27⟩ => ?_
 subst e_27
 refine W.nil (WD.n9 hG22 sr9 (WD.a1 21 rfl (W.call (Mp := []) (clonei_fc (hs7.mono ((hG8.trans hG15).trans hG22))) rfl pr9 ?_)))
 intro _ G29 _ hG29 q31
 refine match q31 with | ⟨e_32, _, e_33, hv30⟩ => ?_
 subst e_32
 subst e_33
 have q35 := hv30.form
 refine match q35 with | ⟨sa_hv30, sc_hv30, e_34⟩ => ?_
 subst e_34
 refine W.nil (WD.n9 hG29 sr9 (WD.tk 22 rfl (ok_as) (WD.tk 23 rfl (ok_as) (WD.tk 24 rfl (ok_as) (WD.tk 25 rfl (ok_as) (WD.tk 26 rfl (ok_as) (WD.tk 27 rfl (ok_as) (WD.done (by kernel_rfl) (thn_n (WC.ret ?_))))))))))
 refine ⟨.inr rfl, [_, _, _, _, _, _], ⟨rfl, rfl, rfl, rfl, rfl, rfl, trivial⟩, [], sn9, ?_⟩
 refine ⟨rfl, _, (halveN_t (by omega)).symm, _, _, _, _, rfl, ?_, ?_, ?_, ?_⟩
 · exact SlR.cast ((hv9.mono ((hG15.trans hG22).trans hG29))) (by simp)
 · exact SlR.cast ((hv16.mono (hG22.trans hG29))) (by simp)
 · exact SlR.cast ((hv23.mono hG29)) (by simp)
 exact SlR.cast (hv30) (by simp)

theorem cut_fc {G : GH} {v_l : Value} {l : List Str} (h_l : SlR eStr G v_l l) (i : Nat) (j : Nat) (hij : i ≤ j ∧ j ≤ l.length) :
    Fc Tryz.prog 157 [v_l, .int .i64 ((i : Nat) : Int), .int .i64 ((j : Nat) : Int)] G [] (fun v G' M' => M' = [] ∧ ∃ u0, v = u0 ∧ SlR eStr G' u0 ((l.take j).drop i)) := by
 obtain ⟨sa_l, sc_l, rfl⟩ := h_l.form
 have hl := h_l.len47
 have hlb : l.length * 16 ≤ 140737488355328 := h_l.bytes
 obtain ⟨hi, hj⟩ := hij
 refine Fc.intro (rs := [.tmp 6]) cl157 Tryz.func157 rfl Tryz.ntmps157 rfl rfl (fun w0 => ?_)
 refine WC.seq (WC.region (W.as (W.nil (thn_n (WC.seq (WC.region (W.lit0 (e := eStr) sl43 ty9 zr9 rfl (fun v36 Ms37 ho38 => (W.mv (W.mv (W.mv ?_)))))))))))
 have hs39 := SlR.slice h_l (lo := i) (hi := j) (by omega) (by omega)
 refine W.ok (ok_slice (i) (j) sl43 ty9 h_l rfl ⟨_, _, rfl, by omega⟩ ⟨_, _, rfl, by omega⟩ ⟨by omega, by omega⟩) (W.app (e := eStr) sl43 ty9 zr9 rfl by9 rfl rfl (ho38) (hs39) pr9 (by show (0 + ((l.take j).drop i).length) * 16 ≤ _; simp; omega) (fun v40 Ms41 ho42 => (W.as (W.nil (thn_n (WC.giveO ho42 pr9 (fun G43 hG43 hv43 => (WC.ret ?_))))))))
 refine ⟨.inr rfl, [_], ⟨rfl, trivial⟩, [], sn9, ?_⟩
 refine ⟨rfl, _, rfl, ?_⟩
 · exact hv43

theorem part_fc {G : GH} {v_l : Value} {l : List Int} (h_l : SlR eInt G v_l l) (i : Nat) (j : Nat) (hij : i ≤ j ∧ j ≤ l.length) :
    Fc Tryz.prog 158 [v_l, .int .i64 ((i : Nat) : Int), .int .i64 ((j : Nat) : Int)] G [] (fun v G' M' => M' = [] ∧ ∃ u0, v = u0 ∧ SlR eInt G' u0 ((l.take j).drop i)) := by
 obtain ⟨sa_l, sc_l, rfl⟩ := h_l.form
 have hl := h_l.len47
 have hlb : l.length * 8 ≤ 140737488355328 := h_l.bytes
 obtain ⟨hi, hj⟩ := hij
 refine Fc.intro (rs := [.tmp 6]) cl158 Tryz.func158 rfl Tryz.ntmps158 rfl rfl (fun w0 => ?_)
 refine WC.seq (WC.region (W.as (W.nil (thn_n (WC.seq (WC.region (W.lit0 (e := eInt) sl44 ty3 zr3 rfl (fun v44 Ms45 ho46 => (W.mv (W.mv (W.mv ?_)))))))))))
 have hs47 := SlR.slice h_l (lo := i) (hi := j) (by omega) (by omega)
 refine W.ok (ok_slice (i) (j) sl44 ty3 h_l rfl ⟨_, _, rfl, by omega⟩ ⟨_, _, rfl, by omega⟩ ⟨by omega, by omega⟩) (W.app (e := eInt) sl44 ty3 zr3 rfl by3 rfl rfl (ho46) (hs47) pr9 (by show (0 + ((l.take j).drop i).length) * 8 ≤ _; simp; omega) (fun v48 Ms49 ho50 => (W.as (W.nil (thn_n (WC.giveO ho50 pr9 (fun G51 hG51 hv51 => (WC.ret ?_))))))))
 refine ⟨.inr rfl, [_], ⟨rfl, trivial⟩, [], sn9, ?_⟩
 refine ⟨rfl, _, rfl, ?_⟩
 · exact hv51

theorem nhalves_fc {G : GH} {cs_a : List Value} {a : Nd} (h_a : NodeC G cs_a a) (hks : ∀ m ∈ a.msgs, m.key.b.size < 140737488355328) :
    Fc Tryz.prog 154 [.agg (List.toArray cs_a)] G [] (fun v G' M' => M' = [] ∧ ∃ r : Nd × Nd × Str × Bool, r = halvesN a ∧ ∃ u0 u1, v = .tuple #[.agg (List.toArray u0), .agg (List.toArray u1), .string (Str.b (r.2.2.1)), .bool (r.2.2.2)] ∧ NodeC G' u0 (r.1) ∧ NodeC G' u1 (r.2.1)) := by
 obtain ⟨pa_a, pc_a, ka_a, kc_a, ma_a, mc_a, ra_a, rc_a, rfl, hp_a, hk_a, hm_a, hr_a, hok_a⟩ := h_a
 refine Fc.intro (rs := [.cell 2 47, .cell 3 47, .tmp 4, .tmp 5]) cl154 Tryz.func154 rfl Tryz.ntmps154 rfl rfl (fun w0 => ?_)
 refine WC.seq (WC.region (W.box (L := (nd9 _ _ _ _ _ _ _ _ _ _ _ _ _ _ _ _ _ _)) rfl rfl (fun b52 => (W.alloc zr47 (fun b53 => (W.alloc zr47 (fun b54 => (W.as (W.as (W.nil (thn_n (WC.seq (WC.drawW _ ((sr9.k9.cons _).cons _) mix (by rintro _ _ _ _ ⟨h | h, _⟩ <;> cases h) (WD.tk 0 rfl (ok_loadB (i := 0) (vs := (nd9 _ _ _ _ _ _ _ _ _ _ _ _ _ _ _ _ _ _)) ty47 rfl rfl rfl rfl (by simp)) (WD.tk 1 rfl (ok_loadB (i := 0) (vs := (nd9 _ _ _ _ _ _ _ _ _ _ _ _ _ _ _ _ _ _)) ty47 rfl rfl rfl rfl (by simp)) (WD.a1 2 rfl (W.store (i := 1) (vs := (nd9 _ _ _ _ _ _ _ _ _ _ _ _ _ _ _ _ _ _)) (L' := (nd9 _ _ _ _ _ _ _ _ _ _ _ _ _ _ _ _ _ _)) ty47 rfl rfl rfl rfl rfl rfl rfl rfl ?_)))))))))))))))))
 refine W.nil (WD.n9 Le.rfl ((sr9.k9.cons _).cons _) (WD.a1 3 rfl (W.store (i := 0) (vs := (nd9 _ _ _ _ _ _ _ _ _ _ _ _ _ _ _ _ _ _)) (L' := (nd9 _ _ _ _ _ _ _ _ _ _ _ _ _ _ _ _ _ _)) ty47 rfl rfl rfl rfl rfl rfl rfl rfl (W.nil (WD.n9 Le.rfl ((sr9.k9.cons _).cons _) (WD.done (by kernel_rfl) (thn_n (WC.seq (WC.seq (WC.region (W.ok (ok_fieldB fd47_1 rfl) (W.ok (ok_loadB (i := 2) (vs := [.int .i64 _]) ty3 rfl rfl rfl rfl (by simp)) (W.ok (ok_eql rfl rfl) (W.nil (thn_n ?_)))))))))))))))
 refine WC.cond (b := _) rfl (fun h10 => ?_) (fun h10 => ?_)
 ·have p10 := of_decide_eq_true h10
  refine WC.seq (WC.region (W.ok (ok_fieldB fd47_9 rfl) (W.ok (ok_loadB (i := 2) (vs := [.slice _ _ _]) ty41 rfl rfl rfl rfl (by simp)) (W.call (Mp := []) (rowsh_fc hr_a) rfl pr9 ?_))))
  intro _ G55 _ hG55 q58
  refine match q58 with | ⟨e_59, _, e_60, _, _, e_61, hv56, hv57⟩ => ?_
  subst e_59
  subst e_60
  subst e_61
  have q63 := hv56.form
  refine match q63 with | ⟨sa_hv56, sc_hv56, e_62⟩ => ?_
  subst e_62
  have q65 := hv57.form
  refine match q65 with | ⟨sa_hv57, sc_hv57, e_64⟩ => ?_
  subst e_64
  refine W.mv (W.ok (ok_extract rfl rfl) (W.ok (ok_extract rfl rfl) (W.ok (ok_extract rfl rfl) (W.ok (ok_extract rfl rfl) (W.ok (ok_fieldB fd47_9 rfl) (W.store (i := 1) (vs := [.slice _ _ _]) (L' := (nd9 _ _ _ _ _ _ _ _ _ _ _ _ _ _ _ _ _ _)) ty41 rfl rfl rfl rfl rfl rfl rfl rfl (W.ok (ok_fieldB fd47_9 rfl) (W.store (i := 0) (vs := [.slice _ _ _]) (L' := (nd9 _ _ _ _ _ _ _ _ _ _ _ _ _ _ _ _ _ _)) ty41 rfl rfl rfl rfl rfl rfl rfl rfl (W.as (W.as (W.nil (thn_n (WC.seq (WC.drawW _ ((sr9.k9.cons _).cons _) mix (by rintro _ _ _ _ ⟨h | h, _⟩ <;> cases h) ?_))))))))))))))
  refine WD.tk 2 rfl (ok_mv) (WD.tk 3 rfl (ok_mv) ?_)
  refine WD.any [0, 1] (by kernel_rfl) rfl ⟨⟨_, rfl, rfl, ?_⟩, ⟨_, rfl, rfl, ?_⟩, trivial⟩
  ·refine W.ok (ok_loadB (i := 1) (vs := (nd9 _ _ _ _ _ _ _ _ _ _ _ _ _ _ _ _ _ _)) ty47 rfl rfl rfl rfl (by simp)) (W.nil (WD.n9 Le.rfl ((sr9.k9.cons _).cons _) ?_))
   refine WD.any [1, 4] (by kernel_rfl) rfl ⟨⟨_, rfl, rfl, ?_⟩, ⟨_, rfl, rfl, ?_⟩, trivial⟩
   ·refine W.ok (ok_loadB (i := 0) (vs := (nd9 _ _ _ _ _ _ _ _ _ _ _ _ _ _ _ _ _ _)) ty47 rfl rfl rfl rfl (by simp)) (W.nil (WD.n9 Le.rfl ((sr9.k9.cons _).cons _) (WD.a1 4 rfl (W.store (i := 1) (vs := (nd9 _ _ _ _ _ _ _ _ _ _ _ _ _ _ _ _ _ _)) (L' := (nd9 _ _ _ _ _ _ _ _ _ _ _ _ _ _ _ _ _ _)) ty47 rfl rfl rfl rfl rfl rfl rfl rfl (W.nil (WD.n9 Le.rfl ((sr9.k9.cons _).cons _) (WD.a1 5 rfl (W.store (i := 0) (vs := (nd9 _ _ _ _ _ _ _ _ _ _ _ _ _ _ _ _ _ _)) (L' := (nd9 _ _ _ _ _ _ _ _ _ _ _ _ _ _ _ _ _ _)) ty47 rfl rfl rfl rfl rfl rfl rfl rfl (W.nil (WD.n9 Le.rfl ((sr9.k9.cons _).cons _) (WD.tk 6 rfl (ok_as) (WD.tk 7 rfl (ok_as) (WD.done (by kernel_rfl) (thn_n (WC.ret (thn_r ?_))))))))))))))))
    refine ⟨.inr rfl, [_, _, _, _], ⟨⟨_, _, _, _, _, rfl, nthM_mem (i := 1) rfl, ty47, (by simp), rfl, rfl⟩, ⟨_, _, _, _, _, rfl, nthM_mem (i := 0) rfl, ty47, (by simp), rfl, rfl⟩, rfl, rfl, trivial⟩, [], sn9, ?_⟩
    refine ⟨rfl, _, (halvesN_0 p10).symm, _, _, rfl, ?_, ?_⟩
    · exact ⟨_, _, _, _, _, _, _, _, rfl, (hp_a.mono hG55), (hk_a.mono hG55), (hm_a.mono hG55), hv56, hok_a⟩
    exact ⟨_, _, _, _, _, _, _, _, rfl, (hp_a.mono hG55), (hk_a.mono hG55), (hm_a.mono hG55), hv57, hok_a⟩
   refine W.store (i := 1) (vs := (nd9 _ _ _ _ _ _ _ _ _ _ _ _ _ _ _ _ _ _)) (L' := (nd9 _ _ _ _ _ _ _ _ _ _ _ _ _ _ _ _ _ _)) ty47 rfl rfl rfl rfl rfl rfl rfl rfl (W.nil (WD.n9 Le.rfl ((sr9.k9.cons _).cons _) (WD.a1 1 rfl (W.ok (ok_loadB (i := 0) (vs := (nd9 _ _ _ _ _ _ _ _ _ _ _ _ _ _ _ _ _ _)) ty47 rfl rfl rfl rfl (by simp)) (W.nil (WD.n9 Le.rfl ((sr9.k9.cons _).cons _) (WD.a1 5 rfl (W.store (i := 0) (vs := (nd9 _ _ _ _ _ _ _ _ _ _ _ _ _ _ _ _ _ _)) (L' := (nd9 _ _ _ _ _ _ _ _ _ _ _ _ _ _ _ _ _ _)) ty47 rfl rfl rfl rfl rfl rfl rfl rfl (W.nil (WD.n9 Le.rfl ((sr9.k9.cons _).cons _) (WD.tk 6 rfl (ok_as) (WD.tk 7 rfl (ok_as) (WD.done (by kernel_rfl) (thn_n (WC.ret (thn_r ?_))))))))))))))))
   refine ⟨.inr rfl, [_, _, _, _], ⟨⟨_, _, _, _, _, rfl, nthM_mem (i := 1) rfl, ty47, (by simp), rfl, rfl⟩, ⟨_, _, _, _, _, rfl, nthM_mem (i := 0) rfl, ty47, (by simp), rfl, rfl⟩, rfl, rfl, trivial⟩, [], sn9, ?_⟩
   refine ⟨rfl, _, (halvesN_0 p10).symm, _, _, rfl, ?_, ?_⟩
   · exact ⟨_, _, _, _, _, _, _, _, rfl, (hp_a.mono hG55), (hk_a.mono hG55), (hm_a.mono hG55), hv56, hok_a⟩
   exact ⟨_, _, _, _, _, _, _, _, rfl, (hp_a.mono hG55), (hk_a.mono hG55), (hm_a.mono hG55), hv57, hok_a⟩
  refine W.ok (ok_loadB (i := 0) (vs := (nd9 _ _ _ _ _ _ _ _ _ _ _ _ _ _ _ _ _ _)) ty47 rfl rfl rfl rfl (by simp)) (W.nil (WD.n9 Le.rfl ((sr9.k9.cons _).cons _) (WD.a1 0 rfl (W.ok (ok_loadB (i := 1) (vs := (nd9 _ _ _ _ _ _ _ _ _ _ _ _ _ _ _ _ _ _)) ty47 rfl rfl rfl rfl (by simp)) (W.nil (WD.n9 Le.rfl ((sr9.k9.cons _).cons _) (WD.a1 4 rfl (W.store (i := 1) (vs := (nd9 _ _ _ _ _ _ _ _ _ _ _ _ _ _ _ _ _ _)) (L' := (nd9 _ _ _ _ _ _ _ _ _ _ _ _ _ _ _ _ _ _)) ty47 rfl rfl rfl rfl rfl rfl rfl rfl (W.nil (WD.n9 Le.rfl ((sr9.k9.cons _).cons _) (WD.a1 5 rfl (W.store (i := 0) (vs := (nd9 _ _ _ _ _ _ _ _ _ _ _ _ _ _ _ _ _ _)) (L' := (nd9 _ _ _ _ _ _ _ _ _ _ _ _ _ _ _ _ _ _)) ty47 rfl rfl rfl rfl rfl rfl rfl rfl (W.nil (WD.n9 Le.rfl ((sr9.k9.cons _).cons _) (WD.tk 6 rfl (ok_as) (WD.tk 7 rfl (ok_as) (WD.done (by kernel_rfl) (thn_n ?_))))))))))))))))))
  refine WC.ret (thn_r ?_)
  refine ⟨.inr rfl, [_, _, _, _], ⟨⟨_, _, _, _, _, rfl, nthM_mem (i := 1) rfl, ty47, (by simp), rfl, rfl⟩, ⟨_, _, _, _, _, rfl, nthM_mem (i := 0) rfl, ty47, (by simp), rfl, rfl⟩, rfl, rfl, trivial⟩, [], sn9, ?_⟩
  refine ⟨rfl, _, (halvesN_0 p10).symm, _, _, rfl, ?_, ?_⟩
  · exact ⟨_, _, _, _, _, _, _, _, rfl, (hp_a.mono hG55), (hk_a.mono hG55), (hm_a.mono hG55), hv56, hok_a⟩
  exact ⟨_, _, _, _, _, _, _, _, rfl, (hp_a.mono hG55), (hk_a.mono hG55), (hm_a.mono hG55), hv57, hok_a⟩
 have p10 := of_decide_eq_false h10
 refine WC.skip (thn_n (WC.seq (WC.seq (WC.region (W.ok (ok_fieldB fd47_2 rfl) (W.ok (ok_loadB (i := 2) (vs := [.slice _ _ _]) ty43 rfl rfl rfl rfl (by simp)) (W.ok (ok_fieldB fd47_3 rfl) (W.ok (ok_loadB (i := 2) (vs := [.slice _ _ _]) ty44 rfl rfl rfl rfl (by simp)) (W.qcall (bright_fc hp_a hk_a) rfl (W.ok (ok_not rfl) (W.nil (thn_n ?_))))))))))))
 refine WC.cond (b := _) rfl (fun h30 => ?_) (fun h30 => ?_)
 ·refine WC.seq (WC.drawW _ ((sr9.k9.cons _).cons _) mix (by rintro _ _ _ _ ⟨h | h, _⟩ <;> cases h) ?_)
  refine WD.any [0, 1] (by kernel_rfl) rfl ⟨⟨_, rfl, rfl, ?_⟩, ⟨_, rfl, rfl, ?_⟩, trivial⟩
  ·refine W.ok (ok_loadB (i := 1) (vs := (nd9 _ _ _ _ _ _ _ _ _ _ _ _ _ _ _ _ _ _)) ty47 rfl rfl rfl rfl (by simp)) (W.nil (WD.n9 Le.rfl ((sr9.k9.cons _).cons _) ?_))
   refine WD.any [1, 2] (by kernel_rfl) rfl ⟨⟨_, rfl, rfl, ?_⟩, ⟨_, rfl, rfl, ?_⟩, trivial⟩
   ·refine W.ok (ok_loadB (i := 0) (vs := (nd9 _ _ _ _ _ _ _ _ _ _ _ _ _ _ _ _ _ _)) ty47 rfl rfl rfl rfl (by simp)) (W.nil (WD.n9 Le.rfl ((sr9.k9.cons _).cons _) (WD.a1 2 rfl (W.store (i := 1) (vs := (nd9 _ _ _ _ _ _ _ _ _ _ _ _ _ _ _ _ _ _)) (L' := (nd9 _ _ _ _ _ _ _ _ _ _ _ _ _ _ _ _ _ _)) ty47 rfl rfl rfl rfl rfl rfl rfl rfl (W.nil (WD.n9 Le.rfl ((sr9.k9.cons _).cons _) (WD.a1 3 rfl (W.store (i := 0) (vs := (nd9 _ _ _ _ _ _ _ _ _ _ _ _ _ _ _ _ _ _)) (L' := (nd9 _ _ _ _ _ _ _ _ _ _ _ _ _ _ _ _ _ _)) ty47 rfl rfl rfl rfl rfl rfl rfl rfl (W.nil (WD.n9 Le.rfl ((sr9.k9.cons _).cons _) (WD.tk 4 rfl (ok_as) (WD.tk 5 rfl (ok_as) (WD.done (by kernel_rfl) (thn_n (WC.ret (thn_r ?_))))))))))))))))
    refine ⟨.inr rfl, [_, _, _, _], ⟨⟨_, _, _, _, _, rfl, nthM_mem (i := 1) rfl, ty47, (by simp), rfl, rfl⟩, ⟨_, _, _, _, _, rfl, nthM_mem (i := 0) rfl, ty47, (by simp), rfl, rfl⟩, rfl, rfl, trivial⟩, [], sn9, ?_⟩
    refine ⟨rfl, _, (halvesN_n p10 (by simpa using h30)).symm, _, _, rfl, ?_, ?_⟩
    · exact ⟨_, _, _, _, _, _, _, _, rfl, hp_a, hk_a, hm_a, hr_a, hok_a⟩
    exact ⟨_, _, _, _, _, _, _, _, rfl, hp_a, hk_a, hm_a, hr_a, hok_a⟩
   refine W.store (i := 1) (vs := (nd9 _ _ _ _ _ _ _ _ _ _ _ _ _ _ _ _ _ _)) (L' := (nd9 _ _ _ _ _ _ _ _ _ _ _ _ _ _ _ _ _ _)) ty47 rfl rfl rfl rfl rfl rfl rfl rfl (W.nil (WD.n9 Le.rfl ((sr9.k9.cons _).cons _) (WD.a1 1 rfl (W.ok (ok_loadB (i := 0) (vs := (nd9 _ _ _ _ _ _ _ _ _ _ _ _ _ _ _ _ _ _)) ty47 rfl rfl rfl rfl (by simp)) (W.nil (WD.n9 Le.rfl ((sr9.k9.cons _).cons _) (WD.a1 3 rfl (W.store (i := 0) (vs := (nd9 _ _ _ _ _ _ _ _ _ _ _ _ _ _ _ _ _ _)) (L' := (nd9 _ _ _ _ _ _ _ _ _ _ _ _ _ _ _ _ _ _)) ty47 rfl rfl rfl rfl rfl rfl rfl rfl (W.nil (WD.n9 Le.rfl ((sr9.k9.cons _).cons _) (WD.tk 4 rfl (ok_as) (WD.tk 5 rfl (ok_as) (WD.done (by kernel_rfl) (thn_n (WC.ret (thn_r ?_))))))))))))))))
   refine ⟨.inr rfl, [_, _, _, _], ⟨⟨_, _, _, _, _, rfl, nthM_mem (i := 1) rfl, ty47, (by simp), rfl, rfl⟩, ⟨_, _, _, _, _, rfl, nthM_mem (i := 0) rfl, ty47, (by simp), rfl, rfl⟩, rfl, rfl, trivial⟩, [], sn9, ?_⟩
   refine ⟨rfl, _, (halvesN_n p10 (by simpa using h30)).symm, _, _, rfl, ?_, ?_⟩
   · exact ⟨_, _, _, _, _, _, _, _, rfl, hp_a, hk_a, hm_a, hr_a, hok_a⟩
   exact ⟨_, _, _, _, _, _, _, _, rfl, hp_a, hk_a, hm_a, hr_a, hok_a⟩
  refine W.ok (ok_loadB (i := 0) (vs := (nd9 _ _ _ _ _ _ _ _ _ _ _ _ _ _ _ _ _ _)) ty47 rfl rfl rfl rfl (by simp)) (W.nil (WD.n9 Le.rfl ((sr9.k9.cons _).cons _) (WD.a1 0 rfl (W.ok (ok_loadB (i := 1) (vs := (nd9 _ _ _ _ _ _ _ _ _ _ _ _ _ _ _ _ _ _)) ty47 rfl rfl rfl rfl (by simp)) (W.nil (WD.n9 Le.rfl ((sr9.k9.cons _).cons _) (WD.a1 2 rfl (W.store (i := 1) (vs := (nd9 _ _ _ _ _ _ _ _ _ _ _ _ _ _ _ _ _ _)) (L' := (nd9 _ _ _ _ _ _ _ _ _ _ _ _ _ _ _ _ _ _)) ty47 rfl rfl rfl rfl rfl rfl rfl rfl (W.nil (WD.n9 Le.rfl ((sr9.k9.cons _).cons _) (WD.a1 3 rfl (W.store (i := 0) (vs := (nd9 _ _ _ _ _ _ _ _ _ _ _ _ _ _ _ _ _ _)) (L' := (nd9 _ _ _ _ _ _ _ _ _ _ _ _ _ _ _ _ _ _)) ty47 rfl rfl rfl rfl rfl rfl rfl rfl (W.nil (WD.n9 Le.rfl ((sr9.k9.cons _).cons _) (WD.tk 4 rfl (ok_as) (WD.tk 5 rfl (ok_as) (WD.done (by kernel_rfl) (thn_n ?_))))))))))))))))))
  refine WC.ret (thn_r ?_)
  refine ⟨.inr rfl, [_, _, _, _], ⟨⟨_, _, _, _, _, rfl, nthM_mem (i := 1) rfl, ty47, (by simp), rfl, rfl⟩, ⟨_, _, _, _, _, rfl, nthM_mem (i := 0) rfl, ty47, (by simp), rfl, rfl⟩, rfl, rfl, trivial⟩, [], sn9, ?_⟩
  refine ⟨rfl, _, (halvesN_n p10 (by simpa using h30)).symm, _, _, rfl, ?_, ?_⟩
  · exact ⟨_, _, _, _, _, _, _, _, rfl, hp_a, hk_a, hm_a, hr_a, hok_a⟩
  exact ⟨_, _, _, _, _, _, _, _, rfl, hp_a, hk_a, hm_a, hr_a, hok_a⟩
 refine WC.skip (thn_n (WC.seq (WC.region (W.ok (ok_fieldB fd47_2 rfl) (W.ok (ok_loadB (i := 2) (vs := [.slice _ _ _]) ty43 rfl rfl rfl rfl (by simp)) (W.ok (ok_fieldB fd47_3 rfl) (W.ok (ok_loadB (i := 2) (vs := [.slice _ _ _]) ty44 rfl rfl rfl rfl (by simp)) (W.call (Mp := []) (bhalve_fc hp_a hk_a) rfl pr9 ?_))))))))
 intro _ G66 _ hG66 q71
 refine match q71 with | ⟨e_72, _, e_73, _, _, _, _, e_74, hv67, hv68, hv69, hv70⟩ => ?_
 subst e_72
 subst e_73
 subst e_74
 have q76 := hv67.form
 refine match q76 with | ⟨sa_hv67, sc_hv67, e_75⟩ => ?_
 subst e_75
 have q78 := hv68.form
 refine match q78 with | ⟨sa_hv68, sc_hv68, e_77⟩ => ?_
 subst e_77
 have q80 := hv69.form
 refine match q80 with | ⟨sa_hv69, sc_hv69, e_79⟩ => ?_
 subst e_79
 have q82 := hv70.form
 refine match q82 with | ⟨sa_hv70, sc_hv70, e_81⟩ => ?_
 subst e_81
 refine W.mv (W.ok (ok_extract rfl rfl) (W.ok (ok_extract rfl rfl) (W.ok (ok_extract rfl rfl) (W.ok (ok_extract rfl rfl) (W.ok (ok_extract rfl rfl) (W.ok (ok_extract rfl rfl) (W.ok (ok_fieldB fd47_2 rfl) (W.store (i := 1) (vs := [.slice _ _ _]) (L' := (nd9 _ _ _ _ _ _ _ _ _ _ _ _ _ _ _ _ _ _)) ty43 rfl rfl rfl rfl rfl rfl rfl rfl (W.ok (ok_fieldB fd47_3 rfl) (W.store (i := 1) (vs := [.slice _ _ _]) (L' := (nd9 _ _ _ _ _ _ _ _ _ _ _ _ _ _ _ _ _ _)) ty44 rfl rfl rfl rfl rfl rfl rfl rfl (W.as (W.ok (ok_fieldB fd47_2 rfl) (W.store (i := 0) (vs := [.slice _ _ _]) (L' := (nd9 _ _ _ _ _ _ _ _ _ _ _ _ _ _ _ _ _ _)) ty43 rfl rfl rfl rfl rfl rfl rfl rfl ?_)))))))))))))
 refine W.ok (ok_fieldB fd47_3 rfl) (W.store (i := 0) (vs := [.slice _ _ _]) (L' := (nd9 _ _ _ _ _ _ _ _ _ _ _ _ _ _ _ _ _ _)) ty44 rfl rfl rfl rfl rfl rfl rfl rfl (W.as (W.nil (thn_n (WC.seq (WC.drawW _ ((sr9.k9.cons _).cons _) mix (by rintro _ _ _ _ ⟨h | h, _⟩ <;> cases h) (WD.tk 0 rfl (ok_fieldB fd47_8 rfl) (WD.tk 1 rfl (ok_loadB (i := 0) (vs := [.slice _ _ _]) ty45 rfl rfl rfl rfl (by simp)) (WD.tk 2 rfl (ok_mv) (WD.tk 3 rfl (ok_build (L := [.string _, .string _, .bool _]) pl52 zr52 rfl rfl rfl) (WD.tk 5 rfl (ok_fieldB fd47_8 rfl) (WD.tk 6 rfl (ok_loadB (i := 0) (vs := [.slice _ _ _]) ty45 rfl rfl rfl rfl (by simp)) (WD.tk 7 rfl (ok_mv) (WD.tk 8 rfl (ok_build (L := [.string _, .string _, .bool _]) pl52 zr52 rfl rfl rfl) ?_))))))))))))))
 refine WD.a1 4 rfl (W.call (Mp := []) (bclips_fc (hm_a.mono hG66) Str.nil _ _ (by assumption)) rfl pr9 ?_)
 intro _ G83 _ hG83 q85
 refine match q85 with | ⟨e_86, _, e_87, hv84⟩ => ?_
 subst e_86
 subst e_87
 have q89 := hv84.form
 refine match q89 with | ⟨sa_hv84, sc_hv84, e_88⟩ => ?_
 subst e_88
 refine W.nil (WD.n9 hG83 ((sr9.k9.cons _).cons _) (WD.tk 10 rfl (ok_fieldB fd47_8 rfl) (WD.a1 9 rfl (W.call (Mp := []) (bclips_fc (hm_a.mono (hG66.trans hG83)) _ Str.nil _ (by assumption)) rfl pr9 ?_))))
 intro _ G90 _ hG90 q92
 refine match q92 with | ⟨e_93, _, e_94, hv91⟩ => ?_
 subst e_93
 subst e_94
 have q96 := hv91.form
 refine match q96 with | ⟨sa_hv91, sc_hv91, e_95⟩ => ?_
 subst e_95
 refine W.nil (WD.n9 hG90 ((sr9.k9.cons _).cons _) (WD.a1 11 rfl (W.store (i := 1) (vs := [.slice _ _ _]) (L' := (nd9 _ _ _ _ _ _ _ _ _ _ _ _ _ _ _ _ _ _)) ty45 rfl rfl rfl rfl rfl rfl rfl rfl (W.nil (WD.n9 Le.rfl ((sr9.k9.cons _).cons _) (WD.tk 12 rfl (ok_fieldB fd47_8 rfl) (WD.a1 13 rfl (W.store (i := 0) (vs := [.slice _ _ _]) (L' := (nd9 _ _ _ _ _ _ _ _ _ _ _ _ _ _ _ _ _ _)) ty45 rfl rfl rfl rfl rfl rfl rfl rfl (W.nil (WD.n9 Le.rfl ((sr9.k9.cons _).cons _) (WD.done (by kernel_rfl) (thn_n (WC.seq (WC.drawW _ ((sr9.k9.cons _).cons _) mix (by rintro _ _ _ _ ⟨h | h, _⟩ <;> cases h) (WD.tk 2 rfl (ok_mv) (WD.tk 3 rfl (ok_mv) ?_))))))))))))))))
 refine WD.any [0, 1] (by kernel_rfl) rfl ⟨⟨_, rfl, rfl, ?_⟩, ⟨_, rfl, rfl, ?_⟩, trivial⟩
 ·refine W.ok (ok_loadB (i := 1) (vs := (nd9 _ _ _ _ _ _ _ _ _ _ _ _ _ _ _ _ _ _)) ty47 rfl rfl rfl rfl (by simp)) (W.nil (WD.n9 Le.rfl ((sr9.k9.cons _).cons _) ?_))
  refine WD.any [1, 4] (by kernel_rfl) rfl ⟨⟨_, rfl, rfl, ?_⟩, ⟨_, rfl, rfl, ?_⟩, trivial⟩
  ·refine W.ok (ok_loadB (i := 0) (vs := (nd9 _ _ _ _ _ _ _ _ _ _ _ _ _ _ _ _ _ _)) ty47 rfl rfl rfl rfl (by simp)) (W.nil (WD.n9 Le.rfl ((sr9.k9.cons _).cons _) (WD.a1 4 rfl (W.store (i := 1) (vs := (nd9 _ _ _ _ _ _ _ _ _ _ _ _ _ _ _ _ _ _)) (L' := (nd9 _ _ _ _ _ _ _ _ _ _ _ _ _ _ _ _ _ _)) ty47 rfl rfl rfl rfl rfl rfl rfl rfl (W.nil (WD.n9 Le.rfl ((sr9.k9.cons _).cons _) (WD.a1 5 rfl (W.store (i := 0) (vs := (nd9 _ _ _ _ _ _ _ _ _ _ _ _ _ _ _ _ _ _)) (L' := (nd9 _ _ _ _ _ _ _ _ _ _ _ _ _ _ _ _ _ _)) ty47 rfl rfl rfl rfl rfl rfl rfl rfl (W.nil (WD.n9 Le.rfl ((sr9.k9.cons _).cons _) (WD.tk 6 rfl (ok_as) (WD.tk 7 rfl (ok_as) (WD.done (by kernel_rfl) (thn_n (WC.ret ?_)))))))))))))))
   refine ⟨.inr rfl, [_, _, _, _], ⟨⟨_, _, _, _, _, rfl, nthM_mem (i := 1) rfl, ty47, (by simp), rfl, rfl⟩, ⟨_, _, _, _, _, rfl, nthM_mem (i := 0) rfl, ty47, (by simp), rfl, rfl⟩, rfl, rfl, trivial⟩, [], sn9, ?_⟩
   refine ⟨rfl, _, (halvesN_k p10 (by simpa using h30)).symm, _, _, rfl, ?_, ?_⟩
   · exact ⟨_, _, _, _, _, _, _, _, rfl, (hv67.mono (hG83.trans hG90)), (hv68.mono (hG83.trans hG90)), (hv84.mono hG90), (hr_a.mono ((hG66.trans hG83).trans hG90)), hok_a⟩
   exact ⟨_, _, _, _, _, _, _, _, rfl, (hv69.mono (hG83.trans hG90)), (hv70.mono (hG83.trans hG90)), hv91, (hr_a.mono ((hG66.trans hG83).trans hG90)), hok_a⟩
  refine W.store (i := 1) (vs := (nd9 _ _ _ _ _ _ _ _ _ _ _ _ _ _ _ _ _ _)) (L' := (nd9 _ _ _ _ _ _ _ _ _ _ _ _ _ _ _ _ _ _)) ty47 rfl rfl rfl rfl rfl rfl rfl rfl (W.nil (WD.n9 Le.rfl ((sr9.k9.cons _).cons _) (WD.a1 1 rfl (W.ok (ok_loadB (i := 0) (vs := (nd9 _ _ _ _ _ _ _ _ _ _ _ _ _ _ _ _ _ _)) ty47 rfl rfl rfl rfl (by simp)) (W.nil (WD.n9 Le.rfl ((sr9.k9.cons _).cons _) (WD.a1 5 rfl (W.store (i := 0) (vs := (nd9 _ _ _ _ _ _ _ _ _ _ _ _ _ _ _ _ _ _)) (L' := (nd9 _ _ _ _ _ _ _ _ _ _ _ _ _ _ _ _ _ _)) ty47 rfl rfl rfl rfl rfl rfl rfl rfl (W.nil (WD.n9 Le.rfl ((sr9.k9.cons _).cons _) (WD.tk 6 rfl (ok_as) (WD.tk 7 rfl (ok_as) (WD.done (by kernel_rfl) (thn_n (WC.ret ?_)))))))))))))))
  refine ⟨.inr rfl, [_, _, _, _], ⟨⟨_, _, _, _, _, rfl, nthM_mem (i := 1) rfl, ty47, (by simp), rfl, rfl⟩, ⟨_, _, _, _, _, rfl, nthM_mem (i := 0) rfl, ty47, (by simp), rfl, rfl⟩, rfl, rfl, trivial⟩, [], sn9, ?_⟩
  refine ⟨rfl, _, (halvesN_k p10 (by simpa using h30)).symm, _, _, rfl, ?_, ?_⟩
  · exact ⟨_, _, _, _, _, _, _, _, rfl, (hv67.mono (hG83.trans hG90)), (hv68.mono (hG83.trans hG90)), (hv84.mono hG90), (hr_a.mono ((hG66.trans hG83).trans hG90)), hok_a⟩
  exact ⟨_, _, _, _, _, _, _, _, rfl, (hv69.mono (hG83.trans hG90)), (hv70.mono (hG83.trans hG90)), hv91, (hr_a.mono ((hG66.trans hG83).trans hG90)), hok_a⟩
 refine W.ok (ok_loadB (i := 0) (vs := (nd9 _ _ _ _ _ _ _ _ _ _ _ _ _ _ _ _ _ _)) ty47 rfl rfl rfl rfl (by simp)) (W.nil (WD.n9 Le.rfl ((sr9.k9.cons _).cons _) (WD.a1 0 rfl (W.ok (ok_loadB (i := 1) (vs := (nd9 _ _ _ _ _ _ _ _ _ _ _ _ _ _ _ _ _ _)) ty47 rfl rfl rfl rfl (by simp)) (W.nil (WD.n9 Le.rfl ((sr9.k9.cons _).cons _) (WD.a1 4 rfl (W.store (i := 1) (vs := (nd9 _ _ _ _ _ _ _ _ _ _ _ _ _ _ _ _ _ _)) (L' := (nd9 _ _ _ _ _ _ _ _ _ _ _ _ _ _ _ _ _ _)) ty47 rfl rfl rfl rfl rfl rfl rfl rfl (W.nil (WD.n9 Le.rfl ((sr9.k9.cons _).cons _) (WD.a1 5 rfl (W.store (i := 0) (vs := (nd9 _ _ _ _ _ _ _ _ _ _ _ _ _ _ _ _ _ _)) (L' := (nd9 _ _ _ _ _ _ _ _ _ _ _ _ _ _ _ _ _ _)) ty47 rfl rfl rfl rfl rfl rfl rfl rfl (W.nil (WD.n9 Le.rfl ((sr9.k9.cons _).cons _) (WD.tk 6 rfl (ok_as) (WD.tk 7 rfl (ok_as) (WD.done (by kernel_rfl) (thn_n ?_))))))))))))))))))
 refine WC.ret ?_
 refine ⟨.inr rfl, [_, _, _, _], ⟨⟨_, _, _, _, _, rfl, nthM_mem (i := 1) rfl, ty47, (by simp), rfl, rfl⟩, ⟨_, _, _, _, _, rfl, nthM_mem (i := 0) rfl, ty47, (by simp), rfl, rfl⟩, rfl, rfl, trivial⟩, [], sn9, ?_⟩
 refine ⟨rfl, _, (halvesN_k p10 (by simpa using h30)).symm, _, _, rfl, ?_, ?_⟩
 · exact ⟨_, _, _, _, _, _, _, _, rfl, (hv67.mono (hG83.trans hG90)), (hv68.mono (hG83.trans hG90)), (hv84.mono hG90), (hr_a.mono ((hG66.trans hG83).trans hG90)), hok_a⟩
 exact ⟨_, _, _, _, _, _, _, _, rfl, (hv69.mono (hG83.trans hG90)), (hv70.mono (hG83.trans hG90)), hv91, (hr_a.mono ((hG66.trans hG83).trans hG90)), hok_a⟩

theorem ncleave_fc {G : GH} {cs_a : List Value} {a : Nd} (h_a : NodeC G cs_a a) (i : Int) (hi : i64 i) (hks : ∀ m ∈ a.msgs, m.key.b.size < 140737488355328) :
    Fc Tryz.prog 93 [.agg (List.toArray cs_a), .int .i64 i] G [] (fun v G' M' => M' = [] ∧ ∃ r : Nd × Nd × Str × Bool, r = cleaveN a i ∧ ∃ u0 u1, v = .tuple #[.agg (List.toArray u0), .agg (List.toArray u1), .string (Str.b (r.2.2.1)), .bool (r.2.2.2)] ∧ NodeC G' u0 (r.1) ∧ NodeC G' u1 (r.2.1)) := by
 obtain ⟨pa_a, pc_a, ka_a, kc_a, ma_a, mc_a, ra_a, rc_a, rfl, hp_a, hk_a, hm_a, hr_a, hok_a⟩ := h_a
 refine Fc.intro (rs := [.cell 4 47, .cell 5 47, .tmp 6, .tmp 7]) cl93 Tryz.func93 rfl Tryz.ntmps93 rfl rfl (fun w0 => ?_)
 refine WC.seq (WC.region (W.box (L := (nd9 _ _ _ _ _ _ _ _ _ _ _ _ _ _ _ _ _ _)) rfl rfl (fun b97 => (W.alloc zr47 (fun b98 => (W.alloc zr47 (fun b99 => (W.as (W.as (W.nil (thn_n (WC.seq (WC.region (W.ok (ok_loadB (i := 2) (vs := (nd9 _ _ _ _ _ _ _ _ _ _ _ _ _ _ _ _ _ _)) ty47 rfl rfl rfl rfl (by simp)) (W.call (Mp := []) (nhalves_fc ⟨_, _, _, _, _, _, _, _, rfl, hp_a, hk_a, hm_a, hr_a, hok_a⟩ (by assumption)) rfl pr9 ?_)))))))))))))))
 intro _ G100 _ hG100 q103
 refine match q103 with | ⟨e_104, _, e_105, _, _, e_106, hv101, hv102⟩ => ?_
 subst e_104
 subst e_105
 subst e_106
 refine match hv101 with | ⟨pa_hv101, pc_hv101, ka_hv101, kc_hv101, ma_hv101, mc_hv101, ra_hv101, rc_hv101, e_107, hp_hv101, hk_hv101, hm_hv101, hr_hv101, hok_hv101⟩ => ?_
 subst e_107
 refine match hv102 with | ⟨pa_hv102, pc_hv102, ka_hv102, kc_hv102, ma_hv102, mc_hv102, ra_hv102, rc_hv102, e_108, hp_hv102, hk_hv102, hm_hv102, hr_hv102, hok_hv102⟩ => ?_
 subst e_108
 refine W.mv (W.ok (ok_extract rfl rfl) (W.ok (ok_extract rfl rfl) (W.ok (ok_extract rfl rfl) (W.ok (ok_extract rfl rfl) (W.store (i := 1) (vs := (nd9 _ _ _ _ _ _ _ _ _ _ _ _ _ _ _ _ _ _)) (L' := (nd9 _ _ _ _ _ _ _ _ _ _ _ _ _ _ _ _ _ _)) ty47 rfl rfl rfl rfl rfl rfl rfl rfl (W.store (i := 0) (vs := (nd9 _ _ _ _ _ _ _ _ _ _ _ _ _ _ _ _ _ _)) (L' := (nd9 _ _ _ _ _ _ _ _ _ _ _ _ _ _ _ _ _ _)) ty47 rfl rfl rfl rfl rfl rfl rfl rfl (W.as (W.as (W.nil (thn_n (WC.seq (WC.seq (WC.region (W.mv ?_))))))))))))))
 refine W.ok (ok_not rfl) (W.nil (thn_n ?_))
 refine WC.cond (b := _) rfl (fun h16 => ?_) (fun h16 => ?_)
 ·refine WC.seq (WC.region (W.ok (ok_build (L := (nd9 _ _ _ _ _ _ _ _ _ _ _ _ _ _ _ _ _ _)) pl47 zr47 rfl rfl rfl) (W.ok (ok_build (L := (nd9 _ _ _ _ _ _ _ _ _ _ _ _ _ _ _ _ _ _)) pl47 zr47 rfl rfl rfl) (W.store (i := 1) (vs := (nd9 _ _ _ _ _ _ _ _ _ _ _ _ _ _ _ _ _ _)) (L' := (nd9 _ _ _ _ _ _ _ _ _ _ _ _ _ _ _ _ _ _)) ty47 rfl rfl rfl rfl rfl rfl rfl rfl (W.store (i := 0) (vs := (nd9 _ _ _ _ _ _ _ _ _ _ _ _ _ _ _ _ _ _)) (L' := (nd9 _ _ _ _ _ _ _ _ _ _ _ _ _ _ _ _ _ _)) ty47 rfl rfl rfl rfl rfl rfl rfl rfl (W.as (W.as (W.nil (thn_n (WC.ret (thn_r ?_)))))))))))
  refine ⟨.inr rfl, [_, _, _, _], ⟨⟨_, _, _, _, _, rfl, nthM_mem (i := 1) rfl, ty47, (by simp), rfl, rfl⟩, ⟨_, _, _, _, _, rfl, nthM_mem (i := 0) rfl, ty47, (by simp), rfl, rfl⟩, rfl, rfl, trivial⟩, [], sn9, ?_⟩
  refine ⟨rfl, _, (cleaveN_f (by simpa using h16)).symm, _, _, rfl, ?_, ?_⟩
  · exact ⟨_, _, _, _, _, _, _, _, rfl, SlR.nil, SlR.nil, SlR.nil, SlR.nil, Nd.zero_ok⟩
  exact ⟨_, _, _, _, _, _, _, _, rfl, SlR.nil, SlR.nil, SlR.nil, SlR.nil, Nd.zero_ok⟩
 refine WC.skip (thn_n (WC.seq (WC.region (W.mv (W.mv (W.ok (ok_fieldB fd47_4 rfl) (W.store (i := 1) (vs := [.string _]) (L' := (nd9 _ _ _ _ _ _ _ _ _ _ _ _ _ _ _ _ _ _)) ty9 rfl rfl rfl rfl rfl rfl rfl rfl (W.ok (ok_fieldB fd47_5 rfl) (W.store (i := 1) (vs := [.bool _]) (L' := (nd9 _ _ _ _ _ _ _ _ _ _ _ _ _ _ _ _ _ _)) ty4 rfl rfl rfl rfl rfl rfl rfl rfl (W.ok (ok_fieldB fd47_6 rfl) (W.store (i := 1) (vs := [.int .i64 _]) (L' := (nd9 _ _ _ _ _ _ _ _ _ _ _ _ _ _ _ _ _ _)) ty3 rfl rfl rfl rfl rfl rfl rfl rfl (W.nil (thn_n (WC.seq (WC.region ?_)))))))))))))))
 refine W.mv (W.ok (ok_fieldB fd47_0 rfl) (W.store (i := 0) (vs := [.int .i64 _]) (L' := (nd9 _ _ _ _ _ _ _ _ _ _ _ _ _ _ _ _ _ _)) ty3 rfl rfl rfl rfl rfl rfl rfl rfl (W.nil (thn_n (WC.seq (WC.drawW _ ((sr9.k9.cons _).cons _) mix (by rintro _ _ _ _ ⟨h | h, _⟩ <;> cases h) (WD.tk 4 rfl (ok_mv) ?_)))))))
 refine WD.any [0, 2] (by kernel_rfl) rfl ⟨⟨_, rfl, rfl, ?_⟩, ⟨_, rfl, rfl, ?_⟩, trivial⟩
 ·refine W.ok (ok_loadB (i := 1) (vs := (nd9 _ _ _ _ _ _ _ _ _ _ _ _ _ _ _ _ _ _)) ty47 rfl rfl rfl rfl (by simp)) (W.nil (WD.n9 Le.rfl ((sr9.k9.cons _).cons _) ?_))
  refine WD.any [1, 2] (by kernel_rfl) rfl ⟨⟨_, rfl, rfl, ?_⟩, ⟨_, rfl, rfl, ?_⟩, trivial⟩
  ·refine W.call (Mp := []) (ncopy_fc (show NodeC _ _ { (halvesN a).1 with high := (halvesN a).2.2.1, top := false, right := i } from ⟨_, _, _, _, _, _, _, _, rfl, hp_hv101, hk_hv101, hm_hv101, hr_hv101, (ok_left (by assumption) hi)⟩)) rfl pr9 ?_
   intro _ G109 _ hG109 q111
   refine match q111 with | ⟨e_112, _, e_113, hv110⟩ => ?_
   subst e_112
   subst e_113
   refine match hv110 with | ⟨pa_hv110, pc_hv110, ka_hv110, kc_hv110, ma_hv110, mc_hv110, ra_hv110, rc_hv110, e_114, hp_hv110, hk_hv110, hm_hv110, hr_hv110, hok_hv110⟩ => ?_
   subst e_114
   refine W.nil (WD.n9 hG109 ((sr9.k9.cons _).cons _) (WD.a1 2 rfl (W.ok (ok_loadB (i := 0) (vs := (nd9 _ _ _ _ _ _ _ _ _ _ _ _ _ _ _ _ _ _)) ty47 rfl rfl rfl rfl (by simp)) (W.nil (WD.n9 Le.rfl ((sr9.k9.cons _).cons _) (WD.a1 3 rfl (W.call (Mp := []) (ncopy_fc (show NodeC _ _ { (halvesN a).2.1 with slot := i } from ⟨_, _, _, _, _, _, _, _, rfl, (hp_hv102.mono hG109), (hk_hv102.mono hG109), (hm_hv102.mono hG109), (hr_hv102.mono hG109), (ok_right (by assumption) hi)⟩)) rfl pr9 ?_)))))))
   intro _ G115 _ hG115 q117
   refine match q117 with | ⟨e_118, _, e_119, hv116⟩ => ?_
   subst e_118
   subst e_119
   refine match hv116 with | ⟨pa_hv116, pc_hv116, ka_hv116, kc_hv116, ma_hv116, mc_hv116, ra_hv116, rc_hv116, e_120, hp_hv116, hk_hv116, hm_hv116, hr_hv116, hok_hv116⟩ => ?_
   subst e_120
   refine W.nil (WD.n9 hG115 ((sr9.k9.cons _).cons _) (WD.a1 5 rfl (W.store (i := 1) (vs := (nd9 _ _ _ _ _ _ _ _ _ _ _ _ _ _ _ _ _ _)) (L' := (nd9 _ _ _ _ _ _ _ _ _ _ _ _ _ _ _ _ _ _)) ty47 rfl rfl rfl rfl rfl rfl rfl rfl (W.nil (WD.n9 Le.rfl ((sr9.k9.cons _).cons _) (WD.a1 6 rfl (W.store (i := 0) (vs := (nd9 _ _ _ _ _ _ _ _ _ _ _ _ _ _ _ _ _ _)) (L' := (nd9 _ _ _ _ _ _ _ _ _ _ _ _ _ _ _ _ _ _)) ty47 rfl rfl rfl rfl rfl rfl rfl rfl (W.nil (WD.n9 Le.rfl ((sr9.k9.cons _).cons _) (WD.tk 7 rfl (ok_as) (WD.tk 8 rfl (ok_as) (WD.done (by kernel_rfl) (thn_n (WC.ret ?_))))))))))))))
   refine ⟨.inr rfl, [_, _, _, _], ⟨⟨_, _, _, _, _, rfl, nthM_mem (i := 1) rfl, ty47, (by simp), rfl, rfl⟩, ⟨_, _, _, _, _, rfl, nthM_mem (i := 0) rfl, ty47, (by simp), rfl, rfl⟩, rfl, rfl, trivial⟩, [], sn9, ?_⟩
   refine ⟨rfl, _, (cleaveN_t (by simpa using h16)).symm, _, _, rfl, ?_, ?_⟩
   · exact ⟨_, _, _, _, _, _, _, _, rfl, (hp_hv110.mono hG115), (hk_hv110.mono hG115), (hm_hv110.mono hG115), (hr_hv110.mono hG115), ok_left (by assumption) hi⟩
   exact ⟨_, _, _, _, _, _, _, _, rfl, hp_hv116, hk_hv116, hm_hv116, hr_hv116, ok_right (by assumption) hi⟩
  refine W.ok (ok_loadB (i := 0) (vs := (nd9 _ _ _ _ _ _ _ _ _ _ _ _ _ _ _ _ _ _)) ty47 rfl rfl rfl rfl (by simp)) (W.nil (WD.n9 Le.rfl ((sr9.k9.cons _).cons _) (WD.a1 1 rfl (W.call (Mp := []) (ncopy_fc (show NodeC _ _ { (halvesN a).1 with high := (halvesN a).2.2.1, top := false, right := i } from ⟨_, _, _, _, _, _, _, _, rfl, hp_hv101, hk_hv101, hm_hv101, hr_hv101, (ok_left (by assumption) hi)⟩)) rfl pr9 ?_))))
  intro _ G121 _ hG121 q123
  refine match q123 with | ⟨e_124, _, e_125, hv122⟩ => ?_
  subst e_124
  subst e_125
  refine match hv122 with | ⟨pa_hv122, pc_hv122, ka_hv122, kc_hv122, ma_hv122, mc_hv122, ra_hv122, rc_hv122, e_126, hp_hv122, hk_hv122, hm_hv122, hr_hv122, hok_hv122⟩ => ?_
  subst e_126
  refine W.nil (WD.n9 hG121 ((sr9.k9.cons _).cons _) (WD.a1 3 rfl (W.call (Mp := []) (ncopy_fc (show NodeC _ _ { (halvesN a).2.1 with slot := i } from ⟨_, _, _, _, _, _, _, _, rfl, (hp_hv102.mono hG121), (hk_hv102.mono hG121), (hm_hv102.mono hG121), (hr_hv102.mono hG121), (ok_right (by assumption) hi)⟩)) rfl pr9 ?_)))
  intro _ G127 _ hG127 q129
  refine match q129 with | ⟨e_130, _, e_131, hv128⟩ => ?_
  subst e_130
  subst e_131
  refine match hv128 with | ⟨pa_hv128, pc_hv128, ka_hv128, kc_hv128, ma_hv128, mc_hv128, ra_hv128, rc_hv128, e_132, hp_hv128, hk_hv128, hm_hv128, hr_hv128, hok_hv128⟩ => ?_
  subst e_132
  refine W.nil (WD.n9 hG127 ((sr9.k9.cons _).cons _) (WD.a1 5 rfl (W.store (i := 1) (vs := (nd9 _ _ _ _ _ _ _ _ _ _ _ _ _ _ _ _ _ _)) (L' := (nd9 _ _ _ _ _ _ _ _ _ _ _ _ _ _ _ _ _ _)) ty47 rfl rfl rfl rfl rfl rfl rfl rfl (W.nil (WD.n9 Le.rfl ((sr9.k9.cons _).cons _) (WD.a1 6 rfl (W.store (i := 0) (vs := (nd9 _ _ _ _ _ _ _ _ _ _ _ _ _ _ _ _ _ _)) (L' := (nd9 _ _ _ _ _ _ _ _ _ _ _ _ _ _ _ _ _ _)) ty47 rfl rfl rfl rfl rfl rfl rfl rfl (W.nil (WD.n9 Le.rfl ((sr9.k9.cons _).cons _) (WD.tk 7 rfl (ok_as) (WD.tk 8 rfl (ok_as) (WD.done (by kernel_rfl) (thn_n (WC.ret ?_))))))))))))))
  refine ⟨.inr rfl, [_, _, _, _], ⟨⟨_, _, _, _, _, rfl, nthM_mem (i := 1) rfl, ty47, (by simp), rfl, rfl⟩, ⟨_, _, _, _, _, rfl, nthM_mem (i := 0) rfl, ty47, (by simp), rfl, rfl⟩, rfl, rfl, trivial⟩, [], sn9, ?_⟩
  refine ⟨rfl, _, (cleaveN_t (by simpa using h16)).symm, _, _, rfl, ?_, ?_⟩
  · exact ⟨_, _, _, _, _, _, _, _, rfl, (hp_hv122.mono hG127), (hk_hv122.mono hG127), (hm_hv122.mono hG127), (hr_hv122.mono hG127), ok_left (by assumption) hi⟩
  exact ⟨_, _, _, _, _, _, _, _, rfl, hp_hv128, hk_hv128, hm_hv128, hr_hv128, ok_right (by assumption) hi⟩
 refine W.ok (ok_loadB (i := 0) (vs := (nd9 _ _ _ _ _ _ _ _ _ _ _ _ _ _ _ _ _ _)) ty47 rfl rfl rfl rfl (by simp)) (W.nil (WD.n9 Le.rfl ((sr9.k9.cons _).cons _) (WD.a1 0 rfl (W.ok (ok_loadB (i := 1) (vs := (nd9 _ _ _ _ _ _ _ _ _ _ _ _ _ _ _ _ _ _)) ty47 rfl rfl rfl rfl (by simp)) (W.nil (WD.n9 Le.rfl ((sr9.k9.cons _).cons _) (WD.a1 1 rfl (W.call (Mp := []) (ncopy_fc (show NodeC _ _ { (halvesN a).1 with high := (halvesN a).2.2.1, top := false, right := i } from ⟨_, _, _, _, _, _, _, _, rfl, hp_hv101, hk_hv101, hm_hv101, hr_hv101, (ok_left (by assumption) hi)⟩)) rfl pr9 ?_))))))))
 intro _ G133 _ hG133 q135
 refine match q135 with | ⟨e_136, _, e_137, hv134⟩ => ?_
 subst e_136
 subst e_137
 refine match hv134 with | ⟨pa_hv134, pc_hv134, ka_hv134, kc_hv134, ma_hv134, mc_hv134, ra_hv134, rc_hv134, e_138, hp_hv134, hk_hv134, hm_hv134, hr_hv134, hok_hv134⟩ => ?_
 subst e_138
 refine W.nil (WD.n9 hG133 ((sr9.k9.cons _).cons _) (WD.a1 3 rfl (W.call (Mp := []) (ncopy_fc (show NodeC _ _ { (halvesN a).2.1 with slot := i } from ⟨_, _, _, _, _, _, _, _, rfl, (hp_hv102.mono hG133), (hk_hv102.mono hG133), (hm_hv102.mono hG133), (hr_hv102.mono hG133), (ok_right (by assumption) hi)⟩)) rfl pr9 ?_)))
 intro _ G139 _ hG139 q141
 refine match q141 with | ⟨e_142, _, e_143, hv140⟩ => ?_
 subst e_142
 subst e_143
 refine match hv140 with | ⟨pa_hv140, pc_hv140, ka_hv140, kc_hv140, ma_hv140, mc_hv140, ra_hv140, rc_hv140, e_144, hp_hv140, hk_hv140, hm_hv140, hr_hv140, hok_hv140⟩ => ?_
 subst e_144
 refine W.nil (WD.n9 hG139 ((sr9.k9.cons _).cons _) (WD.a1 5 rfl (W.store (i := 1) (vs := (nd9 _ _ _ _ _ _ _ _ _ _ _ _ _ _ _ _ _ _)) (L' := (nd9 _ _ _ _ _ _ _ _ _ _ _ _ _ _ _ _ _ _)) ty47 rfl rfl rfl rfl rfl rfl rfl rfl (W.nil (WD.n9 Le.rfl ((sr9.k9.cons _).cons _) (WD.a1 6 rfl (W.store (i := 0) (vs := (nd9 _ _ _ _ _ _ _ _ _ _ _ _ _ _ _ _ _ _)) (L' := (nd9 _ _ _ _ _ _ _ _ _ _ _ _ _ _ _ _ _ _)) ty47 rfl rfl rfl rfl rfl rfl rfl rfl (W.nil (WD.n9 Le.rfl ((sr9.k9.cons _).cons _) (WD.tk 7 rfl (ok_as) (WD.tk 8 rfl (ok_as) (WD.done (by kernel_rfl) (thn_n (WC.ret ?_))))))))))))))
 refine ⟨.inr rfl, [_, _, _, _], ⟨⟨_, _, _, _, _, rfl, nthM_mem (i := 1) rfl, ty47, (by simp), rfl, rfl⟩, ⟨_, _, _, _, _, rfl, nthM_mem (i := 0) rfl, ty47, (by simp), rfl, rfl⟩, rfl, rfl, trivial⟩, [], sn9, ?_⟩
 refine ⟨rfl, _, (cleaveN_t (by simpa using h16)).symm, _, _, rfl, ?_, ?_⟩
 · exact ⟨_, _, _, _, _, _, _, _, rfl, (hp_hv134.mono hG139), (hk_hv134.mono hG139), (hm_hv134.mono hG139), (hr_hv134.mono hG139), ok_left (by assumption) hi⟩
 exact ⟨_, _, _, _, _, _, _, _, rfl, hp_hv140, hk_hv140, hm_hv140, hr_hv140, ok_right (by assumption) hi⟩

theorem rcleave_fc {G : GH} {cs_n : List Value} {n : Nd} (h_n : NodeC G cs_n n) (i : Int) (hi : i64 i) (hks : ∀ m ∈ n.msgs, m.key.b.size < 140737488355328) :
    Fc Tryz.prog 97 [.agg (List.toArray cs_n), .int .i64 i] G [] (fun v G' M' => M' = [] ∧ ∃ r : Nd × Nd × Str × Bool, r = cleaveN n i ∧ ∃ u0 u1, v = .tuple #[.agg (List.toArray u0), .agg (List.toArray u1), .string (Str.b (r.2.2.1)), .bool (r.2.2.2)] ∧ NodeC G' u0 (r.1) ∧ NodeC G' u1 (r.2.1)) := by
 obtain ⟨pa_n, pc_n, ka_n, kc_n, ma_n, mc_n, ra_n, rc_n, rfl, hp_n, hk_n, hm_n, hr_n, hok_n⟩ := h_n
 have h1 := hp_n.len47
 have h2 := hk_n.len47
 have h3 := hm_n.len47
 have h4 := hr_n.len47
 have b1 : n.pivots.length * 16 ≤ 140737488355328 := hp_n.bytes
 have b2 : n.kids.length * 8 ≤ 140737488355328 := hk_n.bytes
 have b4 : n.rows.length * 32 ≤ 140737488355328 := hr_n.bytes
 refine Fc.intro (rs := [.cell 4 47, .cell 5 47, .tmp 6, .tmp 7]) cl97 Tryz.func97 rfl Tryz.ntmps97 rfl rfl (fun w0 => ?_)
 refine WC.seq (WC.region (W.box (L := (nd9 _ _ _ _ _ _ _ _ _ _ _ _ _ _ _ _ _ _)) rfl rfl (fun b145 => (W.alloc zr47 (fun b146 => (W.alloc zr47 (fun b147 => (W.as (W.as (W.nil (thn_n (WC.seq (WC.drawW _ ((sr9.k9.k9).k9) mix (by rintro _ _ _ _ ⟨h | h, _⟩ <;> cases h) (WD.tk 0 rfl (ok_loadB (i := 2) (vs := (nd9 _ _ _ _ _ _ _ _ _ _ _ _ _ _ _ _ _ _)) ty47 rfl rfl rfl rfl (by simp)) (WD.tk 1 rfl (ok_loadB (i := 2) (vs := (nd9 _ _ _ _ _ _ _ _ _ _ _ _ _ _ _ _ _ _)) ty47 rfl rfl rfl rfl (by simp)) ?_)))))))))))))))
 refine WD.any [2, 3] (by kernel_rfl) rfl ⟨⟨_, rfl, rfl, ?_⟩, ⟨_, rfl, rfl, ?_⟩, trivial⟩
 ·refine W.alloc zr47 (fun b148 => (W.nil (WD.n9 Le.rfl (((sr9.k9.k9).k9).cons _) (WD.a1 3 rfl (W.alloc zr47 (fun b149 => (W.nil (WD.n9 Le.rfl ((((sr9.k9.k9).k9).cons _).cons _) (WD.a1 4 rfl (W.store (i := 1) (vs := (nd9 _ _ _ _ _ _ _ _ _ _ _ _ _ _ _ _ _ _)) (L' := (nd9 _ _ _ _ _ _ _ _ _ _ _ _ _ _ _ _ _ _)) ty47 rfl rfl rfl rfl rfl rfl rfl rfl (W.nil (WD.n9 Le.rfl ((((sr9.k9.k9).k9).cons _).cons _) (WD.a1 5 rfl (W.store (i := 0) (vs := (nd9 _ _ _ _ _ _ _ _ _ _ _ _ _ _ _ _ _ _)) (L' := (nd9 _ _ _ _ _ _ _ _ _ _ _ _ _ _ _ _ _ _)) ty47 rfl rfl rfl rfl rfl rfl rfl rfl (W.nil (WD.n9 Le.rfl ((((sr9.k9.k9).k9).cons _).cons _) (WD.tk 6 rfl (ok_as) (WD.done (by kernel_rfl) (thn_n (WC.seq ?_))))))))))))))))))))
  refine WC.seq (WC.region (W.ok (ok_fieldB fd47_1 rfl) (W.ok (ok_loadB (i := 4) (vs := [.int .i64 _]) ty3 rfl rfl rfl rfl (by simp)) (W.ok (ok_eql rfl rfl) (W.nil (thn_n ?_))))))
  refine WC.cond (b := _) rfl (fun h17 => ?_) (fun h17 => ?_)
  ·have p17 := of_decide_eq_true h17
   refine WC.seq (WC.seq (WC.region (W.ok (ok_fieldB fd47_9 rfl) (W.ok (ok_loadB (i := 4) (vs := [.slice _ _ _]) ty41 rfl rfl rfl rfl (by simp)) (W.ok (ok_len sl41 hr_n rfl) (W.ok (ok_lss rfl rfl) (W.nil (thn_n ?_))))))))
   refine WC.cond (b := _) rfl (fun h21 => ?_) (fun h21 => ?_)
   ·have p21 := of_decide_eq_true h21
    refine WC.seq (WC.region (W.ok (ok_build (L := (nd9 _ _ _ _ _ _ _ _ _ _ _ _ _ _ _ _ _ _)) pl47 zr47 rfl rfl rfl) (W.ok (ok_build (L := (nd9 _ _ _ _ _ _ _ _ _ _ _ _ _ _ _ _ _ _)) pl47 zr47 rfl rfl rfl) (W.store (i := 3) (vs := (nd9 _ _ _ _ _ _ _ _ _ _ _ _ _ _ _ _ _ _)) (L' := (nd9 _ _ _ _ _ _ _ _ _ _ _ _ _ _ _ _ _ _)) ty47 rfl rfl rfl rfl rfl rfl rfl rfl (W.store (i := 2) (vs := (nd9 _ _ _ _ _ _ _ _ _ _ _ _ _ _ _ _ _ _)) (L' := (nd9 _ _ _ _ _ _ _ _ _ _ _ _ _ _ _ _ _ _)) ty47 rfl rfl rfl rfl rfl rfl rfl rfl (W.as (W.as (W.nil (thn_n (WC.ret (thn_r (thn_r ?_))))))))))))
    refine ⟨.inr rfl, [_, _, _, _], ⟨⟨_, _, _, _, _, rfl, nthM_mem (i := 3) rfl, ty47, (by simp), rfl, rfl⟩, ⟨_, _, _, _, _, rfl, nthM_mem (i := 2) rfl, ty47, (by simp), rfl, rfl⟩, rfl, rfl, trivial⟩, [], sn9, ?_⟩
    refine ⟨rfl, _, (cleave_lf p17 (by omega)).symm, _, _, rfl, ?_, ?_⟩
    · exact ⟨_, _, _, _, _, _, _, _, rfl, SlR.nil, SlR.nil, SlR.nil, SlR.nil, Nd.zero_ok⟩
    exact ⟨_, _, _, _, _, _, _, _, rfl, SlR.nil, SlR.nil, SlR.nil, SlR.nil, Nd.zero_ok⟩
   have p21 := of_decide_eq_false h21
   refine WC.skip (thn_n (WC.seq (WC.region (W.ok (ok_fieldB fd47_9 rfl) (W.ok (ok_loadB (i := 4) (vs := [.slice _ _ _]) ty41 rfl rfl rfl rfl (by simp)) (W.ok (ok_len sl41 hr_n rfl) (W.ok (ok_add rfl rfl (by omega)) (W.ok (Ok.int (n := ((((n.rows.length + 1) / 2) : Nat) : Int)) (ok_quo' rfl rfl (by omega) (by omega) (by omega)) (by omega)) (W.as (W.nil (thn_n (WC.seq (WC.draw mix (by kernel_rfl) (W.ok (ok_fieldB fd47_9 rfl) (W.ok (ok_loadB (i := 4) (vs := [.slice _ _ _]) ty41 rfl rfl rfl rfl (by simp)) ?_)))))))))))))))
   refine W.mv (W.ok (Ok.int (n := ((((n.rows.length + 1) / 2) - 1 : Nat) : Int)) (ok_sub rfl rfl (by omega)) (by omega)) ?_)
   have q152 := hr_n.at (i := ((n.rows.length + 1) / 2) - 1) (by omega)
   refine match q152 with | ⟨_, he150, e_151⟩ => ?_
   subst e_151
   refine W.ok (ok_indexAddr (i := ((n.rows.length + 1) / 2) - 1) sl41 ty69 hr_n rfl rfl ⟨by omega, by omega⟩) (W.ok (ok_fieldE fd69_0 rfl he150.form) (W.ok (ok_loadE (vs := [.string _]) ty9 he150 rfl rfl rfl (by simp)) (W.ok (ok_fieldB fd47_9 rfl) (W.ok (ok_loadB (i := 4) (vs := [.slice _ _ _]) ty41 rfl rfl rfl rfl (by simp)) (W.mv ?_)))))
   have q155 := hr_n.at (i := ((n.rows.length + 1) / 2)) (by omega)
   refine match q155 with | ⟨_, he153, e_154⟩ => ?_
   subst e_154
   refine W.ok (ok_indexAddr (i := ((n.rows.length + 1) / 2)) sl41 ty69 hr_n rfl rfl ⟨by omega, by omega⟩) (W.ok (ok_fieldE fd69_0 rfl he153.form) (W.ok (ok_loadE (vs := [.string _]) ty9 he153 rfl rfl rfl (by simp)) (W.qcall (rbetween_fc _ _) rfl (W.mv (W.ok (ok_extract rfl rfl) (W.ok (ok_extract rfl rfl) (W.as (W.nil (thn_n (WC.seq (WC.region (W.lit0 (e := ePair) sl41 ty69 zr69 rfl (fun v156 Ms157 ho158 => (W.perm (pmC (pmC (pmC (pmC (pmC pr9))))).symm (W.ok (ok_fieldB fd47_9 rfl) ?_)))))))))))))))
   refine W.ok (ok_loadB (i := 4) (vs := [.slice _ _ _]) ty41 rfl rfl rfl rfl (by simp)) (W.mv ?_)
   have hs159 := SlR.slice hr_n (lo := 0) (hi := ((n.rows.length + 1) / 2)) (by omega) (by omega)
   refine W.ok (ok_slice (0) (((n.rows.length + 1) / 2)) sl41 ty69 hr_n rfl rfl ⟨_, _, rfl, by omega⟩ ⟨by omega, by omega⟩) (W.app (e := ePair) sl41 ty69 zr69 rfl by69 rfl rfl (ho158) (hs159) (pmC (pmC (pmC (pmC (pmC pr9))))) (by show (0 + ((n.rows.take ((n.rows.length + 1) / 2)).drop 0).length) * 32 ≤ _; simp; omega) (fun v160 Ms161 ho162 => (W.perm (pmC (pmC (pmC (pmC (pmC pr9))))).symm (W.ok (ok_fieldB fd47_9 rfl) (W.giveO ho162 (pmC (pmC (pmC (pmC (pmC pr9))))) (fun G163 hG163 hv163 => ?_))))))
   have hc164 := SlR.cast hv163 (l' := n.rows.take ((n.rows.length + 1) / 2)) (by simp)
   have q166 := hc164.form
   refine match q166 with | ⟨_, _, e_165⟩ => ?_
   subst e_165
   refine W.store (i := 1) (vs := [.slice _ _ _]) (L' := (nd9 _ _ _ _ _ _ _ _ _ _ _ _ _ _ _ _ _ _)) ty41 rfl rfl rfl rfl rfl rfl rfl rfl (W.nil (thn_n (WC.region (W.lit0 (e := ePair) sl41 ty69 zr69 rfl (fun v167 Ms168 ho169 => (W.perm (pmC (pmC (pmC (pmC (pmC pr9))))).symm (W.ok (ok_fieldB fd47_9 rfl) (W.ok (ok_loadB (i := 4) (vs := [.slice _ _ _]) ty41 rfl rfl rfl rfl (by simp)) (W.mv ?_)))))))))
   have hs170 := SlR.slice (hr_n.mono hG163) (lo := ((n.rows.length + 1) / 2)) (hi := n.rows.length) (by omega) (by omega)
   refine W.ok (ok_slice (((n.rows.length + 1) / 2)) (n.rows.length) sl41 ty69 (hr_n.mono hG163) rfl ⟨_, _, rfl, by omega⟩ rfl ⟨by omega, by omega⟩) (W.app (e := ePair) sl41 ty69 zr69 rfl by69 rfl rfl (ho169) (hs170) (pmC (pmC (pmC (pmC (pmC pr9))))) (by show (0 + ((n.rows.take n.rows.length).drop ((n.rows.length + 1) / 2)).length) * 32 ≤ _; simp; omega) (fun v171 Ms172 ho173 => (W.perm (pmC (pmC (pmC (pmC (pmC pr9))))).symm (W.ok (ok_fieldB fd47_9 rfl) (W.giveO ho173 (pmC (pmC (pmC (pmC (pmC pr9))))) (fun G174 hG174 hv174 => ?_))))))
   have hc175 := SlR.cast hv174 (l' := n.rows.drop ((n.rows.length + 1) / 2)) (by simp)
   have q177 := hc175.form
   refine match q177 with | ⟨_, _, e_176⟩ => ?_
   subst e_176
   refine W.store (i := 0) (vs := [.slice _ _ _]) (L' := (nd9 _ _ _ _ _ _ _ _ _ _ _ _ _ _ _ _ _ _)) ty41 rfl rfl rfl rfl rfl rfl rfl rfl (W.nil (thn_n (WC.seq (WC.region (W.mv (W.ok (ok_fieldB fd47_4 rfl) (W.store (i := 1) (vs := [.string _]) (L' := (nd9 _ _ _ _ _ _ _ _ _ _ _ _ _ _ _ _ _ _)) ty9 rfl rfl rfl rfl rfl rfl rfl rfl (W.nil (thn_n (WC.seq (WC.region (W.ok (ok_fieldB fd47_5 rfl) (W.store (i := 1) (vs := [.bool _]) (L' := (nd9 _ _ _ _ _ _ _ _ _ _ _ _ _ _ _ _ _ _)) ty4 rfl rfl rfl rfl rfl rfl rfl rfl (W.nil (thn_n (WC.seq ?_))))))))))))))))
   refine WC.region (W.mv (W.ok (ok_fieldB fd47_6 rfl) (W.store (i := 1) (vs := [.int .i64 _]) (L' := (nd9 _ _ _ _ _ _ _ _ _ _ _ _ _ _ _ _ _ _)) ty3 rfl rfl rfl rfl rfl rfl rfl rfl (W.nil (thn_n (WC.seq (WC.region (W.mv (W.ok (ok_fieldB fd47_0 rfl) (W.store (i := 0) (vs := [.int .i64 _]) (L' := (nd9 _ _ _ _ _ _ _ _ _ _ _ _ _ _ _ _ _ _)) ty3 rfl rfl rfl rfl rfl rfl rfl rfl (W.nil (thn_n (WC.seq (WC.drawW _ ((((sr9.k9.cons _).cons _).k9).k9) mix (by rintro _ _ _ _ ⟨h | h, _⟩ <;> cases h) (WD.tk 0 rfl (ok_loadB (i := 1) (vs := (nd9 _ _ _ _ _ _ _ _ _ _ _ _ _ _ _ _ _ _)) ty47 rfl rfl rfl rfl (by simp)) ?_)))))))))))))))
   refine WD.tk 1 rfl (ok_loadB (i := 0) (vs := (nd9 _ _ _ _ _ _ _ _ _ _ _ _ _ _ _ _ _ _)) ty47 rfl rfl rfl rfl (by simp)) (WD.tk 2 rfl (ok_mv) (WD.a1 3 rfl (W.store (i := 3) (vs := (nd9 _ _ _ _ _ _ _ _ _ _ _ _ _ _ _ _ _ _)) (L' := (nd9 _ _ _ _ _ _ _ _ _ _ _ _ _ _ _ _ _ _)) ty47 rfl rfl rfl rfl rfl rfl rfl rfl (W.nil (WD.n9 Le.rfl ((((sr9.k9.cons _).cons _).k9).k9) (WD.a1 4 rfl (W.store (i := 2) (vs := (nd9 _ _ _ _ _ _ _ _ _ _ _ _ _ _ _ _ _ _)) (L' := (nd9 _ _ _ _ _ _ _ _ _ _ _ _ _ _ _ _ _ _)) ty47 rfl rfl rfl rfl rfl rfl rfl rfl (W.nil (WD.n9 Le.rfl ((((sr9.k9.cons _).cons _).k9).k9) (WD.tk 5 rfl (ok_as) (WD.tk 6 rfl (ok_as) (WD.done (by kernel_rfl) (thn_n (WC.ret ?_))))))))))))))
   refine ⟨.inr rfl, [_, _, _, _], ⟨⟨_, _, _, _, _, rfl, nthM_mem (i := 3) rfl, ty47, (by simp), rfl, rfl⟩, ⟨_, _, _, _, _, rfl, nthM_mem (i := 2) rfl, ty47, (by simp), rfl, rfl⟩, rfl, rfl, trivial⟩, [], sn9, ?_⟩
   refine ⟨rfl, _, (cleave_lt p17 (by omega)).symm, _, _, rfl, ?_, ?_⟩
   · exact ⟨_, _, _, _, _, _, _, _, rfl, (hp_n.mono (hG163.trans hG174)), (hk_n.mono (hG163.trans hG174)), (hm_n.mono (hG163.trans hG174)), (hc164.mono hG174), ⟨hok_n.1, hok_n.2.1, hi, hok_n.2.2.2⟩⟩
   exact ⟨_, _, _, _, _, _, _, _, rfl, (hp_n.mono (hG163.trans hG174)), (hk_n.mono (hG163.trans hG174)), (hm_n.mono (hG163.trans hG174)), hc175, ⟨hi, hok_n.2⟩⟩
  have p17 := of_decide_eq_false h17
  refine WC.seq (WC.seq (WC.region (W.ok (ok_fieldB fd47_3 rfl) (W.ok (ok_loadB (i := 4) (vs := [.slice _ _ _]) ty44 rfl rfl rfl rfl (by simp)) (W.ok (ok_len sl44 hk_n rfl) (W.ok (ok_lss rfl rfl) (W.mv ?_)))))))
  refine W.sp 64 rfl (fun h63 => ?_) (fun h63 => ?_)
  ·have p63 := of_decide_eq_true h63
   refine W.no (dj := 64) rfl rfl h63 (W.no (dj := 64) rfl rfl h63 (W.no (dj := 64) rfl rfl h63 (W.no (dj := 64) rfl rfl h63 (W.no (dj := 64) rfl rfl h63 (W.no (dj := 64) rfl rfl h63 (W.ok (ok_pick_t rfl h63) (W.nil (thn_n (WC.cond_t rfl rfl (WC.seq (WC.region (W.ok (ok_build (L := (nd9 _ _ _ _ _ _ _ _ _ _ _ _ _ _ _ _ _ _)) pl47 zr47 rfl rfl rfl) (W.ok (ok_build (L := (nd9 _ _ _ _ _ _ _ _ _ _ _ _ _ _ _ _ _ _)) pl47 zr47 rfl rfl rfl) (W.store (i := 3) (vs := (nd9 _ _ _ _ _ _ _ _ _ _ _ _ _ _ _ _ _ _)) (L' := (nd9 _ _ _ _ _ _ _ _ _ _ _ _ _ _ _ _ _ _)) ty47 rfl rfl rfl rfl rfl rfl rfl rfl ?_))))))))))))))
   refine W.store (i := 2) (vs := (nd9 _ _ _ _ _ _ _ _ _ _ _ _ _ _ _ _ _ _)) (L' := (nd9 _ _ _ _ _ _ _ _ _ _ _ _ _ _ _ _ _ _)) ty47 rfl rfl rfl rfl rfl rfl rfl rfl (W.as (W.as (W.nil (thn_n (WC.ret (thn_r (thn_r ?_)))))))
   refine ⟨.inr rfl, [_, _, _, _], ⟨⟨_, _, _, _, _, rfl, nthM_mem (i := 3) rfl, ty47, (by simp), rfl, rfl⟩, ⟨_, _, _, _, _, rfl, nthM_mem (i := 2) rfl, ty47, (by simp), rfl, rfl⟩, rfl, rfl, trivial⟩, [], sn9, ?_⟩
   refine ⟨rfl, _, (cleave_if p17 (by omega)).symm, _, _, rfl, ?_, ?_⟩
   · exact ⟨_, _, _, _, _, _, _, _, rfl, SlR.nil, SlR.nil, SlR.nil, SlR.nil, Nd.zero_ok⟩
   exact ⟨_, _, _, _, _, _, _, _, rfl, SlR.nil, SlR.nil, SlR.nil, SlR.nil, Nd.zero_ok⟩
  have p63 := of_decide_eq_false h63
  refine W.yes (dj := 64) rfl rfl h63 (W.ok (ok_fieldB fd47_2 rfl) (W.yes (dj := 64) rfl rfl h63 (W.ok (ok_loadB (i := 4) (vs := [.slice _ _ _]) ty43 rfl rfl rfl rfl (by simp)) (W.yes (dj := 64) rfl rfl h63 (W.ok (ok_fieldB fd47_3 rfl) (W.yes (dj := 64) rfl rfl h63 (W.ok (ok_loadB (i := 4) (vs := [.slice _ _ _]) ty44 rfl rfl rfl rfl (by simp)) (W.yes (dj := 64) rfl rfl h63 (W.qcall (rright_fc hp_n hk_n) rfl (W.yes (dj := 64) rfl rfl h63 (W.ok (ok_not rfl) (W.ok (ok_pick_f rfl h63) (W.nil (thn_n ?_))))))))))))))
  refine WC.cond (b := _) rfl (fun h70 => ?_) (fun h70 => ?_)
  ·refine WC.seq (WC.region (W.ok (ok_build (L := (nd9 _ _ _ _ _ _ _ _ _ _ _ _ _ _ _ _ _ _)) pl47 zr47 rfl rfl rfl) (W.ok (ok_build (L := (nd9 _ _ _ _ _ _ _ _ _ _ _ _ _ _ _ _ _ _)) pl47 zr47 rfl rfl rfl) (W.store (i := 3) (vs := (nd9 _ _ _ _ _ _ _ _ _ _ _ _ _ _ _ _ _ _)) (L' := (nd9 _ _ _ _ _ _ _ _ _ _ _ _ _ _ _ _ _ _)) ty47 rfl rfl rfl rfl rfl rfl rfl rfl (W.store (i := 2) (vs := (nd9 _ _ _ _ _ _ _ _ _ _ _ _ _ _ _ _ _ _)) (L' := (nd9 _ _ _ _ _ _ _ _ _ _ _ _ _ _ _ _ _ _)) ty47 rfl rfl rfl rfl rfl rfl rfl rfl (W.as (W.as (W.nil (thn_n (WC.ret (thn_r (thn_r ?_))))))))))))
   refine ⟨.inr rfl, [_, _, _, _], ⟨⟨_, _, _, _, _, rfl, nthM_mem (i := 3) rfl, ty47, (by simp), rfl, rfl⟩, ⟨_, _, _, _, _, rfl, nthM_mem (i := 2) rfl, ty47, (by simp), rfl, rfl⟩, rfl, rfl, trivial⟩, [], sn9, ?_⟩
   refine ⟨rfl, _, (cleave_if p17 (.inr (by simpa using h70))).symm, _, _, rfl, ?_, ?_⟩
   · exact ⟨_, _, _, _, _, _, _, _, rfl, SlR.nil, SlR.nil, SlR.nil, SlR.nil, Nd.zero_ok⟩
   exact ⟨_, _, _, _, _, _, _, _, rfl, SlR.nil, SlR.nil, SlR.nil, SlR.nil, Nd.zero_ok⟩
  have hri : rightN n.pivots n.kids.length = true := by simpa using h70
  have hcl := (rightN_spec hri).2
  refine WC.skip (thn_n (WC.seq (WC.region (W.ok (ok_fieldB fd47_3 rfl) (W.ok (ok_loadB (i := 4) (vs := [.slice _ _ _]) ty44 rfl rfl rfl rfl (by simp)) (W.ok (ok_len sl44 hk_n rfl) (W.ok (ok_add rfl rfl (by omega)) (W.ok (Ok.int (n := ((((n.kids.length + 1) / 2) : Nat) : Int)) (ok_quo' rfl rfl (by omega) (by omega) (by omega)) (by omega)) (W.as (W.nil (thn_n (WC.seq (WC.region (W.ok (ok_fieldB fd47_2 rfl) (W.ok (ok_loadB (i := 4) (vs := [.slice _ _ _]) ty43 rfl rfl rfl rfl (by simp)) ?_)))))))))))))))
  refine W.mv (W.ok (Ok.int (n := ((((n.kids.length + 1) / 2) - 1 : Nat) : Int)) (ok_sub rfl rfl (by omega)) (by omega)) ?_)
  have q180 := hp_n.at (i := ((n.kids.length + 1) / 2) - 1) (by omega)
  refine match q180 with | ⟨_, he178, e_179⟩ => ?_
  subst e_179
  refine W.ok (ok_indexAddr (i := ((n.kids.length + 1) / 2) - 1) sl43 ty9 hp_n rfl rfl ⟨by omega, by omega⟩) (W.ok (ok_loadE (vs := [.string _]) ty9 he178 rfl rfl rfl (by simp)) (W.as (W.nil (thn_n (WC.seq (WC.drawW _ ((((sr9.k9.k9).k9).cons _).k9) mix (by rintro _ _ _ _ ⟨h | h, _⟩ <;> cases h) (WD.tk 0 rfl (ok_fieldB fd47_2 rfl) (WD.tk 1 rfl (ok_loadB (i := 3) (vs := [.slice _ _ _]) ty43 rfl rfl rfl rfl (by simp)) (WD.tk 2 rfl (ok_mv) (WD.tk 3 rfl (Ok.int (n := ((((n.kids.length + 1) / 2) - 1 : Nat) : Int)) (ok_sub rfl rfl (by omega)) (by omega)) (WD.tk 5 rfl (ok_fieldB fd47_3 rfl) (WD.tk 6 rfl (ok_loadB (i := 3) (vs := [.slice _ _ _]) ty44 rfl rfl rfl rfl (by simp)) (WD.tk 7 rfl (ok_mv) (WD.a1 4 rfl ?_))))))))))))))
  refine W.call (Mp := []) (cut_fc hp_n 0 _ ⟨by omega, by omega⟩) rfl pr9 ?_
  intro _ G181 _ hG181 q183
  refine match q183 with | ⟨e_184, _, e_185, hv182⟩ => ?_
  subst e_184
  subst e_185
  have hc186 := SlR.cast hv182 (l' := n.pivots.take (((n.kids.length + 1) / 2) - 1)) (by simp)
  have q188 := hc186.form
  refine match q188 with | ⟨sa_hc186, sc_hc186, e_187⟩ => ?_
  subst e_187
  refine W.nil (WD.n9 hG181 ((((sr9.k9.k9).k9).cons _).k9) (WD.tk 9 rfl (ok_fieldB fd47_2 rfl) (WD.a1 8 rfl (W.call (Mp := []) (part_fc (hk_n.mono hG181) 0 _ ⟨by omega, by omega⟩) rfl pr9 ?_))))
  intro _ G189 _ hG189 q191
  refine match q191 with | ⟨e_192, _, e_193, hv190⟩ => ?_
  subst e_192
  subst e_193
  have hc194 := SlR.cast hv190 (l' := n.kids.take ((n.kids.length + 1) / 2)) (by simp)
  have q196 := hc194.form
  refine match q196 with | ⟨sa_hc194, sc_hc194, e_195⟩ => ?_
  subst e_195
  refine W.nil (WD.n9 hG189 ((((sr9.k9.k9).k9).cons _).k9) (WD.a1 10 rfl (W.store (i := 1) (vs := [.slice _ _ _]) (L' := (nd9 _ _ _ _ _ _ _ _ _ _ _ _ _ _ _ _ _ _)) ty43 rfl rfl rfl rfl rfl rfl rfl rfl (W.nil (WD.n9 Le.rfl ((((sr9.k9.k9).k9).cons _).k9) (WD.tk 11 rfl (ok_fieldB fd47_3 rfl) (WD.a1 12 rfl (W.store (i := 1) (vs := [.slice _ _ _]) (L' := (nd9 _ _ _ _ _ _ _ _ _ _ _ _ _ _ _ _ _ _)) ty44 rfl rfl rfl rfl rfl rfl rfl rfl (W.nil (WD.n9 Le.rfl ((((sr9.k9.k9).k9).cons _).k9) (WD.done (by kernel_rfl) (thn_n (WC.seq (WC.drawW _ ((((sr9.k9.k9).k9).k9).cons _) mix (by rintro _ _ _ _ ⟨h | h, _⟩ <;> cases h) (WD.tk 0 rfl (ok_fieldB fd47_2 rfl) (WD.tk 1 rfl (ok_loadB (i := 3) (vs := [.slice _ _ _]) ty43 rfl rfl rfl rfl (by simp)) (WD.tk 2 rfl (ok_mv) ?_)))))))))))))))))
  refine WD.tk 3 rfl (ok_fieldB fd47_2 rfl) (WD.tk 4 rfl (ok_loadB (i := 3) (vs := [.slice _ _ _]) ty43 rfl rfl rfl rfl (by simp)) (WD.tk 5 rfl (ok_len sl43 (hp_n.mono (hG181.trans hG189)) rfl) (WD.tk 7 rfl (ok_fieldB fd47_3 rfl) (WD.tk 8 rfl (ok_loadB (i := 3) (vs := [.slice _ _ _]) ty44 rfl rfl rfl rfl (by simp)) (WD.tk 9 rfl (ok_mv) (WD.tk 10 rfl (ok_fieldB fd47_3 rfl) (WD.tk 11 rfl (ok_loadB (i := 3) (vs := [.slice _ _ _]) ty44 rfl rfl rfl rfl (by simp)) (WD.tk 12 rfl (ok_len sl44 (hk_n.mono (hG181.trans hG189)) rfl) (WD.a1 6 rfl (W.call (Mp := []) (cut_fc (hp_n.mono (hG181.trans hG189)) _ _ ⟨by omega, by omega⟩) rfl pr9 ?_))))))))))
  intro _ G197 _ hG197 q199
  refine match q199 with | ⟨e_200, _, e_201, hv198⟩ => ?_
  subst e_200
  subst e_201
  have hc202 := SlR.cast hv198 (l' := n.pivots.drop ((n.kids.length + 1) / 2)) (by simp)
  have q204 := hc202.form
  refine match q204 with | ⟨sa_hc202, sc_hc202, e_203⟩ => ?_
  subst e_203
  refine W.nil (WD.n9 hG197 ((((sr9.k9.k9).k9).k9).cons _) (WD.tk 14 rfl (ok_fieldB fd47_2 rfl) (WD.a1 13 rfl (W.call (Mp := []) (part_fc (hk_n.mono ((hG181.trans hG189).trans hG197)) _ _ ⟨by omega, by omega⟩) rfl pr9 ?_))))
  intro _ G205 _ hG205 q207
  refine match q207 with | ⟨e_208, _, e_209, hv206⟩ => ?_
  subst e_208
  subst e_209
  have hc210 := SlR.cast hv206 (l' := n.kids.drop ((n.kids.length + 1) / 2)) (by simp)
  have q212 := hc210.form
  refine match q212 with | ⟨sa_hc210, sc_hc210, e_211⟩ => ?_
  subst e_211
  refine W.nil (WD.n9 hG205 ((((sr9.k9.k9).k9).k9).cons _) (WD.a1 15 rfl (W.store (i := 0) (vs := [.slice _ _ _]) (L' := (nd9 _ _ _ _ _ _ _ _ _ _ _ _ _ _ _ _ _ _)) ty43 rfl rfl rfl rfl rfl rfl rfl rfl (W.nil (WD.n9 Le.rfl ((((sr9.k9.k9).k9).k9).cons _) (WD.tk 16 rfl (ok_fieldB fd47_3 rfl) (WD.a1 17 rfl (W.store (i := 0) (vs := [.slice _ _ _]) (L' := (nd9 _ _ _ _ _ _ _ _ _ _ _ _ _ _ _ _ _ _)) ty44 rfl rfl rfl rfl rfl rfl rfl rfl (W.nil (WD.n9 Le.rfl ((((sr9.k9.k9).k9).k9).cons _) (WD.done (by kernel_rfl) (thn_n (WC.seq (WC.region (W.ok (ok_fieldB fd47_8 rfl) (W.ok (ok_loadB (i := 4) (vs := [.slice _ _ _]) ty45 rfl rfl rfl rfl (by simp)) (W.mv ?_)))))))))))))))))
  refine W.ok (ok_build (L := [.string _, .string _, .bool _]) pl52 zr52 rfl rfl rfl) (W.call (Mp := []) (rclips_fc (hm_n.mono (((hG181.trans hG189).trans hG197).trans hG205)) Str.nil _ _ (by assumption)) rfl pr9 ?_)
  intro _ G213 _ hG213 q215
  refine match q215 with | ⟨e_216, _, e_217, hv214⟩ => ?_
  subst e_216
  subst e_217
  have q219 := hv214.form
  refine match q219 with | ⟨sa_hv214, sc_hv214, e_218⟩ => ?_
  subst e_218
  refine W.ok (ok_fieldB fd47_8 rfl) (W.store (i := 1) (vs := [.slice _ _ _]) (L' := (nd9 _ _ _ _ _ _ _ _ _ _ _ _ _ _ _ _ _ _)) ty45 rfl rfl rfl rfl rfl rfl rfl rfl (W.nil (thn_n (WC.region (W.ok (ok_fieldB fd47_8 rfl) (W.ok (ok_loadB (i := 4) (vs := [.slice _ _ _]) ty45 rfl rfl rfl rfl (by simp)) (W.mv (W.ok (ok_build (L := [.string _, .string _, .bool _]) pl52 zr52 rfl rfl rfl) (W.call (Mp := []) (rclips_fc (hm_n.mono ((((hG181.trans hG189).trans hG197).trans hG205).trans hG213)) _ Str.nil _ (by assumption)) rfl pr9 ?_)))))))))
  intro _ G220 _ hG220 q222
  refine match q222 with | ⟨e_223, _, e_224, hv221⟩ => ?_
  subst e_223
  subst e_224
  have q226 := hv221.form
  refine match q226 with | ⟨sa_hv221, sc_hv221, e_225⟩ => ?_
  subst e_225
  refine W.ok (ok_fieldB fd47_8 rfl) (W.store (i := 0) (vs := [.slice _ _ _]) (L' := (nd9 _ _ _ _ _ _ _ _ _ _ _ _ _ _ _ _ _ _)) ty45 rfl rfl rfl rfl rfl rfl rfl rfl (W.nil (thn_n (WC.seq (WC.region (W.mv (W.ok (ok_fieldB fd47_4 rfl) (W.store (i := 1) (vs := [.string _]) (L' := (nd9 _ _ _ _ _ _ _ _ _ _ _ _ _ _ _ _ _ _)) ty9 rfl rfl rfl rfl rfl rfl rfl rfl (W.nil (thn_n (WC.seq (WC.region (W.ok (ok_fieldB fd47_5 rfl) (W.store (i := 1) (vs := [.bool _]) (L' := (nd9 _ _ _ _ _ _ _ _ _ _ _ _ _ _ _ _ _ _)) ty4 rfl rfl rfl rfl rfl rfl rfl rfl (W.nil (thn_n ?_))))))))))))))))
  refine WC.seq (WC.region (W.mv (W.ok (ok_fieldB fd47_6 rfl) (W.store (i := 1) (vs := [.int .i64 _]) (L' := (nd9 _ _ _ _ _ _ _ _ _ _ _ _ _ _ _ _ _ _)) ty3 rfl rfl rfl rfl rfl rfl rfl rfl (W.nil (thn_n (WC.seq (WC.region (W.mv (W.ok (ok_fieldB fd47_0 rfl) (W.store (i := 0) (vs := [.int .i64 _]) (L' := (nd9 _ _ _ _ _ _ _ _ _ _ _ _ _ _ _ _ _ _)) ty3 rfl rfl rfl rfl rfl rfl rfl rfl (W.nil (thn_n (WC.seq (WC.drawW _ ((((sr9.k9.cons _).cons _).k9).k9) mix (by rintro _ _ _ _ ⟨h | h, _⟩ <;> cases h) ?_)))))))))))))))
  refine WD.tk 0 rfl (ok_loadB (i := 1) (vs := (nd9 _ _ _ _ _ _ _ _ _ _ _ _ _ _ _ _ _ _)) ty47 rfl rfl rfl rfl (by simp)) (WD.tk 1 rfl (ok_loadB (i := 0) (vs := (nd9 _ _ _ _ _ _ _ _ _ _ _ _ _ _ _ _ _ _)) ty47 rfl rfl rfl rfl (by simp)) (WD.tk 2 rfl (ok_mv) (WD.a1 3 rfl (W.store (i := 3) (vs := (nd9 _ _ _ _ _ _ _ _ _ _ _ _ _ _ _ _ _ _)) (L' := (nd9 _ _ _ _ _ _ _ _ _ _ _ _ _ _ _ _ _ _)) ty47 rfl rfl rfl rfl rfl rfl rfl rfl (W.nil (WD.n9 Le.rfl ((((sr9.k9.cons _).cons _).k9).k9) (WD.a1 4 rfl (W.store (i := 2) (vs := (nd9 _ _ _ _ _ _ _ _ _ _ _ _ _ _ _ _ _ _)) (L' := (nd9 _ _ _ _ _ _ _ _ _ _ _ _ _ _ _ _ _ _)) ty47 rfl rfl rfl rfl rfl rfl rfl rfl (W.nil (WD.n9 Le.rfl ((((sr9.k9.cons _).cons _).k9).k9) (WD.tk 5 rfl (ok_as) (WD.tk 6 rfl (ok_as) (WD.done (by kernel_rfl) (thn_n (WC.ret ?_)))))))))))))))
  refine ⟨.inr rfl, [_, _, _, _], ⟨⟨_, _, _, _, _, rfl, nthM_mem (i := 3) rfl, ty47, (by simp), rfl, rfl⟩, ⟨_, _, _, _, _, rfl, nthM_mem (i := 2) rfl, ty47, (by simp), rfl, rfl⟩, rfl, rfl, trivial⟩, [], sn9, ?_⟩
  refine ⟨rfl, _, (cleave_it p17 (by omega) hri hcl).symm, _, _, rfl, ?_, ?_⟩
  · exact ⟨_, _, _, _, _, _, _, _, rfl, (hc186.mono ((((hG189.trans hG197).trans hG205).trans hG213).trans hG220)), (hc194.mono (((hG197.trans hG205).trans hG213).trans hG220)), (hv214.mono hG220), (hr_n.mono (((((hG181.trans hG189).trans hG197).trans hG205).trans hG213).trans hG220)), ⟨hok_n.1, hok_n.2.1, hi, hok_n.2.2.2⟩⟩
  exact ⟨_, _, _, _, _, _, _, _, rfl, (hc202.mono ((hG205.trans hG213).trans hG220)), (hc210.mono (hG213.trans hG220)), hv221, (hr_n.mono (((((hG181.trans hG189).trans hG197).trans hG205).trans hG213).trans hG220)), ⟨hi, hok_n.2⟩⟩
 refine W.alloc zr47 (fun b227 => (W.nil (WD.n9 Le.rfl (((sr9.k9.k9).k9).cons _) (WD.a1 2 rfl (W.alloc zr47 (fun b228 => (W.nil (WD.n9 Le.rfl ((((sr9.k9.k9).k9).cons _).cons _) (WD.a1 4 rfl (W.store (i := 0) (vs := (nd9 _ _ _ _ _ _ _ _ _ _ _ _ _ _ _ _ _ _)) (L' := (nd9 _ _ _ _ _ _ _ _ _ _ _ _ _ _ _ _ _ _)) ty47 rfl rfl rfl rfl rfl rfl rfl rfl (W.nil (WD.n9 Le.rfl ((((sr9.k9.k9).k9).cons _).cons _) (WD.a1 5 rfl (W.store (i := 1) (vs := (nd9 _ _ _ _ _ _ _ _ _ _ _ _ _ _ _ _ _ _)) (L' := (nd9 _ _ _ _ _ _ _ _ _ _ _ _ _ _ _ _ _ _)) ty47 rfl rfl rfl rfl rfl rfl rfl rfl (W.nil (WD.n9 Le.rfl ((((sr9.k9.k9).k9).cons _).cons _) (WD.tk 6 rfl (ok_as) (WD.done (by kernel_rfl) (thn_n (WC.seq ?_))))))))))))))))))))
 refine WC.seq (WC.region (W.ok (ok_fieldB fd47_1 rfl) (W.ok (ok_loadB (i := 4) (vs := [.int .i64 _]) ty3 rfl rfl rfl rfl (by simp)) (W.ok (ok_eql rfl rfl) (W.nil (thn_n ?_))))))
 refine WC.cond (b := _) rfl (fun h17 => ?_) (fun h17 => ?_)
 ·have p17 := of_decide_eq_true h17
  refine WC.seq (WC.seq (WC.region (W.ok (ok_fieldB fd47_9 rfl) (W.ok (ok_loadB (i := 4) (vs := [.slice _ _ _]) ty41 rfl rfl rfl rfl (by simp)) (W.ok (ok_len sl41 hr_n rfl) (W.ok (ok_lss rfl rfl) (W.nil (thn_n ?_))))))))
  refine WC.cond (b := _) rfl (fun h21 => ?_) (fun h21 => ?_)
  ·have p21 := of_decide_eq_true h21
   refine WC.seq (WC.region (W.ok (ok_build (L := (nd9 _ _ _ _ _ _ _ _ _ _ _ _ _ _ _ _ _ _)) pl47 zr47 rfl rfl rfl) (W.ok (ok_build (L := (nd9 _ _ _ _ _ _ _ _ _ _ _ _ _ _ _ _ _ _)) pl47 zr47 rfl rfl rfl) (W.store (i := 3) (vs := (nd9 _ _ _ _ _ _ _ _ _ _ _ _ _ _ _ _ _ _)) (L' := (nd9 _ _ _ _ _ _ _ _ _ _ _ _ _ _ _ _ _ _)) ty47 rfl rfl rfl rfl rfl rfl rfl rfl (W.store (i := 2) (vs := (nd9 _ _ _ _ _ _ _ _ _ _ _ _ _ _ _ _ _ _)) (L' := (nd9 _ _ _ _ _ _ _ _ _ _ _ _ _ _ _ _ _ _)) ty47 rfl rfl rfl rfl rfl rfl rfl rfl (W.as (W.as (W.nil (thn_n (WC.ret (thn_r (thn_r ?_))))))))))))
   refine ⟨.inr rfl, [_, _, _, _], ⟨⟨_, _, _, _, _, rfl, nthM_mem (i := 3) rfl, ty47, (by simp), rfl, rfl⟩, ⟨_, _, _, _, _, rfl, nthM_mem (i := 2) rfl, ty47, (by simp), rfl, rfl⟩, rfl, rfl, trivial⟩, [], sn9, ?_⟩
   refine ⟨rfl, _, (cleave_lf p17 (by omega)).symm, _, _, rfl, ?_, ?_⟩
   · exact ⟨_, _, _, _, _, _, _, _, rfl, SlR.nil, SlR.nil, SlR.nil, SlR.nil, Nd.zero_ok⟩
   exact ⟨_, _, _, _, _, _, _, _, rfl, SlR.nil, SlR.nil, SlR.nil, SlR.nil, Nd.zero_ok⟩
  have p21 := of_decide_eq_false h21
  refine WC.skip (thn_n (WC.seq (WC.region (W.ok (ok_fieldB fd47_9 rfl) (W.ok (ok_loadB (i := 4) (vs := [.slice _ _ _]) ty41 rfl rfl rfl rfl (by simp)) (W.ok (ok_len sl41 hr_n rfl) (W.ok (ok_add rfl rfl (by omega)) (W.ok (Ok.int (n := ((((n.rows.length + 1) / 2) : Nat) : Int)) (ok_quo' rfl rfl (by omega) (by omega) (by omega)) (by omega)) (W.as (W.nil (thn_n (WC.seq (WC.draw mix (by kernel_rfl) (W.ok (ok_fieldB fd47_9 rfl) (W.ok (ok_loadB (i := 4) (vs := [.slice _ _ _]) ty41 rfl rfl rfl rfl (by simp)) ?_)))))))))))))))
  refine W.mv (W.ok (Ok.int (n := ((((n.rows.length + 1) / 2) - 1 : Nat) : Int)) (ok_sub rfl rfl (by omega)) (by omega)) ?_)
  have q231 := hr_n.at (i := ((n.rows.length + 1) / 2) - 1) (by omega)
  refine match q231 with | ⟨_, he229, e_230⟩ => ?_
  subst e_230
  refine W.ok (ok_indexAddr (i := ((n.rows.length + 1) / 2) - 1) sl41 ty69 hr_n rfl rfl ⟨by omega, by omega⟩) (W.ok (ok_fieldE fd69_0 rfl he229.form) (W.ok (ok_loadE (vs := [.string _]) ty9 he229 rfl rfl rfl (by simp)) (W.ok (ok_fieldB fd47_9 rfl) (W.ok (ok_loadB (i := 4) (vs := [.slice _ _ _]) ty41 rfl rfl rfl rfl (by simp)) (W.mv ?_)))))
  have q234 := hr_n.at (i := ((n.rows.length + 1) / 2)) (by omega)
  refine match q234 with | ⟨_, he232, e_233⟩ => ?_
  subst e_233
  refine W.ok (ok_indexAddr (i := ((n.rows.length + 1) / 2)) sl41 ty69 hr_n rfl rfl ⟨by omega, by omega⟩) (W.ok (ok_fieldE fd69_0 rfl he232.form) (W.ok (ok_loadE (vs := [.string _]) ty9 he232 rfl rfl rfl (by simp)) (W.qcall (rbetween_fc _ _) rfl (W.mv (W.ok (ok_extract rfl rfl) (W.ok (ok_extract rfl rfl) (W.as (W.nil (thn_n (WC.seq (WC.region (W.lit0 (e := ePair) sl41 ty69 zr69 rfl (fun v235 Ms236 ho237 => (W.perm (pmC (pmC (pmC (pmC (pmC pr9))))).symm (W.ok (ok_fieldB fd47_9 rfl) ?_)))))))))))))))
  refine W.ok (ok_loadB (i := 4) (vs := [.slice _ _ _]) ty41 rfl rfl rfl rfl (by simp)) (W.mv ?_)
  have hs238 := SlR.slice hr_n (lo := 0) (hi := ((n.rows.length + 1) / 2)) (by omega) (by omega)
  refine W.ok (ok_slice (0) (((n.rows.length + 1) / 2)) sl41 ty69 hr_n rfl rfl ⟨_, _, rfl, by omega⟩ ⟨by omega, by omega⟩) (W.app (e := ePair) sl41 ty69 zr69 rfl by69 rfl rfl (ho237) (hs238) (pmC (pmC (pmC (pmC (pmC pr9))))) (by show (0 + ((n.rows.take ((n.rows.length + 1) / 2)).drop 0).length) * 32 ≤ _; simp; omega) (fun v239 Ms240 ho241 => (W.perm (pmC (pmC (pmC (pmC (pmC pr9))))).symm (W.ok (ok_fieldB fd47_9 rfl) (W.giveO ho241 (pmC (pmC (pmC (pmC (pmC pr9))))) (fun G242 hG242 hv242 => ?_))))))
  have hc243 := SlR.cast hv242 (l' := n.rows.take ((n.rows.length + 1) / 2)) (by simp)
  have q245 := hc243.form
  refine match q245 with | ⟨_, _, e_244⟩ => ?_
  subst e_244
  refine W.store (i := 0) (vs := [.slice _ _ _]) (L' := (nd9 _ _ _ _ _ _ _ _ _ _ _ _ _ _ _ _ _ _)) ty41 rfl rfl rfl rfl rfl rfl rfl rfl (W.nil (thn_n (WC.region (W.lit0 (e := ePair) sl41 ty69 zr69 rfl (fun v246 Ms247 ho248 => (W.perm (pmC (pmC (pmC (pmC (pmC pr9))))).symm (W.ok (ok_fieldB fd47_9 rfl) (W.ok (ok_loadB (i := 4) (vs := [.slice _ _ _]) ty41 rfl rfl rfl rfl (by simp)) (W.mv ?_)))))))))
  have hs249 := SlR.slice (hr_n.mono hG242) (lo := ((n.rows.length + 1) / 2)) (hi := n.rows.length) (by omega) (by omega)
  refine W.ok (ok_slice (((n.rows.length + 1) / 2)) (n.rows.length) sl41 ty69 (hr_n.mono hG242) rfl ⟨_, _, rfl, by omega⟩ rfl ⟨by omega, by omega⟩) (W.app (e := ePair) sl41 ty69 zr69 rfl by69 rfl rfl (ho248) (hs249) (pmC (pmC (pmC (pmC (pmC pr9))))) (by show (0 + ((n.rows.take n.rows.length).drop ((n.rows.length + 1) / 2)).length) * 32 ≤ _; simp; omega) (fun v250 Ms251 ho252 => (W.perm (pmC (pmC (pmC (pmC (pmC pr9))))).symm (W.ok (ok_fieldB fd47_9 rfl) (W.giveO ho252 (pmC (pmC (pmC (pmC (pmC pr9))))) (fun G253 hG253 hv253 => ?_))))))
  have hc254 := SlR.cast hv253 (l' := n.rows.drop ((n.rows.length + 1) / 2)) (by simp)
  have q256 := hc254.form
  refine match q256 with | ⟨_, _, e_255⟩ => ?_
  subst e_255
  refine W.store (i := 1) (vs := [.slice _ _ _]) (L' := (nd9 _ _ _ _ _ _ _ _ _ _ _ _ _ _ _ _ _ _)) ty41 rfl rfl rfl rfl rfl rfl rfl rfl (W.nil (thn_n (WC.seq (WC.region (W.mv (W.ok (ok_fieldB fd47_4 rfl) (W.store (i := 0) (vs := [.string _]) (L' := (nd9 _ _ _ _ _ _ _ _ _ _ _ _ _ _ _ _ _ _)) ty9 rfl rfl rfl rfl rfl rfl rfl rfl (W.nil (thn_n (WC.seq (WC.region (W.ok (ok_fieldB fd47_5 rfl) (W.store (i := 0) (vs := [.bool _]) (L' := (nd9 _ _ _ _ _ _ _ _ _ _ _ _ _ _ _ _ _ _)) ty4 rfl rfl rfl rfl rfl rfl rfl rfl (W.nil (thn_n (WC.seq ?_))))))))))))))))
  refine WC.region (W.mv (W.ok (ok_fieldB fd47_6 rfl) (W.store (i := 0) (vs := [.int .i64 _]) (L' := (nd9 _ _ _ _ _ _ _ _ _ _ _ _ _ _ _ _ _ _)) ty3 rfl rfl rfl rfl rfl rfl rfl rfl (W.nil (thn_n (WC.seq (WC.region (W.mv (W.ok (ok_fieldB fd47_0 rfl) (W.store (i := 1) (vs := [.int .i64 _]) (L' := (nd9 _ _ _ _ _ _ _ _ _ _ _ _ _ _ _ _ _ _)) ty3 rfl rfl rfl rfl rfl rfl rfl rfl (W.nil (thn_n (WC.seq (WC.drawW _ ((((sr9.k9.cons _).cons _).k9).k9) mix (by rintro _ _ _ _ ⟨h | h, _⟩ <;> cases h) (WD.tk 0 rfl (ok_loadB (i := 0) (vs := (nd9 _ _ _ _ _ _ _ _ _ _ _ _ _ _ _ _ _ _)) ty47 rfl rfl rfl rfl (by simp)) ?_)))))))))))))))
  refine WD.tk 1 rfl (ok_loadB (i := 1) (vs := (nd9 _ _ _ _ _ _ _ _ _ _ _ _ _ _ _ _ _ _)) ty47 rfl rfl rfl rfl (by simp)) (WD.tk 2 rfl (ok_mv) (WD.a1 3 rfl (W.store (i := 3) (vs := (nd9 _ _ _ _ _ _ _ _ _ _ _ _ _ _ _ _ _ _)) (L' := (nd9 _ _ _ _ _ _ _ _ _ _ _ _ _ _ _ _ _ _)) ty47 rfl rfl rfl rfl rfl rfl rfl rfl (W.nil (WD.n9 Le.rfl ((((sr9.k9.cons _).cons _).k9).k9) (WD.a1 4 rfl (W.store (i := 2) (vs := (nd9 _ _ _ _ _ _ _ _ _ _ _ _ _ _ _ _ _ _)) (L' := (nd9 _ _ _ _ _ _ _ _ _ _ _ _ _ _ _ _ _ _)) ty47 rfl rfl rfl rfl rfl rfl rfl rfl (W.nil (WD.n9 Le.rfl ((((sr9.k9.cons _).cons _).k9).k9) (WD.tk 5 rfl (ok_as) (WD.tk 6 rfl (ok_as) (WD.done (by kernel_rfl) (thn_n (WC.ret ?_))))))))))))))
  refine ⟨.inr rfl, [_, _, _, _], ⟨⟨_, _, _, _, _, rfl, nthM_mem (i := 3) rfl, ty47, (by simp), rfl, rfl⟩, ⟨_, _, _, _, _, rfl, nthM_mem (i := 2) rfl, ty47, (by simp), rfl, rfl⟩, rfl, rfl, trivial⟩, [], sn9, ?_⟩
  refine ⟨rfl, _, (cleave_lt p17 (by omega)).symm, _, _, rfl, ?_, ?_⟩
  · exact ⟨_, _, _, _, _, _, _, _, rfl, (hp_n.mono (hG242.trans hG253)), (hk_n.mono (hG242.trans hG253)), (hm_n.mono (hG242.trans hG253)), (hc243.mono hG253), ⟨hok_n.1, hok_n.2.1, hi, hok_n.2.2.2⟩⟩
  exact ⟨_, _, _, _, _, _, _, _, rfl, (hp_n.mono (hG242.trans hG253)), (hk_n.mono (hG242.trans hG253)), (hm_n.mono (hG242.trans hG253)), hc254, ⟨hi, hok_n.2⟩⟩
 have p17 := of_decide_eq_false h17
 refine WC.seq (WC.seq (WC.region (W.ok (ok_fieldB fd47_3 rfl) (W.ok (ok_loadB (i := 4) (vs := [.slice _ _ _]) ty44 rfl rfl rfl rfl (by simp)) (W.ok (ok_len sl44 hk_n rfl) (W.ok (ok_lss rfl rfl) (W.mv ?_)))))))
 refine W.sp 64 rfl (fun h63 => ?_) (fun h63 => ?_)
 ·have p63 := of_decide_eq_true h63
  refine W.no (dj := 64) rfl rfl h63 (W.no (dj := 64) rfl rfl h63 (W.no (dj := 64) rfl rfl h63 (W.no (dj := 64) rfl rfl h63 (W.no (dj := 64) rfl rfl h63 (W.no (dj := 64) rfl rfl h63 (W.ok (ok_pick_t rfl h63) (W.nil (thn_n (WC.cond_t rfl rfl (WC.seq (WC.region (W.ok (ok_build (L := (nd9 _ _ _ _ _ _ _ _ _ _ _ _ _ _ _ _ _ _)) pl47 zr47 rfl rfl rfl) (W.ok (ok_build (L := (nd9 _ _ _ _ _ _ _ _ _ _ _ _ _ _ _ _ _ _)) pl47 zr47 rfl rfl rfl) (W.store (i := 3) (vs := (nd9 _ _ _ _ _ _ _ _ _ _ _ _ _ _ _ _ _ _)) (L' := (nd9 _ _ _ _ _ _ _ _ _ _ _ _ _ _ _ _ _ _)) ty47 rfl rfl rfl rfl rfl rfl rfl rfl ?_))))))))))))))
  refine W.store (i := 2) (vs := (nd9 _ _ _ _ _ _ _ _ _ _ _ _ _ _ _ _ _ _)) (L' := (nd9 _ _ _ _ _ _ _ _ _ _ _ _ _ _ _ _ _ _)) ty47 rfl rfl rfl rfl rfl rfl rfl rfl (W.as (W.as (W.nil (thn_n (WC.ret (thn_r (thn_r ?_)))))))
  refine ⟨.inr rfl, [_, _, _, _], ⟨⟨_, _, _, _, _, rfl, nthM_mem (i := 3) rfl, ty47, (by simp), rfl, rfl⟩, ⟨_, _, _, _, _, rfl, nthM_mem (i := 2) rfl, ty47, (by simp), rfl, rfl⟩, rfl, rfl, trivial⟩, [], sn9, ?_⟩
  refine ⟨rfl, _, (cleave_if p17 (by omega)).symm, _, _, rfl, ?_, ?_⟩
  · exact ⟨_, _, _, _, _, _, _, _, rfl, SlR.nil, SlR.nil, SlR.nil, SlR.nil, Nd.zero_ok⟩
  exact ⟨_, _, _, _, _, _, _, _, rfl, SlR.nil, SlR.nil, SlR.nil, SlR.nil, Nd.zero_ok⟩
 have p63 := of_decide_eq_false h63
 refine W.yes (dj := 64) rfl rfl h63 (W.ok (ok_fieldB fd47_2 rfl) (W.yes (dj := 64) rfl rfl h63 (W.ok (ok_loadB (i := 4) (vs := [.slice _ _ _]) ty43 rfl rfl rfl rfl (by simp)) (W.yes (dj := 64) rfl rfl h63 (W.ok (ok_fieldB fd47_3 rfl) (W.yes (dj := 64) rfl rfl h63 (W.ok (ok_loadB (i := 4) (vs := [.slice _ _ _]) ty44 rfl rfl rfl rfl (by simp)) (W.yes (dj := 64) rfl rfl h63 (W.qcall (rright_fc hp_n hk_n) rfl (W.yes (dj := 64) rfl rfl h63 (W.ok (ok_not rfl) (W.ok (ok_pick_f rfl h63) (W.nil (thn_n ?_))))))))))))))
 refine WC.cond (b := _) rfl (fun h70 => ?_) (fun h70 => ?_)
 ·refine WC.seq (WC.region (W.ok (ok_build (L := (nd9 _ _ _ _ _ _ _ _ _ _ _ _ _ _ _ _ _ _)) pl47 zr47 rfl rfl rfl) (W.ok (ok_build (L := (nd9 _ _ _ _ _ _ _ _ _ _ _ _ _ _ _ _ _ _)) pl47 zr47 rfl rfl rfl) (W.store (i := 3) (vs := (nd9 _ _ _ _ _ _ _ _ _ _ _ _ _ _ _ _ _ _)) (L' := (nd9 _ _ _ _ _ _ _ _ _ _ _ _ _ _ _ _ _ _)) ty47 rfl rfl rfl rfl rfl rfl rfl rfl (W.store (i := 2) (vs := (nd9 _ _ _ _ _ _ _ _ _ _ _ _ _ _ _ _ _ _)) (L' := (nd9 _ _ _ _ _ _ _ _ _ _ _ _ _ _ _ _ _ _)) ty47 rfl rfl rfl rfl rfl rfl rfl rfl (W.as (W.as (W.nil (thn_n (WC.ret (thn_r (thn_r ?_))))))))))))
  refine ⟨.inr rfl, [_, _, _, _], ⟨⟨_, _, _, _, _, rfl, nthM_mem (i := 3) rfl, ty47, (by simp), rfl, rfl⟩, ⟨_, _, _, _, _, rfl, nthM_mem (i := 2) rfl, ty47, (by simp), rfl, rfl⟩, rfl, rfl, trivial⟩, [], sn9, ?_⟩
  refine ⟨rfl, _, (cleave_if p17 (.inr (by simpa using h70))).symm, _, _, rfl, ?_, ?_⟩
  · exact ⟨_, _, _, _, _, _, _, _, rfl, SlR.nil, SlR.nil, SlR.nil, SlR.nil, Nd.zero_ok⟩
  exact ⟨_, _, _, _, _, _, _, _, rfl, SlR.nil, SlR.nil, SlR.nil, SlR.nil, Nd.zero_ok⟩
 have hri : rightN n.pivots n.kids.length = true := by simpa using h70
 have hcl := (rightN_spec hri).2
 refine WC.skip (thn_n (WC.seq (WC.region (W.ok (ok_fieldB fd47_3 rfl) (W.ok (ok_loadB (i := 4) (vs := [.slice _ _ _]) ty44 rfl rfl rfl rfl (by simp)) (W.ok (ok_len sl44 hk_n rfl) (W.ok (ok_add rfl rfl (by omega)) (W.ok (Ok.int (n := ((((n.kids.length + 1) / 2) : Nat) : Int)) (ok_quo' rfl rfl (by omega) (by omega) (by omega)) (by omega)) (W.as (W.nil (thn_n (WC.seq (WC.region (W.ok (ok_fieldB fd47_2 rfl) (W.ok (ok_loadB (i := 4) (vs := [.slice _ _ _]) ty43 rfl rfl rfl rfl (by simp)) ?_)))))))))))))))
 refine W.mv (W.ok (Ok.int (n := ((((n.kids.length + 1) / 2) - 1 : Nat) : Int)) (ok_sub rfl rfl (by omega)) (by omega)) ?_)
 have q259 := hp_n.at (i := ((n.kids.length + 1) / 2) - 1) (by omega)
 refine match q259 with | ⟨_, he257, e_258⟩ => ?_
 subst e_258
 refine W.ok (ok_indexAddr (i := ((n.kids.length + 1) / 2) - 1) sl43 ty9 hp_n rfl rfl ⟨by omega, by omega⟩) (W.ok (ok_loadE (vs := [.string _]) ty9 he257 rfl rfl rfl (by simp)) (W.as (W.nil (thn_n (WC.seq (WC.drawW _ ((((sr9.k9.k9).k9).k9).cons _) mix (by rintro _ _ _ _ ⟨h | h, _⟩ <;> cases h) (WD.tk 0 rfl (ok_fieldB fd47_2 rfl) (WD.tk 1 rfl (ok_loadB (i := 3) (vs := [.slice _ _ _]) ty43 rfl rfl rfl rfl (by simp)) (WD.tk 2 rfl (ok_mv) (WD.tk 3 rfl (Ok.int (n := ((((n.kids.length + 1) / 2) - 1 : Nat) : Int)) (ok_sub rfl rfl (by omega)) (by omega)) (WD.tk 5 rfl (ok_fieldB fd47_3 rfl) (WD.tk 6 rfl (ok_loadB (i := 3) (vs := [.slice _ _ _]) ty44 rfl rfl rfl rfl (by simp)) (WD.tk 7 rfl (ok_mv) (WD.a1 4 rfl ?_))))))))))))))
 refine W.call (Mp := []) (cut_fc hp_n 0 _ ⟨by omega, by omega⟩) rfl pr9 ?_
 intro _ G260 _ hG260 q262
 refine match q262 with | ⟨e_263, _, e_264, hv261⟩ => ?_
 subst e_263
 subst e_264
 have hc265 := SlR.cast hv261 (l' := n.pivots.take (((n.kids.length + 1) / 2) - 1)) (by simp)
 have q267 := hc265.form
 refine match q267 with | ⟨sa_hc265, sc_hc265, e_266⟩ => ?_
 subst e_266
 refine W.nil (WD.n9 hG260 ((((sr9.k9.k9).k9).k9).cons _) (WD.tk 9 rfl (ok_fieldB fd47_2 rfl) (WD.a1 8 rfl (W.call (Mp := []) (part_fc (hk_n.mono hG260) 0 _ ⟨by omega, by omega⟩) rfl pr9 ?_))))
 intro _ G268 _ hG268 q270
 refine match q270 with | ⟨e_271, _, e_272, hv269⟩ => ?_
 subst e_271
 subst e_272
 have hc273 := SlR.cast hv269 (l' := n.kids.take ((n.kids.length + 1) / 2)) (by simp)
 have q275 := hc273.form
 refine match q275 with | ⟨sa_hc273, sc_hc273, e_274⟩ => ?_
 subst e_274
 refine W.nil (WD.n9 hG268 ((((sr9.k9.k9).k9).k9).cons _) (WD.a1 10 rfl (W.store (i := 0) (vs := [.slice _ _ _]) (L' := (nd9 _ _ _ _ _ _ _ _ _ _ _ _ _ _ _ _ _ _)) ty43 rfl rfl rfl rfl rfl rfl rfl rfl (W.nil (WD.n9 Le.rfl ((((sr9.k9.k9).k9).k9).cons _) (WD.tk 11 rfl (ok_fieldB fd47_3 rfl) (WD.a1 12 rfl (W.store (i := 0) (vs := [.slice _ _ _]) (L' := (nd9 _ _ _ _ _ _ _ _ _ _ _ _ _ _ _ _ _ _)) ty44 rfl rfl rfl rfl rfl rfl rfl rfl (W.nil (WD.n9 Le.rfl ((((sr9.k9.k9).k9).k9).cons _) (WD.done (by kernel_rfl) (thn_n (WC.seq (WC.drawW _ ((((sr9.k9.k9).k9).cons _).k9) mix (by rintro _ _ _ _ ⟨h | h, _⟩ <;> cases h) (WD.tk 0 rfl (ok_fieldB fd47_2 rfl) (WD.tk 1 rfl (ok_loadB (i := 3) (vs := [.slice _ _ _]) ty43 rfl rfl rfl rfl (by simp)) (WD.tk 2 rfl (ok_mv) ?_)))))))))))))))))
 refine WD.tk 3 rfl (ok_fieldB fd47_2 rfl) (WD.tk 4 rfl (ok_loadB (i := 3) (vs := [.slice _ _ _]) ty43 rfl rfl rfl rfl (by simp)) (WD.tk 5 rfl (ok_len sl43 (hp_n.mono (hG260.trans hG268)) rfl) (WD.tk 7 rfl (ok_fieldB fd47_3 rfl) (WD.tk 8 rfl (ok_loadB (i := 3) (vs := [.slice _ _ _]) ty44 rfl rfl rfl rfl (by simp)) (WD.tk 9 rfl (ok_mv) (WD.tk 10 rfl (ok_fieldB fd47_3 rfl) (WD.tk 11 rfl (ok_loadB (i := 3) (vs := [.slice _ _ _]) ty44 rfl rfl rfl rfl (by simp)) (WD.tk 12 rfl (ok_len sl44 (hk_n.mono (hG260.trans hG268)) rfl) (WD.a1 6 rfl (W.call (Mp := []) (cut_fc (hp_n.mono (hG260.trans hG268)) _ _ ⟨by omega, by omega⟩) rfl pr9 ?_))))))))))
 intro _ G276 _ hG276 q278
 refine match q278 with | ⟨e_279, _, e_280, hv277⟩ => ?_
 subst e_279
 subst e_280
 have hc281 := SlR.cast hv277 (l' := n.pivots.drop ((n.kids.length + 1) / 2)) (by simp)
 have q283 := hc281.form
 refine match q283 with | ⟨sa_hc281, sc_hc281, e_282⟩ => ?_
 subst e_282
 refine W.nil (WD.n9 hG276 ((((sr9.k9.k9).k9).cons _).k9) (WD.tk 14 rfl (ok_fieldB fd47_2 rfl) (WD.a1 13 rfl (W.call (Mp := []) (part_fc (hk_n.mono ((hG260.trans hG268).trans hG276)) _ _ ⟨by omega, by omega⟩) rfl pr9 ?_))))
 intro _ G284 _ hG284 q286
 refine match q286 with | ⟨e_287, _, e_288, hv285⟩ => ?_
 subst e_287
 subst e_288
 have hc289 := SlR.cast hv285 (l' := n.kids.drop ((n.kids.length + 1) / 2)) (by simp)
 have q291 := hc289.form
 refine match q291 with | ⟨sa_hc289, sc_hc289, e_290⟩ => ?_
 subst e_290
 refine W.nil (WD.n9 hG284 ((((sr9.k9.k9).k9).cons _).k9) (WD.a1 15 rfl (W.store (i := 1) (vs := [.slice _ _ _]) (L' := (nd9 _ _ _ _ _ _ _ _ _ _ _ _ _ _ _ _ _ _)) ty43 rfl rfl rfl rfl rfl rfl rfl rfl (W.nil (WD.n9 Le.rfl ((((sr9.k9.k9).k9).cons _).k9) (WD.tk 16 rfl (ok_fieldB fd47_3 rfl) (WD.a1 17 rfl (W.store (i := 1) (vs := [.slice _ _ _]) (L' := (nd9 _ _ _ _ _ _ _ _ _ _ _ _ _ _ _ _ _ _)) ty44 rfl rfl rfl rfl rfl rfl rfl rfl (W.nil (WD.n9 Le.rfl ((((sr9.k9.k9).k9).cons _).k9) (WD.done (by kernel_rfl) (thn_n (WC.seq (WC.region (W.ok (ok_fieldB fd47_8 rfl) (W.ok (ok_loadB (i := 4) (vs := [.slice _ _ _]) ty45 rfl rfl rfl rfl (by simp)) (W.mv ?_)))))))))))))))))
 refine W.ok (ok_build (L := [.string _, .string _, .bool _]) pl52 zr52 rfl rfl rfl) (W.call (Mp := []) (rclips_fc (hm_n.mono (((hG260.trans hG268).trans hG276).trans hG284)) Str.nil _ _ (by assumption)) rfl pr9 ?_)
 intro _ G292 _ hG292 q294
 refine match q294 with | ⟨e_295, _, e_296, hv293⟩ => ?_
 subst e_295
 subst e_296
 have q298 := hv293.form
 refine match q298 with | ⟨sa_hv293, sc_hv293, e_297⟩ => ?_
 subst e_297
 refine W.ok (ok_fieldB fd47_8 rfl) (W.store (i := 0) (vs := [.slice _ _ _]) (L' := (nd9 _ _ _ _ _ _ _ _ _ _ _ _ _ _ _ _ _ _)) ty45 rfl rfl rfl rfl rfl rfl rfl rfl (W.nil (thn_n (WC.region (W.ok (ok_fieldB fd47_8 rfl) (W.ok (ok_loadB (i := 4) (vs := [.slice _ _ _]) ty45 rfl rfl rfl rfl (by simp)) (W.mv (W.ok (ok_build (L := [.string _, .string _, .bool _]) pl52 zr52 rfl rfl rfl) (W.call (Mp := []) (rclips_fc (hm_n.mono ((((hG260.trans hG268).trans hG276).trans hG284).trans hG292)) _ Str.nil _ (by assumption)) rfl pr9 ?_)))))))))
 intro _ G299 _ hG299 q301
 refine match q301 with | ⟨e_302, _, e_303, hv300⟩ => ?_
 subst e_302
 subst e_303
 have q305 := hv300.form
 refine match q305 with | ⟨sa_hv300, sc_hv300, e_304⟩ => ?_
 subst e_304
 refine W.ok (ok_fieldB fd47_8 rfl) (W.store (i := 1) (vs := [.slice _ _ _]) (L' := (nd9 _ _ _ _ _ _ _ _ _ _ _ _ _ _ _ _ _ _)) ty45 rfl rfl rfl rfl rfl rfl rfl rfl (W.nil (thn_n (WC.seq (WC.region (W.mv (W.ok (ok_fieldB fd47_4 rfl) (W.store (i := 0) (vs := [.string _]) (L' := (nd9 _ _ _ _ _ _ _ _ _ _ _ _ _ _ _ _ _ _)) ty9 rfl rfl rfl rfl rfl rfl rfl rfl (W.nil (thn_n (WC.seq (WC.region (W.ok (ok_fieldB fd47_5 rfl) (W.store (i := 0) (vs := [.bool _]) (L' := (nd9 _ _ _ _ _ _ _ _ _ _ _ _ _ _ _ _ _ _)) ty4 rfl rfl rfl rfl rfl rfl rfl rfl (W.nil (thn_n ?_))))))))))))))))
 refine WC.seq (WC.region (W.mv (W.ok (ok_fieldB fd47_6 rfl) (W.store (i := 0) (vs := [.int .i64 _]) (L' := (nd9 _ _ _ _ _ _ _ _ _ _ _ _ _ _ _ _ _ _)) ty3 rfl rfl rfl rfl rfl rfl rfl rfl (W.nil (thn_n (WC.seq (WC.region (W.mv (W.ok (ok_fieldB fd47_0 rfl) (W.store (i := 1) (vs := [.int .i64 _]) (L' := (nd9 _ _ _ _ _ _ _ _ _ _ _ _ _ _ _ _ _ _)) ty3 rfl rfl rfl rfl rfl rfl rfl rfl (W.nil (thn_n (WC.seq (WC.drawW _ ((((sr9.k9.cons _).cons _).k9).k9) mix (by rintro _ _ _ _ ⟨h | h, _⟩ <;> cases h) ?_)))))))))))))))
 refine WD.tk 0 rfl (ok_loadB (i := 0) (vs := (nd9 _ _ _ _ _ _ _ _ _ _ _ _ _ _ _ _ _ _)) ty47 rfl rfl rfl rfl (by simp)) (WD.tk 1 rfl (ok_loadB (i := 1) (vs := (nd9 _ _ _ _ _ _ _ _ _ _ _ _ _ _ _ _ _ _)) ty47 rfl rfl rfl rfl (by simp)) (WD.tk 2 rfl (ok_mv) (WD.a1 3 rfl (W.store (i := 3) (vs := (nd9 _ _ _ _ _ _ _ _ _ _ _ _ _ _ _ _ _ _)) (L' := (nd9 _ _ _ _ _ _ _ _ _ _ _ _ _ _ _ _ _ _)) ty47 rfl rfl rfl rfl rfl rfl rfl rfl (W.nil (WD.n9 Le.rfl ((((sr9.k9.cons _).cons _).k9).k9) (WD.a1 4 rfl (W.store (i := 2) (vs := (nd9 _ _ _ _ _ _ _ _ _ _ _ _ _ _ _ _ _ _)) (L' := (nd9 _ _ _ _ _ _ _ _ _ _ _ _ _ _ _ _ _ _)) ty47 rfl rfl rfl rfl rfl rfl rfl rfl (W.nil (WD.n9 Le.rfl ((((sr9.k9.cons _).cons _).k9).k9) (WD.tk 5 rfl (ok_as) (WD.tk 6 rfl (ok_as) (WD.done (by kernel_rfl) (thn_n (WC.ret ?_)))))))))))))))
 refine ⟨.inr rfl, [_, _, _, _], ⟨⟨_, _, _, _, _, rfl, nthM_mem (i := 3) rfl, ty47, (by simp), rfl, rfl⟩, ⟨_, _, _, _, _, rfl, nthM_mem (i := 2) rfl, ty47, (by simp), rfl, rfl⟩, rfl, rfl, trivial⟩, [], sn9, ?_⟩
 refine ⟨rfl, _, (cleave_it p17 (by omega) hri hcl).symm, _, _, rfl, ?_, ?_⟩
 · exact ⟨_, _, _, _, _, _, _, _, rfl, (hc265.mono ((((hG268.trans hG276).trans hG284).trans hG292).trans hG299)), (hc273.mono (((hG276.trans hG284).trans hG292).trans hG299)), (hv293.mono hG299), (hr_n.mono (((((hG260.trans hG268).trans hG276).trans hG284).trans hG292).trans hG299)), ⟨hok_n.1, hok_n.2.1, hi, hok_n.2.2.2⟩⟩
 exact ⟨_, _, _, _, _, _, _, _, rfl, (hc281.mono ((hG284.trans hG292).trans hG299)), (hc289.mono (hG292.trans hG299)), hv300, (hr_n.mono (((((hG260.trans hG268).trans hG276).trans hG284).trans hG292).trans hG299)), ⟨hi, hok_n.2⟩⟩

end Go.Proofs.YtebkfinhhpelbaaGreat
