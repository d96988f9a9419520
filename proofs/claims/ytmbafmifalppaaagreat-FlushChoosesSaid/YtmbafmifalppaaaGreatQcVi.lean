/- Walks of messages that a kid takes. -/
import Derived.Test.YtmbafmifalppaaaGreatQcVg
import Derived.Test.YtmbafmifalppaaaGreatQcUb
set_option maxRecDepth 100000
set_option maxHeartbeats 1600000
set_option linter.unusedVariables false
set_option linter.unusedSimpArgs false
set_option linter.unnecessarySimpa false
namespace Go.Proofs.YtmbafmifalppaaaGreat
open Go Go.Fw Go.RowKit
theorem pright_fc {G : GH} {cs_p : List Value} {p : Nd} (h_p : NodeC G cs_p p) {cs_k : List Value} {k : Nd} (h_k : NodeC G cs_k k) (i : Int) :
    Fc Tryz.prog 126 [.agg (List.toArray cs_p), .agg (List.toArray cs_k), .int .i64 i] G [] (fun v _ _ => v = .bool (decide (KidOf p k i))) := by
 obtain ⟨pa_p, pc_p, ka_p, kc_p, ma_p, mc_p, ra_p, rc_p, rfl, hp_p, hk_p, hm_p, hr_p, hok_p⟩ := h_p
 obtain ⟨pa_k, pc_k, ka_k, kc_k, ma_k, mc_k, ra_k, rc_k, rfl, hp_k, hk_k, hm_k, hr_k, hok_k⟩ := h_k
 have hlk := hk_p.len47
 obtain ⟨hlv1, hlv2⟩ := hok_p.2.1
 refine Fc.intro (rs := [.tmp 6]) cl126 Tryz.func126 rfl Tryz.ntmps126 rfl rfl (fun w0 => ?_)
 refine WC.seq (WC.region (W.box (L := (nd9 _ _ _ _ _ _ _ _ _ _ _ _ _ _ _ _ _ _)) rfl rfl (fun b1 => (W.box (L := (nd9 _ _ _ _ _ _ _ _ _ _ _ _ _ _ _ _ _ _)) rfl rfl (fun b2 => (W.as (W.nil (thn_n (WC.seq (WC.region (W.ok (ok_fieldB fd43_1 rfl) (W.ok (ok_loadB (i := 1) (vs := [.int .i64 _]) ty3 rfl rfl rfl rfl (by simp)) (W.ok (ok_geq rfl rfl) (W.mv ?_))))))))))))))
 refine W.sp 10 rfl (fun h9 => ?_) (fun h9 => ?_)
 ·have p9 := of_decide_eq_true h9
  refine W.yes (dj := 10) rfl rfl h9 (W.ok (ok_fieldB fd43_1 rfl) (W.yes (dj := 10) rfl rfl h9 (W.ok (ok_loadB (i := 0) (vs := [.int .i64 _]) ty3 rfl rfl rfl rfl (by simp)) (W.yes (dj := 10) rfl rfl h9 (W.ok (ok_fieldB fd43_1 rfl) (W.yes (dj := 10) rfl rfl h9 (W.ok (ok_loadB (i := 1) (vs := [.int .i64 _]) ty3 rfl rfl rfl rfl (by simp)) (W.yes (dj := 10) rfl rfl h9 (W.ok (ok_sub rfl rfl (by omega)) (W.yes (dj := 10) rfl rfl h9 (W.ok (ok_eql rfl rfl) (W.ok (ok_pick_t rfl h9) (W.mv ?_)))))))))))))
  refine W.sp 18 rfl (fun h16 => ?_) (fun h16 => ?_)
  ·have p16 := of_decide_eq_true h16
   refine W.yes (dj := 18) rfl rfl h16 (W.mv (W.yes (dj := 18) rfl rfl h16 (W.ok (ok_geq rfl rfl) (W.ok (ok_pick_t rfl h16) (W.mv ?_)))))
   refine W.sp 22 rfl (fun h20 => ?_) (fun h20 => ?_)
   ·have p20 := of_decide_eq_true h20
    refine W.yes (dj := 22) rfl rfl h20 (W.mv (W.yes (dj := 22) rfl rfl h20 (W.ok (ok_fieldB fd43_3 rfl) (W.yes (dj := 22) rfl rfl h20 (W.ok (ok_loadB (i := 1) (vs := [.slice _ _ _]) ty39 rfl rfl rfl rfl (by simp)) (W.yes (dj := 22) rfl rfl h20 (W.ok (ok_len sl39 hk_p rfl) (W.yes (dj := 22) rfl rfl h20 (W.ok (ok_lss rfl rfl) (W.ok (ok_pick_t rfl h20) (W.as (W.nil (thn_n (WC.ret ?_))))))))))))))
    refine ⟨.inr rfl, [_], ⟨rfl, trivial⟩, [], sn9, ?_⟩
    refine congrArg Value.bool ?_
    exact decide_eq_decide.2 ⟨fun h => ⟨by omega, p16, by omega, h⟩, fun h => h.2.2.2⟩
   have p20 := of_decide_eq_false h20
   refine W.no (dj := 22) rfl rfl h20 (W.no (dj := 22) rfl rfl h20 (W.no (dj := 22) rfl rfl h20 (W.no (dj := 22) rfl rfl h20 (W.no (dj := 22) rfl rfl h20 (W.ok (ok_pick_f rfl h20) (W.as (W.nil (thn_n (WC.ret ?_)))))))))
   refine ⟨.inr rfl, [_], ⟨rfl, trivial⟩, [], sn9, ?_⟩
   refine congrArg Value.bool ?_
   exact (decide_eq_false fun h => by unfold KidOf at h; omega).symm
  have p16 := of_decide_eq_false h16
  refine W.no (dj := 18) rfl rfl h16 (W.no (dj := 18) rfl rfl h16 (W.ok (ok_pick_f rfl h16) (W.mv (W.no (dj := 22) rfl rfl rfl (W.no (dj := 22) rfl rfl rfl (W.no (dj := 22) rfl rfl rfl (W.no (dj := 22) rfl rfl rfl (W.no (dj := 22) rfl rfl rfl (W.ok (ok_pick_f rfl rfl) (W.as (W.nil (thn_n (WC.ret ?_)))))))))))))
  refine ⟨.inr rfl, [_], ⟨rfl, trivial⟩, [], sn9, ?_⟩
  refine congrArg Value.bool ?_
  exact (decide_eq_false fun h => by unfold KidOf at h; omega).symm
 have p9 := of_decide_eq_false h9
 refine W.no (dj := 10) rfl rfl h9 (W.no (dj := 10) rfl rfl h9 (W.no (dj := 10) rfl rfl h9 (W.no (dj := 10) rfl rfl h9 (W.no (dj := 10) rfl rfl h9 (W.no (dj := 10) rfl rfl h9 (W.ok (ok_pick_f rfl h9) (W.mv (W.no (dj := 18) rfl rfl rfl (W.no (dj := 18) rfl rfl rfl (W.ok (ok_pick_f rfl rfl) (W.mv (W.no (dj := 22) rfl rfl rfl (W.no (dj := 22) rfl rfl rfl ?_)))))))))))))
 refine W.no (dj := 22) rfl rfl rfl (W.no (dj := 22) rfl rfl rfl (W.no (dj := 22) rfl rfl rfl (W.ok (ok_pick_f rfl rfl) (W.as (W.nil (thn_n (WC.ret ?_)))))))
 refine ⟨.inr rfl, [_], ⟨rfl, trivial⟩, [], sn9, ?_⟩
 refine congrArg Value.bool ?_
 exact (decide_eq_false fun h => by unfold KidOf at h; omega).symm

theorem moved_fc {G : GH} (cf : Int) (cl : Int) (cb : Int) (cs : Int) (cr : Int) {cs_p : List Value} {p : Nd} (h_p : NodeC G cs_p p) {cs_k : List Value} {k : Nd} (h_k : NodeC G cs_k k) (i : Int) (hb : 0 ≤ cb ∧ cb ≤ 9223372036854775807) (hr : rising p.pivots = true) (hpv : ∀ q ∈ p.pivots, q.b.size ≤ 16) (hpm : ∀ m ∈ p.msgs, m.R) (hkm : ∀ m ∈ k.msgs, m.key.b.size ≤ 16 ∧ m.val.b.size ≤ 16) (hkr : PairsR k.rows) (hi : i64 i) (hsz : k.msgs.length + p.msgs.length ≤ 100000 ∧ k.rows.length ≤ 100000) :
    Fc Tryz.prog 127 [.agg #[.int .i64 cf, .int .i64 cl, .int .i64 cb, .int .i64 cs, .int .i64 cr], .agg (List.toArray cs_p), .agg (List.toArray cs_k), .int .i64 i] G [] (fun v G' M' => M' = [] ∧ ∃ r : Nd × Nat, r = movedN cl cb k (forN p.pivots p.msgs i) ∧ ∃ u0 u1, v = .tuple #[.agg (List.toArray u0), u1] ∧ NodeC G' u0 (r.1) ∧ SlR eMsg G' u1 ((forN p.pivots p.msgs i).take r.2)) := by
 obtain ⟨pa_p, pc_p, ka_p, kc_p, ma_p, mc_p, ra_p, rc_p, rfl, hp_p, hk_p, hm_p, hr_p, hok_p⟩ := h_p
 obtain ⟨pa_k, pc_k, ka_k, kc_k, ma_k, mc_k, ra_k, rc_k, rfl, hp_k, hk_k, hm_k, hr_k, hok_k⟩ := h_k
 have hfR : ∀ m ∈ (forN p.pivots p.msgs i), m.R := for_R hpv hpm
 have hfl := for_len p.pivots p.msgs i
 have hpk : ∀ m ∈ p.msgs, m.key.b.size < 140737488355328 := fun m h => by have := (msgR_key (hpm m h)).1; omega
 have hdl := drain_le cl (forN p.pivots p.msgs i) k.rows
 refine Fc.intro (rs := [.cell 8 43, .tmp 9]) cl127 Tryz.func127 rfl Tryz.ntmps127 rfl rfl (fun w0 => ?_)
 refine WC.seq (WC.region (W.box (L := [.int .i64 _, .int .i64 _, .int .i64 _, .int .i64 _, .int .i64 _]) rfl rfl (fun b3 => (W.box (L := (nd9 _ _ _ _ _ _ _ _ _ _ _ _ _ _ _ _ _ _)) rfl rfl (fun b4 => (W.box (L := (nd9 _ _ _ _ _ _ _ _ _ _ _ _ _ _ _ _ _ _)) rfl rfl (fun b5 => (W.alloc zr43 (fun b6 => (W.as (W.nil (thn_n (WC.seq (WC.region (W.ok (ok_fieldB fd43_2 rfl) (W.ok (ok_loadB (i := 2) (vs := [.slice _ _ _]) ty38 rfl rfl rfl rfl (by simp)) (W.ok (ok_fieldB fd43_8 rfl) (W.ok (ok_loadB (i := 2) (vs := [.slice _ _ _]) ty40 rfl rfl rfl rfl (by simp)) ?_))))))))))))))))))
 refine W.mv (W.call (Mp := []) (for_fc hp_p hm_p i hpk hr hi) rfl pr9 ?_)
 intro _ G7 _ hG7 q9
 refine match q9 with | ⟨e_10, _, e_11, hv8⟩ => ?_
 subst e_10
 subst e_11
 have q13 := hv8.form
 refine match q13 with | ⟨sa_hv8, sc_hv8, e_12⟩ => ?_
 subst e_12
 refine W.as (W.nil (thn_n (WC.seq (WC.region (W.ok (ok_loadB (i := 1) (vs := (nd9 _ _ _ _ _ _ _ _ _ _ _ _ _ _ _ _ _ _)) ty43 rfl rfl rfl rfl (by simp)) (W.call (Mp := []) (ncopy_fc (a := k) ⟨_, _, _, _, _, _, _, _, rfl, (hp_k.mono hG7), (hk_k.mono hG7), (hm_k.mono hG7), (hr_k.mono hG7), hok_k⟩) rfl pr9 ?_))))))
 intro _ G14 _ hG14 q16
 refine match q16 with | ⟨e_17, _, e_18, hv15⟩ => ?_
 subst e_17
 subst e_18
 refine match hv15 with | ⟨pa_hv15, pc_hv15, ka_hv15, kc_hv15, ma_hv15, mc_hv15, ra_hv15, rc_hv15, e_19, hp_hv15, hk_hv15, hm_hv15, hr_hv15, hok_hv15⟩ => ?_
 subst e_19
 refine W.store (i := 1) (vs := (nd9 _ _ _ _ _ _ _ _ _ _ _ _ _ _ _ _ _ _)) (L' := (nd9 _ _ _ _ _ _ _ _ _ _ _ _ _ _ _ _ _ _)) ty43 rfl rfl rfl rfl rfl rfl rfl rfl (W.nil (thn_n (WC.seq (WC.seq (WC.region (W.ok (ok_fieldB fd43_1 rfl) (W.ok (ok_loadB (i := 1) (vs := [.int .i64 _]) ty3 rfl rfl rfl rfl (by simp)) (W.ok (ok_eql rfl rfl) (W.nil (thn_n ?_))))))))))
 refine WC.cond (b := _) rfl (fun h26 => ?_) (fun h26 => ?_)
 ·have p26 := of_decide_eq_true h26
  refine WC.seq (WC.region (W.as (W.nil (thn_n (WC.seq (WC.region (W.ok (ok_fieldB fd43_9 rfl) (W.ok (ok_loadB (i := 1) (vs := [.slice _ _ _]) ty41 rfl rfl rfl rfl (by simp)) (W.mv (W.ok (ok_fieldB fd23_1 rfl) (W.ok (ok_loadB (i := 3) (vs := [.int .i64 _]) ty3 rfl rfl rfl rfl (by simp)) (W.call (Mp := []) (ldrain_fc hr_hv15 (hv8.mono hG14) cl hkr (by omega) hfR) rfl pr9 ?_))))))))))))
  intro _ G20 _ hG20 q22
  refine match q22 with | ⟨e_23, _, e_24, _, e_25, hv21⟩ => ?_
  subst e_23
  subst e_24
  subst e_25
  have q27 := hv21.form
  refine match q27 with | ⟨sa_hv21, sc_hv21, e_26⟩ => ?_
  subst e_26
  refine W.mv (W.ok (ok_extract rfl rfl) (W.ok (ok_extract rfl rfl) (W.ok (ok_fieldB fd43_9 rfl) (W.store (i := 1) (vs := [.slice _ _ _]) (L' := (nd9 _ _ _ _ _ _ _ _ _ _ _ _ _ _ _ _ _ _)) ty41 rfl rfl rfl rfl rfl rfl rfl rfl (W.as (W.nil (thn_n (WC.seq (WC.drawW _ (((sr9.k9.k9).k9).cons _) mix (by rintro _ _ _ _ ⟨h | h, _⟩ <;> cases h) (WD.tk 0 rfl (ok_loadB (i := 0) (vs := (nd9 _ _ _ _ _ _ _ _ _ _ _ _ _ _ _ _ _ _)) ty43 rfl rfl rfl rfl (by simp)) (WD.tk 1 rfl (ok_mv) (WD.tk 2 rfl (ok_mv) ?_))))))))))))
  have hs28 := SlR.slice (hv8.mono (hG14.trans hG20)) (lo := 0) (hi := (drainN cl k.rows (forN p.pivots p.msgs i)).2) (by omega) (by omega)
  refine WD.tk 3 rfl (ok_slice (0) ((drainN cl k.rows (forN p.pivots p.msgs i)).2) sl40 ty150 (hv8.mono (hG14.trans hG20)) rfl rfl ⟨_, _, rfl, by omega⟩ ⟨by omega, by omega⟩) (WD.a1 4 rfl (W.store (i := 0) (vs := (nd9 _ _ _ _ _ _ _ _ _ _ _ _ _ _ _ _ _ _)) (L' := (nd9 _ _ _ _ _ _ _ _ _ _ _ _ _ _ _ _ _ _)) ty43 rfl rfl rfl rfl rfl rfl rfl rfl (W.nil (WD.n9 Le.rfl (((sr9.k9.k9).k9).cons _) (WD.tk 5 rfl (ok_as) (WD.done (by kernel_rfl) (thn_n (WC.ret (thn_r ?_)))))))))
  refine ⟨.inr rfl, [_, _], ⟨⟨_, _, _, _, _, rfl, nthM_mem (i := 0) rfl, ty43, (by simp), rfl, rfl⟩, rfl, trivial⟩, [], sn9, ?_⟩
  refine ⟨rfl, _, (moved_0 p26).symm, _, _, rfl, ?_, ?_⟩
  · exact ⟨_, _, _, _, _, _, _, _, rfl, (hp_hv15.mono hG20), (hk_hv15.mono hG20), (hm_hv15.mono hG20), hv21, hok_k⟩
  exact SlR.cast hs28 (by rw [List.drop_zero])
 have p26 := of_decide_eq_false h26
 refine WC.skip (thn_n (WC.seq (WC.seq (WC.region (W.mv (W.ok (ok_len sl40 (hv8.mono hG14) rfl) (W.mv (W.nil (thn_n (WC.block ?_))))))))))
 refine WC.loop (X := (Nat) × List Value) (fun j => [(43, .int .i64 ((j.1 : Nat) : Int)), (4, .pointer (some ⟨b3, 0, none⟩)), (6, .pointer (some ⟨b5, 0, none⟩)), (8, .pointer (some ⟨b6, 0, none⟩)), (10, .slice sa_hv8 ((forN p.pivots p.msgs i)).length sc_hv8), (41, .slice sa_hv8 ((forN p.pivots p.msgs i)).length sc_hv8), (42, .int .i64 ((((forN p.pivots p.msgs i)).length : Nat) : Int))]) (fun j G Ml => Ml = [(b6, .cells (List.toArray [.int .i64 0, .int .i64 0, .slice none 0 0, .slice none 0 0, .string ⟨#[]⟩, .bool false, .int .i64 0, .int .i64 0, .slice none 0 0, .slice none 0 0]) 43 (0, 0)), (b5, .cells (List.toArray j.2) 43 (0, 0)), (b4, .cells (List.toArray [.int .i64 p.slot, .int .i64 p.level, .slice pa_p p.pivots.length pc_p, .slice ka_p p.kids.length kc_p, .string p.high.b, .bool p.top, .int .i64 p.right, .int .i64 p.seen, .slice ma_p p.msgs.length mc_p, .slice ra_p p.rows.length rc_p]) 43 (0, 0)), (b3, .cells (List.toArray [.int .i64 cf, .int .i64 cl, .int .i64 cb, .int .i64 cs, .int .i64 cr]) 23 (0, 0))] ∧ NodeC G j.2 ({ k with msgs := (k.msgs ++ (forN p.pivots p.msgs i).take j.1) }) ∧ j.1 ≤ (forN p.pivots p.msgs i).length ∧ AddsAt cb k.msgs (forN p.pivots p.msgs i) j.1) (fun j => (forN p.pivots p.msgs i).length - j.1) (0, ([.int .i64 (k).slot, .int .i64 (k).level, .slice pa_hv15 ((k).pivots).length pc_hv15, .slice ka_hv15 ((k).kids).length kc_hv15, .string (k).high.b, .bool (k).top, .int .i64 (k).right, .int .i64 (k).seen, .slice ma_hv15 ((k).msgs).length mc_hv15, .slice ra_hv15 ((k).rows).length rc_hv15] : List Value)) ⟨eqv, eqv, eqv, eqv, eqv, eqv, eqv, trivial⟩ ?_ ?_
 ·exact ⟨rfl, (by dsimp only; rw [List.take_zero, List.append_nil]; exact ⟨_, _, _, _, _, _, _, _, rfl, hp_hv15, hk_hv15, hm_hv15, hr_hv15, hok_hv15⟩), by omega, AddsAt.zero _ _ _⟩
 rintro ⟨j, C_6⟩ gG29 G29 _ hG29 ⟨rfl, ho_6, hj, hd⟩
 try dsimp only at ho_6 hj hd
 have hsj : ∀ m ∈ (k.msgs ++ (forN p.pivots p.msgs i).take j), m.key.b.size ≤ 16 ∧ m.val.b.size ≤ 16 := fun m h => by
   rcases List.mem_append.1 h with h | h
   · exact hkm m h
   exact msgR_key (hfR m (List.mem_of_mem_take h))
 have hlj : (k.msgs ++ (forN p.pivots p.msgs i).take j).length ≤ 100000 := by rw [List.length_append, List.length_take]; omega
 refine match ho_6 with | ⟨pa_nb30, pc_nb30, ka_nb30, kc_nb30, ma_nb30, mc_nb30, ra_nb30, rc_nb30, e_31, hp_nb30, hk_nb30, hm_nb30, hr_nb30, hok_nb30⟩ => ?_
 subst e_31
 refine WC.fr (f := setL gG29 [(43, .int .i64 ((j : Nat) : Int)), (4, .pointer (some ⟨b3, 0, none⟩)), (6, .pointer (some ⟨b5, 0, none⟩)), (8, .pointer (some ⟨b6, 0, none⟩)), (10, .slice sa_hv8 ((forN p.pivots p.msgs i)).length sc_hv8), (41, .slice sa_hv8 ((forN p.pivots p.msgs i)).length sc_hv8), (42, .int .i64 ((((forN p.pivots p.msgs i)).length : Nat) : Int))]) rfl (WC.seq (WC.region (W.ok (ok_lss rfl rfl) (W.nil (thn_n (WC.seq ?_))))))
 refine WC.cond (b := _) rfl (fun h44 => ?_) (fun h44 => ?_)
 ·have p44 := of_decide_eq_true h44
  refine WC.skip (thn_n (WC.seq (WC.block (WC.seq (WC.region (W.mv ?_))))))
  have q36 := (hv8.mono (hG14.trans hG29)).at (i := j) (by omega)
  refine match q36 with | ⟨_, he32, ⟨e_35, hm33⟩⟩ => ?_
  subst e_35
  refine W.ok (ok_indexAddr (i := j) sl40 ty150 (hv8.mono (hG14.trans hG29)) rfl rfl ⟨by omega, by omega⟩) (W.ok (ok_loadE (vs := [.int .i64 _, .int .i64 _, .string _, .string _, .bool _, .string _]) ty150 he32 rfl rfl rfl (by simp)) (W.alloc zr150 (fun b37 => (W.as (W.store (i := 0) (vs := [.int .i64 _, .int .i64 _, .string _, .string _, .bool _, .string _]) (L' := [.int .i64 _, .int .i64 _, .string _, .string _, .bool _, .string _]) ty150 rfl rfl rfl rfl rfl rfl rfl rfl (W.nil (thn_n (WC.seq (WC.region (W.ok (ok_fieldB fd43_8 rfl) (W.ok (ok_loadB (i := 2) (vs := [.slice _ _ _]) ty40 rfl rfl rfl rfl (by simp)) (W.ok (ok_loadB (i := 0) (vs := [.int .i64 _, .int .i64 _, .string _, .string _, .bool _, .string _]) ty150 rfl rfl rfl rfl (by simp)) (W.ok (ok_fieldB fd23_2 rfl) (W.ok (ok_loadB (i := 4) (vs := [.int .i64 _]) ty3 rfl rfl rfl rfl (by simp)) (W.call (Mp := []) (badd_fc hm_nb30 ((forN p.pivots p.msgs i)[j]'(by omega)).stamp ((forN p.pivots p.msgs i)[j]'(by omega)).kind ((forN p.pivots p.msgs i)[j]'(by omega)).key ((forN p.pivots p.msgs i)[j]'(by omega)).hi ((forN p.pivots p.msgs i)[j]'(by omega)).opn ((forN p.pivots p.msgs i)[j]'(by omega)).val cb hsj hb (by assumption) (by show List.length (k.msgs ++ (forN p.pivots p.msgs i).take j) ≤ _; omega)) rfl pr9 ?_)))))))))))))))
  intro _ G38 _ hG38 q40
  refine match q40 with | ⟨e_41, _, e_42, _, e_43, hv39⟩ => ?_
  subst e_41
  subst e_42
  subst e_43
  have q45 := hv39.form
  refine match q45 with | ⟨sa_hv39, sc_hv39, e_44⟩ => ?_
  subst e_44
  refine W.mv (W.ok (ok_extract rfl rfl) (W.ok (ok_extract rfl rfl) (W.as (W.as (W.nil (thn_n (WC.seq (WC.seq (WC.region (W.mv (W.ok (ok_not rfl) (W.nil (thn_n ?_)))))))))))))
  refine WC.cond (b := _) rfl (fun h58 => ?_) (fun h58 => ?_)
  ·have hro : roomB cb (k.msgs ++ (forN p.pivots p.msgs i).take j) ((forN p.pivots p.msgs i)[j]'(by omega)) = false := by rw [← add_snd]; simpa using h58
   have hst := hd.stop (by omega) hro
   refine WC.seq (WC.drawW _ ((((sr9.k9.k9).k9).cons _).k9) mix (by rintro _ _ _ _ ⟨h | h, _⟩ <;> cases h) (WD.tk 0 rfl (ok_loadB (i := 1) (vs := (nd9 _ _ _ _ _ _ _ _ _ _ _ _ _ _ _ _ _ _)) ty43 rfl rfl rfl rfl (by simp)) (WD.tk 1 rfl (ok_mv) (WD.tk 2 rfl (ok_mv) ?_))))
   have hs46 := SlR.slice (hv8.mono ((hG14.trans hG29).trans hG38)) (lo := 0) (hi := j) (by omega) (by omega)
   refine WD.tk 3 rfl (ok_slice (0) (j) sl40 ty150 (hv8.mono ((hG14.trans hG29).trans hG38)) rfl rfl ⟨_, _, rfl, by omega⟩ ⟨by omega, by omega⟩) (WD.a1 4 rfl (W.store (i := 1) (vs := (nd9 _ _ _ _ _ _ _ _ _ _ _ _ _ _ _ _ _ _)) (L' := (nd9 _ _ _ _ _ _ _ _ _ _ _ _ _ _ _ _ _ _)) ty43 rfl rfl rfl rfl rfl rfl rfl rfl (W.nil (WD.n9 Le.rfl ((((sr9.k9.k9).k9).cons _).k9) (WD.tk 5 rfl (ok_as) (WD.done (by kernel_rfl) (thn_n (WC.ret (thn_r (blk_r (thn_r (thn_r (blk_r (thn_r ?_))))))))))))))
   refine ⟨.inr rfl, [_, _], ⟨⟨_, _, _, _, _, rfl, nthM_mem (i := 1) rfl, ty43, (by simp), rfl, rfl⟩, rfl, trivial⟩, [], sn9, ?_⟩
   refine ⟨rfl, _, (moved_n p26 hst).symm, _, _, rfl, ?_, ?_⟩
   · exact ⟨_, _, _, _, _, _, _, _, rfl, (hp_nb30.mono hG38), (hk_nb30.mono hG38), (hm_nb30.mono hG38), (hr_nb30.mono hG38), hok_k⟩
   exact SlR.cast hs46 (by rw [List.drop_zero])
  have hro : roomB cb (k.msgs ++ (forN p.pivots p.msgs i).take j) ((forN p.pivots p.msgs i)[j]'(by omega)) = true := by rw [← add_snd]; simpa using h58
  have hnx : k.msgs ++ (forN p.pivots p.msgs i).take (j + 1) = (addN cb (k.msgs ++ (forN p.pivots p.msgs i).take j) ((forN p.pivots p.msgs i)[j]'(by omega))).1 := by rw [addN_t hro, List.take_succ_eq_append_getElem (by omega), List.append_assoc]
  refine WC.skip (thn_n (WC.region (W.mv (W.ok (ok_fieldB fd43_8 rfl) (W.store (i := 2) (vs := [.slice _ _ _]) (L' := (nd9 _ _ _ _ _ _ _ _ _ _ _ _ _ _ _ _ _ _)) ty40 rfl rfl rfl rfl rfl rfl rfl rfl (W.nil (blk_n (thn_n (WC.region (W.ok (ok_add rfl rfl (by omega)) (W.mv (W.sub (sr9.cons _) (W.nil (thn_n ?_))))))))))))))
  exact ⟨hG38, (j + 1, [.int .i64 ({ k with msgs := (k.msgs ++ (forN p.pivots p.msgs i).take j) }).slot, .int .i64 ({ k with msgs := (k.msgs ++ (forN p.pivots p.msgs i).take j) }).level, .slice pa_nb30 (({ k with msgs := (k.msgs ++ (forN p.pivots p.msgs i).take j) }).pivots).length pc_nb30, .slice ka_nb30 (({ k with msgs := (k.msgs ++ (forN p.pivots p.msgs i).take j) }).kids).length kc_nb30, .string ({ k with msgs := (k.msgs ++ (forN p.pivots p.msgs i).take j) }).high.b, .bool ({ k with msgs := (k.msgs ++ (forN p.pivots p.msgs i).take j) }).top, .int .i64 ({ k with msgs := (k.msgs ++ (forN p.pivots p.msgs i).take j) }).right, .int .i64 ({ k with msgs := (k.msgs ++ (forN p.pivots p.msgs i).take j) }).seen, .slice sa_hv39 ((addN cb (k.msgs ++ (forN p.pivots p.msgs i).take j) ((forN p.pivots p.msgs i)[j]'(by omega))).1).length sc_hv39, .slice ra_nb30 (({ k with msgs := (k.msgs ++ (forN p.pivots p.msgs i).take j) }).rows).length rc_nb30]), ⟨eqv, eqv, eqv, eqv, eqv, eqv, eqv, trivial⟩, ⟨rfl, (by dsimp only; rw [hnx]; exact ⟨_, _, _, _, _, _, _, _, rfl, (hp_nb30.mono hG38), (hk_nb30.mono hG38), hv39, (hr_nb30.mono hG38), hok_nb30⟩), by omega, hd.succ (by omega) hro⟩, by omega⟩
 have p44 := of_decide_eq_false h44
 refine WC.exit (thn_x (thn_x (blk_h (thn_n (WC.seq (WC.region (W.ok (ok_loadB (i := 1) (vs := (nd9 _ _ _ _ _ _ _ _ _ _ _ _ _ _ _ _ _ _)) ty43 rfl rfl rfl rfl (by simp)) (W.mv (W.store (i := 0) (vs := (nd9 _ _ _ _ _ _ _ _ _ _ _ _ _ _ _ _ _ _)) (L' := (nd9 _ _ _ _ _ _ _ _ _ _ _ _ _ _ _ _ _ _)) ty43 rfl rfl rfl rfl rfl rfl rfl rfl (W.as (W.nil (thn_n (WC.ret ?_)))))))))))))
 refine ⟨.inr rfl, [_, _], ⟨⟨_, _, _, _, _, rfl, nthM_mem (i := 0) rfl, ty43, (by simp), rfl, rfl⟩, rfl, trivial⟩, [], sn9, ?_⟩
 refine ⟨rfl, _, (moved_n p26 (hd.all (by omega))).symm, _, _, rfl, ?_, ?_⟩
 · exact ⟨_, _, _, _, _, _, _, _, rfl, hp_nb30, hk_nb30, hm_nb30, hr_nb30, hok_k⟩
 exact SlR.cast (hv8.mono (hG14.trans hG29)) (List.take_of_length_le (by omega)).symm

theorem pcount_fc {G : GH} (cf : Int) (cl : Int) (cb : Int) (cs : Int) (cr : Int) {cs_p : List Value} {p : Nd} (h_p : NodeC G cs_p p) {cs_k : List Value} {k : Nd} (h_k : NodeC G cs_k k) (i : Int) (hb : 0 ≤ cb ∧ cb ≤ 9223372036854775807) (hr : rising p.pivots = true) (hpv : ∀ q ∈ p.pivots, q.b.size ≤ 16) (hpm : ∀ m ∈ p.msgs, m.R) (hkm : ∀ m ∈ k.msgs, m.key.b.size ≤ 16 ∧ m.val.b.size ≤ 16) (hkr : PairsR k.rows) (hi : i64 i) (hsz : k.msgs.length + p.msgs.length ≤ 100000 ∧ k.rows.length ≤ 100000) :
    Fc Tryz.prog 80 [.agg #[.int .i64 cf, .int .i64 cl, .int .i64 cb, .int .i64 cs, .int .i64 cr], .agg (List.toArray cs_p), .agg (List.toArray cs_k), .int .i64 i] G [] (fun v _ _ => v = .int .i64 ((countN cl cb p k i : Nat) : Int)) := by
 obtain ⟨pa_p, pc_p, ka_p, kc_p, ma_p, mc_p, ra_p, rc_p, rfl, hp_p, hk_p, hm_p, hr_p, hok_p⟩ := h_p
 obtain ⟨pa_k, pc_k, ka_k, kc_k, ma_k, mc_k, ra_k, rc_k, rfl, hp_k, hk_k, hm_k, hr_k, hok_k⟩ := h_k
 refine Fc.intro (rs := [.tmp 8]) cl80 Tryz.func80 rfl Tryz.ntmps80 rfl rfl (fun w0 => ?_)
 refine WC.seq (WC.region (W.box (L := [.int .i64 _, .int .i64 _, .int .i64 _, .int .i64 _, .int .i64 _]) rfl rfl (fun b47 => (W.box (L := (nd9 _ _ _ _ _ _ _ _ _ _ _ _ _ _ _ _ _ _)) rfl rfl (fun b48 => (W.box (L := (nd9 _ _ _ _ _ _ _ _ _ _ _ _ _ _ _ _ _ _)) rfl rfl (fun b49 => (W.as (W.nil (thn_n (WC.seq (WC.seq (WC.region (W.ok (ok_loadB (i := 1) (vs := (nd9 _ _ _ _ _ _ _ _ _ _ _ _ _ _ _ _ _ _)) ty43 rfl rfl rfl rfl (by simp)) (W.ok (ok_loadB (i := 0) (vs := (nd9 _ _ _ _ _ _ _ _ _ _ _ _ _ _ _ _ _ _)) ty43 rfl rfl rfl rfl (by simp)) (W.mv (W.qcall (pright_fc (p := p) (k := k) ⟨_, _, _, _, _, _, _, _, rfl, hp_p, hk_p, hm_p, hr_p, hok_p⟩ ⟨_, _, _, _, _, _, _, _, rfl, hp_k, hk_k, hm_k, hr_k, hok_k⟩ i) rfl ?_)))))))))))))))))
 refine W.ok (ok_not rfl) (W.nil (thn_n ?_))
 refine WC.cond (b := _) rfl (fun h15 => ?_) (fun h15 => ?_)
 ·refine WC.seq (WC.region (W.as (W.nil (thn_n (WC.ret (thn_r ?_))))))
  refine ⟨.inr rfl, [_], ⟨rfl, trivial⟩, [], sn9, ?_⟩
  refine congrArg (Value.int .i64) (congrArg Nat.cast ?_)
  exact (count_f (by simpa using h15)).symm
 refine WC.skip (thn_n (WC.seq (WC.region (W.ok (ok_loadB (i := 2) (vs := [.int .i64 _, .int .i64 _, .int .i64 _, .int .i64 _, .int .i64 _]) ty23 rfl rfl rfl rfl (by simp)) (W.ok (ok_loadB (i := 1) (vs := (nd9 _ _ _ _ _ _ _ _ _ _ _ _ _ _ _ _ _ _)) ty43 rfl rfl rfl rfl (by simp)) (W.ok (ok_loadB (i := 0) (vs := (nd9 _ _ _ _ _ _ _ _ _ _ _ _ _ _ _ _ _ _)) ty43 rfl rfl rfl rfl (by simp)) (W.mv (W.call (Mp := []) (moved_fc cf cl cb cs cr (p := p) (k := k) ⟨_, _, _, _, _, _, _, _, rfl, hp_p, hk_p, hm_p, hr_p, hok_p⟩ ⟨_, _, _, _, _, _, _, _, rfl, hp_k, hk_k, hm_k, hr_k, hok_k⟩ i hb hr hpv hpm hkm hkr hi hsz) rfl pr9 ?_))))))))
 intro _ G50 _ hG50 q53
 refine match q53 with | ⟨e_54, _, e_55, _, _, e_56, hv51, hv52⟩ => ?_
 subst e_54
 subst e_55
 subst e_56
 refine match hv51 with | ⟨pa_hv51, pc_hv51, ka_hv51, kc_hv51, ma_hv51, mc_hv51, ra_hv51, rc_hv51, e_57, hp_hv51, hk_hv51, hm_hv51, hr_hv51, hok_hv51⟩ => ?_
 subst e_57
 have q59 := hv52.form
 refine match q59 with | ⟨sa_hv52, sc_hv52, e_58⟩ => ?_
 subst e_58
 refine W.mv (W.ok (ok_extract rfl rfl) (W.ok (ok_extract rfl rfl) (W.alloc zr43 (fun b60 => (W.store (i := 0) (vs := (nd9 _ _ _ _ _ _ _ _ _ _ _ _ _ _ _ _ _ _)) (L' := (nd9 _ _ _ _ _ _ _ _ _ _ _ _ _ _ _ _ _ _)) ty43 rfl rfl rfl rfl rfl rfl rfl rfl (W.as (W.nil (thn_n (WC.seq (WC.region (W.mv (W.ok (ok_len sl40 hv52 rfl) (W.as (W.nil (thn_n (WC.ret ?_))))))))))))))))
 refine ⟨.inr rfl, [_], ⟨rfl, trivial⟩, [], sn9, ?_⟩
 refine congrArg (Value.int .i64) (congrArg Nat.cast ?_)
 rw [count_t (by simpa using h15), moved_len]

theorem needs_fc {G : GH} (cf : Int) (cl : Int) (cb : Int) (cs : Int) (cr : Int) {cs_p : List Value} {p : Nd} (h_p : NodeC G cs_p p) {cs_k : List Value} {k : Nd} (h_k : NodeC G cs_k k) (i : Int) (hb : 0 ≤ cb ∧ cb ≤ 9223372036854775807) (hr : rising p.pivots = true) (hpv : ∀ q ∈ p.pivots, q.b.size ≤ 16) (hpm : ∀ m ∈ p.msgs, m.R) (hkm : ∀ m ∈ k.msgs, m.key.b.size ≤ 16 ∧ m.val.b.size ≤ 16) (hkr : PairsR k.rows) (hi : i64 i) (hsz : k.msgs.length + p.msgs.length ≤ 100000 ∧ k.rows.length ≤ 100000) :
    Fc Tryz.prog 81 [.agg #[.int .i64 cf, .int .i64 cl, .int .i64 cb, .int .i64 cs, .int .i64 cr], .agg (List.toArray cs_p), .agg (List.toArray cs_k), .int .i64 i] G [] (fun v _ _ => v = .bool (decide (KidOf p k i ∧ 0 < (forN p.pivots p.msgs i).length ∧ countN cl cb p k i = 0))) := by
 obtain ⟨pa_p, pc_p, ka_p, kc_p, ma_p, mc_p, ra_p, rc_p, rfl, hp_p, hk_p, hm_p, hr_p, hok_p⟩ := h_p
 obtain ⟨pa_k, pc_k, ka_k, kc_k, ma_k, mc_k, ra_k, rc_k, rfl, hp_k, hk_k, hm_k, hr_k, hok_k⟩ := h_k
 have hpk : ∀ m ∈ p.msgs, m.key.b.size < 140737488355328 := fun m h => by have := (msgR_key (hpm m h)).1; omega
 refine Fc.intro (rs := [.tmp 8]) cl81 Tryz.func81 rfl Tryz.ntmps81 rfl rfl (fun w0 => ?_)
 refine WC.seq (WC.region (W.box (L := [.int .i64 _, .int .i64 _, .int .i64 _, .int .i64 _, .int .i64 _]) rfl rfl (fun b64 => (W.box (L := (nd9 _ _ _ _ _ _ _ _ _ _ _ _ _ _ _ _ _ _)) rfl rfl (fun b65 => (W.box (L := (nd9 _ _ _ _ _ _ _ _ _ _ _ _ _ _ _ _ _ _)) rfl rfl (fun b66 => (W.as (W.nil (thn_n (WC.seq (WC.region (W.ok (ok_loadB (i := 1) (vs := (nd9 _ _ _ _ _ _ _ _ _ _ _ _ _ _ _ _ _ _)) ty43 rfl rfl rfl rfl (by simp)) (W.ok (ok_loadB (i := 0) (vs := (nd9 _ _ _ _ _ _ _ _ _ _ _ _ _ _ _ _ _ _)) ty43 rfl rfl rfl rfl (by simp)) (W.mv (W.qcall (pright_fc (p := p) (k := k) ⟨_, _, _, _, _, _, _, _, rfl, hp_p, hk_p, hm_p, hr_p, hok_p⟩ ⟨_, _, _, _, _, _, _, _, rfl, hp_k, hk_k, hm_k, hr_k, hok_k⟩ i) rfl (W.mv ?_)))))))))))))))))
 refine W.sp 13 rfl (fun h12 => ?_) (fun h12 => ?_)
 ·refine W.yes (dj := 13) rfl rfl h12 (W.ok (ok_fieldB fd43_2 rfl) (W.yes (dj := 13) rfl rfl h12 (W.ok (ok_loadB (i := 1) (vs := [.slice _ _ _]) ty38 rfl rfl rfl rfl (by simp)) (W.yes (dj := 13) rfl rfl h12 (W.ok (ok_fieldB fd43_8 rfl) (W.yes (dj := 13) rfl rfl h12 (W.ok (ok_loadB (i := 1) (vs := [.slice _ _ _]) ty40 rfl rfl rfl rfl (by simp)) (W.yes (dj := 13) rfl rfl h12 (W.mv (W.yes (dj := 13) rfl rfl h12 (W.call (Mp := []) (for_fc hp_p hm_p i hpk hr hi) rfl pr9 ?_)))))))))))
  intro _ G67 _ hG67 q69
  refine match q69 with | ⟨e_70, _, e_71, hv68⟩ => ?_
  subst e_70
  subst e_71
  have q73 := hv68.form
  refine match q73 with | ⟨sa_hv68, sc_hv68, e_72⟩ => ?_
  subst e_72
  refine W.yes (dj := 13) rfl rfl h12 (W.ok (ok_len sl40 hv68 rfl) (W.yes (dj := 13) rfl rfl h12 (W.ok (ok_gtr rfl rfl) (W.ok (ok_pick_t rfl h12) (W.mv ?_)))))
  refine W.sp 23 rfl (fun h21 => ?_) (fun h21 => ?_)
  ·have p21 := of_decide_eq_true h21
   refine W.yes (dj := 23) rfl rfl h21 (W.ok (ok_loadB (i := 2) (vs := [.int .i64 _, .int .i64 _, .int .i64 _, .int .i64 _, .int .i64 _]) ty23 rfl rfl rfl rfl (by simp)) (W.yes (dj := 23) rfl rfl h21 (W.ok (ok_loadB (i := 1) (vs := (nd9 _ _ _ _ _ _ _ _ _ _ _ _ _ _ _ _ _ _)) ty43 rfl rfl rfl rfl (by simp)) (W.yes (dj := 23) rfl rfl h21 (W.ok (ok_loadB (i := 0) (vs := (nd9 _ _ _ _ _ _ _ _ _ _ _ _ _ _ _ _ _ _)) ty43 rfl rfl rfl rfl (by simp)) (W.yes (dj := 23) rfl rfl h21 (W.mv (W.yes (dj := 23) rfl rfl h21 (W.qcall (pcount_fc cf cl cb cs cr (p := p) (k := k) ⟨_, _, _, _, _, _, _, _, rfl, (hp_p.mono hG67), (hk_p.mono hG67), (hm_p.mono hG67), (hr_p.mono hG67), hok_p⟩ ⟨_, _, _, _, _, _, _, _, rfl, (hp_k.mono hG67), (hk_k.mono hG67), (hm_k.mono hG67), (hr_k.mono hG67), hok_k⟩ i hb hr hpv hpm hkm hkr hi hsz) rfl (W.yes (dj := 23) rfl rfl h21 (W.ok (ok_eql rfl rfl) (W.ok (ok_pick_t rfl h21) (W.as ?_)))))))))))))
   refine W.nil (thn_n (WC.ret ?_))
   refine ⟨.inr rfl, [_], ⟨rfl, trivial⟩, [], sn9, ?_⟩
   refine congrArg Value.bool ?_
   first | (simp_all; done) | (simp_all; omega)
  have p21 := of_decide_eq_false h21
  refine W.no (dj := 23) rfl rfl h21 (W.no (dj := 23) rfl rfl h21 (W.no (dj := 23) rfl rfl h21 (W.no (dj := 23) rfl rfl h21 (W.no (dj := 23) rfl rfl h21 (W.no (dj := 23) rfl rfl h21 (W.ok (ok_pick_f rfl h21) (W.as (W.nil (thn_n (WC.ret ?_))))))))))
  refine ⟨.inr rfl, [_], ⟨rfl, trivial⟩, [], sn9, ?_⟩
  refine congrArg Value.bool ?_
  first | (simp_all; done) | (simp_all; omega)
 refine W.no (dj := 13) rfl rfl h12 (W.no (dj := 13) rfl rfl h12 (W.no (dj := 13) rfl rfl h12 (W.no (dj := 13) rfl rfl h12 (W.no (dj := 13) rfl rfl h12 (W.no (dj := 13) rfl rfl h12 (W.no (dj := 13) rfl rfl h12 (W.no (dj := 13) rfl rfl h12 (W.ok (ok_pick_f rfl h12) (W.mv (W.no (dj := 23) rfl rfl rfl (W.no (dj := 23) rfl rfl rfl (W.no (dj := 23) rfl rfl rfl (W.no (dj := 23) rfl rfl rfl ?_)))))))))))))
 refine W.no (dj := 23) rfl rfl rfl (W.no (dj := 23) rfl rfl rfl (W.ok (ok_pick_f rfl rfl) (W.as (W.nil (thn_n (WC.ret ?_))))))
 refine ⟨.inr rfl, [_], ⟨rfl, trivial⟩, [], sn9, ?_⟩
 refine congrArg Value.bool ?_
 first | (simp_all; done) | (simp_all; omega)

end Go.Proofs.YtmbafmifalppaaaGreat
