/- Walks of arenas. -/
import Derived.Test.YtmbafmifalppaaaQaV2
set_option maxRecDepth 100000
set_option maxHeartbeats 1600000
set_option linter.unusedVariables false
set_option linter.unusedSimpArgs false
set_option linter.unnecessarySimpa false
namespace Go.Proofs.Ytmbafmifalppaaa
open Go Go.Fw Go.RowKit
theorem shasn_fc {G : GH} {b_s : Nat} {v_c : Value} {c : List Nd} {Ms_c : MH} (h_c : OwnR eNode 35 G v_c c Ms_c) {v_u : Value} {u : List Bool} {Ms_u : MH} (h_u : OwnR eBool 4 G v_u u Ms_u) {v_f : Value} {f : List Int} {Ms_f : MH} (h_f : OwnR eInt 3 G v_f f Ms_f) (i : Int) :
    Fc Try.prog 128 [.pointer (some ⟨b_s, 0, none⟩), .int .i64 i] G ((b_s, .cells (List.toArray [v_c, v_u, v_f]) 179 (0, 0)) :: (Ms_c ++ (Ms_u ++ (Ms_f)))) (fun v G' M' => v = .bool (hasN u i) ∧ M' = (b_s, .cells (List.toArray [v_c, v_u, v_f]) 179 (0, 0)) :: (Ms_c ++ (Ms_u ++ Ms_f))) := by
 obtain ⟨sa_c, sc_c, rfl⟩ := h_c.form
 obtain ⟨sa_u, sc_u, rfl⟩ := h_u.form
 obtain ⟨sa_f, sc_f, rfl⟩ := h_f.form
 have hl := h_u.len47
 refine Fc.intro (rs := [.tmp 4]) cl128 Try.func128 rfl Try.ntmps128 rfl rfl (fun w0 => ?_)
 refine WC.perm (M' := ((b_s, .cells (List.toArray [.slice sa_c c.length sc_c, .slice sa_u u.length sc_u, .slice sa_f f.length sc_f]) 179 (0, 0)) :: (Ms_c ++ (Ms_u ++ (Ms_f ++ []))))) (by simp) (WC.seq (WC.region (W.as (W.nil (thn_n (WC.seq (WC.region (W.mv (W.ok (ok_neqPN pp128 rfl rfl) (W.mv (W.yes (dj := 7) rfl rfl rfl (W.mv (W.yes (dj := 7) rfl rfl rfl (W.ok (ok_geq rfl rfl) ?_))))))))))))))
 refine W.ok (ok_pick_t rfl rfl) (W.mv ?_)
 refine W.sp 11 rfl (fun h9 => ?_) (fun h9 => ?_)
 ·have p9 := of_decide_eq_true h9
  refine W.yes (dj := 11) rfl rfl h9 (W.mv (W.yes (dj := 11) rfl rfl h9 (W.mv (W.yes (dj := 11) rfl rfl h9 (W.ok (ok_nilP rfl) (W.yes (dj := 11) rfl rfl h9 (W.ok (ok_fieldB fd179_1 rfl) (W.yes (dj := 11) rfl rfl h9 (W.ok (ok_loadB (i := 0) (vs := [.slice _ _ _]) ty176 rfl rfl rfl rfl (by simp)) (W.yes (dj := 11) rfl rfl h9 (W.ok (ok_lenO sl176 h_u rfl) (W.yes (dj := 11) rfl rfl h9 (W.ok (ok_lss rfl rfl) ?_)))))))))))))
  refine W.ok (ok_pick_t rfl h9) (W.mv ?_)
  refine W.sp 20 rfl (fun h18 => ?_) (fun h18 => ?_)
  ·have p18 := of_decide_eq_true h18
   refine W.yes (dj := 20) rfl rfl h18 (W.mv (W.yes (dj := 20) rfl rfl h18 (W.ok (ok_nilP rfl) (W.yes (dj := 20) rfl rfl h18 (W.ok (ok_fieldB fd179_1 rfl) (W.yes (dj := 20) rfl rfl h18 (W.ok (ok_loadB (i := 0) (vs := [.slice _ _ _]) ty176 rfl rfl rfl rfl (by simp)) (W.yes (dj := 20) rfl rfl h18 (W.mv (W.yes (dj := 20) rfl rfl h18 ?_))))))))))
   have q4 := h_u.at (i := i.toNat) (by omega)
   refine match q4 with | ⟨_, he1, e_3⟩ => ?_
   subst e_3
   refine W.ok (ok_indexAddrO (i := i.toNat) sl176 ty4 h_u rfl rfl ⟨by omega, by omega⟩) (W.yes (dj := 20) rfl rfl h18 (W.ok (ok_loadO (vs := [.bool _]) ty4 he1 (pmC (pmA pr9)) rfl rfl rfl (by simp)) (W.ok (ok_pick_t rfl h18) (W.as (W.nil (thn_n (WC.ret ?_)))))))
   refine ⟨.inr rfl, [_], ⟨rfl, trivial⟩, ((b_s, .cells (List.toArray [.slice sa_c c.length sc_c, .slice sa_u u.length sc_u, .slice sa_f f.length sc_f]) 179 (0, 0)) :: (Ms_c ++ (Ms_u ++ (Ms_f ++ [])))), sr9.k9, ?_⟩
   exact ⟨congrArg Value.bool (hasN_get (by omega) (by omega)), by simp⟩
  have p18 := of_decide_eq_false h18
  refine W.no (dj := 20) rfl rfl h18 (W.no (dj := 20) rfl rfl h18 (W.no (dj := 20) rfl rfl h18 (W.no (dj := 20) rfl rfl h18 (W.no (dj := 20) rfl rfl h18 (W.no (dj := 20) rfl rfl h18 (W.no (dj := 20) rfl rfl h18 (W.ok (ok_pick_f rfl h18) (W.as (W.nil (thn_n (WC.ret ?_)))))))))))
  refine ⟨.inr rfl, [_], ⟨rfl, trivial⟩, ((b_s, .cells (List.toArray [.slice sa_c c.length sc_c, .slice sa_u u.length sc_u, .slice sa_f f.length sc_f]) 179 (0, 0)) :: (Ms_c ++ (Ms_u ++ (Ms_f ++ [])))), sr9.k9, ?_⟩
  exact ⟨congrArg Value.bool (hasN_big (by omega)), by simp⟩
 have p9 := of_decide_eq_false h9
 refine W.no (dj := 11) rfl rfl h9 (W.no (dj := 11) rfl rfl h9 (W.no (dj := 11) rfl rfl h9 (W.no (dj := 11) rfl rfl h9 (W.no (dj := 11) rfl rfl h9 (W.no (dj := 11) rfl rfl h9 (W.no (dj := 11) rfl rfl h9 (W.ok (ok_pick_f rfl h9) (W.mv (W.no (dj := 20) rfl rfl rfl (W.no (dj := 20) rfl rfl rfl (W.no (dj := 20) rfl rfl rfl (W.no (dj := 20) rfl rfl rfl (W.no (dj := 20) rfl rfl rfl ?_)))))))))))))
 refine W.no (dj := 20) rfl rfl rfl (W.no (dj := 20) rfl rfl rfl (W.ok (ok_pick_f rfl rfl) (W.as (W.nil (thn_n (WC.ret ?_))))))
 refine ⟨.inr rfl, [_], ⟨rfl, trivial⟩, ((b_s, .cells (List.toArray [.slice sa_c c.length sc_c, .slice sa_u u.length sc_u, .slice sa_f f.length sc_f]) 179 (0, 0)) :: (Ms_c ++ (Ms_u ++ (Ms_f ++ [])))), sr9.k9, ?_⟩
 exact ⟨congrArg Value.bool (hasN_neg (by omega)), by simp⟩

theorem ssetn_fc {G : GH} {b_s : Nat} {v_c : Value} {c : List Nd} {Ms_c : MH} (h_c : OwnR eNode 35 G v_c c Ms_c) {v_u : Value} {u : List Bool} {Ms_u : MH} (h_u : OwnR eBool 4 G v_u u Ms_u) {v_f : Value} {f : List Int} {Ms_f : MH} (h_f : OwnR eInt 3 G v_f f Ms_f) (i : Int) {cs_x : List Value} {x : Nd} (h_x : NodeC G cs_x x) (hcu : c.length = u.length) (hn : u.length ≤ 4096) (hh : Heap ltI f) (hp : f.Perm (freeN u)) :
    Fc Try.prog 84 [.pointer (some ⟨b_s, 0, none⟩), .int .i64 i, .agg (List.toArray cs_x)] G ((b_s, .cells (List.toArray [v_c, v_u, v_f]) 179 (0, 0)) :: (Ms_c ++ (Ms_u ++ (Ms_f)))) (fun v G' M' => v = .int .i64 (layA (c, u) i x).1 ∧ ArR eNode 35 4 3 179 b_s G' (layA (c, u) i x).2 M') := by
 obtain ⟨pa_x, pc_x, ka_x, kc_x, ma_x, mc_x, ra_x, rc_x, rfl, hp_x, hk_x, hm_x, hr_x, hok_x⟩ := h_x
 obtain ⟨sa_c, sc_c, rfl⟩ := h_c.form
 obtain ⟨sa_u, sc_u, rfl⟩ := h_u.form
 obtain ⟨sa_f, sc_f, rfl⟩ := h_f.form
 have hl := h_u.len47
 have hlc := h_c.len47
 refine Fc.intro (rs := [.tmp 6]) cl84 Try.func84 rfl Try.ntmps84 rfl rfl (fun w0 => ?_)
 refine WC.perm (M' := ((b_s, .cells (List.toArray [.slice sa_c c.length sc_c, .slice sa_u u.length sc_u, .slice sa_f f.length sc_f]) 179 (0, 0)) :: (Ms_c ++ (Ms_u ++ (Ms_f ++ []))))) (by simp) (WC.seq (WC.region (W.box (L := (nd9 _ _ _ _ _ _ _ _ _ _ _ _ _ _ _ _ _ _)) rfl rfl (fun b5 => (W.as (W.nil (thn_n (WC.seq (WC.seq (WC.region (W.mv (W.ok (ok_eqlPN pp128 rfl rfl) (W.nil (thn_n (WC.cond_f rfl rfl (WC.skip (thn_n ?_)))))))))))))))))
 refine WC.seq (WC.seq (WC.region (W.mv (W.mv (W.call (Mp := ((b_s, .cells (List.toArray [.slice sa_c c.length sc_c, .slice sa_u u.length sc_u, .slice sa_f f.length sc_f]) 179 (0, 0)) :: (Ms_c ++ (Ms_u ++ Ms_f)))) (Mr := ((b5, .cells (List.toArray [.int .i64 x.slot, .int .i64 x.level, .slice pa_x x.pivots.length pc_x, .slice ka_x x.kids.length kc_x, .string x.high.b, .bool x.top, .int .i64 x.right, .int .i64 x.seen, .slice ma_x x.msgs.length mc_x, .slice ra_x x.rows.length rc_x]) 35 (0, 0)) :: [])) (shasn_fc h_c h_u h_f _) rfl (((pmC ((pmF ((pmF pr9).trans pr9)).trans pr9)).cons _).trans ((List.Perm.swap _ _ _).trans (pr9.cons _))) ?_)))))
 intro v9 G6 Ms8 hG6 q7
 refine match q7 with | ⟨e_10, e_11⟩ => ?_
 subst e_10
 subst e_11
 refine W.perm (M' := ((b_s, .cells (List.toArray [.slice sa_c c.length sc_c, .slice sa_u u.length sc_u, .slice sa_f f.length sc_f]) 179 (0, 0)) :: ((b5, .cells (List.toArray [.int .i64 x.slot, .int .i64 x.level, .slice pa_x x.pivots.length pc_x, .slice ka_x x.kids.length kc_x, .string x.high.b, .bool x.top, .int .i64 x.right, .int .i64 x.seen, .slice ma_x x.msgs.length mc_x, .slice ra_x x.rows.length rc_x]) 35 (0, 0)) :: (Ms_c ++ (Ms_u ++ (Ms_f ++ [])))))) (((pmC ((pmF ((pmF pr9).trans pr9)).trans pr9)).cons _).trans pr9).symm (W.ok (ok_not rfl) (W.nil (thn_n ?_)))
 refine WC.cond (b := _) rfl (fun h12 => ?_) (fun h12 => ?_)
 ·refine WC.seq (WC.region (W.as (W.nil (thn_n (WC.ret (thn_r ?_))))))
  refine ⟨.inr rfl, [_], ⟨rfl, trivial⟩, ((b_s, .cells (List.toArray [.slice sa_c c.length sc_c, .slice sa_u u.length sc_u, .slice sa_f f.length sc_f]) 179 (0, 0)) :: (Ms_c ++ (Ms_u ++ (Ms_f ++ [])))), (sr9.cons _).k9, ?_⟩
  exact ⟨congrArg (Value.int .i64) (congrArg Prod.fst (layA_f (st := (c, u)) (by simpa using h12))).symm, ArR.cast (st := (c, u)) ⟨_, ⟨_, _, _, _, _, _, rfl, (h_c.mono hG6), (h_u.mono hG6), (h_f.mono hG6)⟩, hcu, hn, hh, hp⟩ (congrArg Prod.snd (layA_f (st := (c, u)) (by simpa using h12))).symm (by simp)⟩
 have hhi : hasN u i = true := by simpa using h12
 have hil := hasN_lt hhi
 refine WC.skip (thn_n (WC.seq (WC.drawW _ (sn9.k9.k9) mix (by rintro _ _ _ _ ⟨h | h, _⟩ <;> cases h) (WD.tk 0 rfl (ok_mv) (WD.tk 1 rfl (ok_nilP rfl) (WD.tk 2 rfl (ok_fieldB fd179_0 rfl) (WD.tk 3 rfl (ok_loadB (i := 0) (vs := [.slice _ _ _]) ty24 rfl rfl rfl rfl (by simp)) (WD.tk 4 rfl (ok_mv) (WD.tk 5 rfl (ok_loadB (i := 1) (vs := (nd9 _ _ _ _ _ _ _ _ _ _ _ _ _ _ _ _ _ _)) ty35 rfl rfl rfl rfl (by simp)) ?_)))))))))
 have q15 := (h_c.mono hG6).at (i := i.toNat) (by omega)
 refine match q15 with | ⟨_, he12, ⟨pa_n13, pc_n13, ka_n13, kc_n13, ma_n13, mc_n13, ra_n13, rc_n13, e_14, hp_n13, hk_n13, hm_n13, hr_n13, hok_n13⟩⟩ => ?_
 subst e_14
 refine WD.tk 6 rfl (ok_indexAddrO (i := i.toNat) sl24 ty35 (h_c.mono hG6) rfl rfl ⟨by omega, by omega⟩) (WD.a1 7 rfl (W.storeO (i := i.toNat) (o := 0) (vs := (nd9 _ _ _ _ _ _ _ _ _ _ _ _ _ _ _ _ _ _)) (a' := x) ty35 rfl rfl rfl rfl rfl ((h_c.mono hG6)) (pmC (pmC pr9)) (by omega) (by decide) (fun cs h => by obtain ⟨_, _, _, _, _, _, _, _, rfl, _⟩ := h; exact ⟨_, _, _, _, _, _, _, _, rfl, (hp_x.mono hG6), (hk_x.mono hG6), (hm_x.mono hG6), (hr_x.mono hG6), hok_x⟩) (fun Ms16 ho17 => (W.perm (pmC (pmC pr9)).symm (W.nil (WD.n9 Le.rfl (sn9.k9.k9) (WD.done (by kernel_rfl) (thn_n (WC.seq (WC.region (W.as (W.nil (thn_n (WC.ret ?_))))))))))))))
 refine ⟨.inr rfl, [_], ⟨rfl, trivial⟩, ((b_s, .cells (List.toArray [.slice sa_c c.length sc_c, .slice sa_u u.length sc_u, .slice sa_f f.length sc_f]) 179 (0, 0)) :: (Ms16 ++ (Ms_u ++ (Ms_f ++ [])))), (sr9.cons _).k9, ?_⟩
 exact ⟨congrArg (Value.int .i64) (congrArg Prod.fst (layA_t (st := (c, u)) (by simpa using h12))).symm, ArR.cast (st := (c.set i.toNat x, u)) ⟨_, ⟨_, _, _, _, _, _, rfl, ho17, (h_u.mono hG6), (h_f.mono hG6)⟩, (by rw [List.length_set]; exact hcu), hn, hh, hp⟩ (congrArg Prod.snd (layA_t (st := (c, u)) (by simpa using h12))).symm (by simp)⟩

theorem sallocn_fc {G : GH} {b_s : Nat} {v_c : Value} {c : List Nd} {Ms_c : MH} (h_c : OwnR eNode 35 G v_c c Ms_c) {v_u : Value} {u : List Bool} {Ms_u : MH} (h_u : OwnR eBool 4 G v_u u Ms_u) {v_f : Value} {f : List Int} {Ms_f : MH} (h_f : OwnR eInt 3 G v_f f Ms_f) {cs_x : List Value} {x : Nd} (h_x : NodeC G cs_x x) (hcu : c.length = u.length) (hn : u.length ≤ 4096) (hh : Heap ltI f) (hp : f.Perm (freeN u)) :
    Fc Try.prog 86 [.pointer (some ⟨b_s, 0, none⟩), .agg (List.toArray cs_x)] G ((b_s, .cells (List.toArray [v_c, v_u, v_f]) 179 (0, 0)) :: (Ms_c ++ (Ms_u ++ (Ms_f)))) (fun v G' M' => v = .tuple #[.int .i64 (nextA (c, u) x).1.1, .int .i64 (nextA (c, u) x).1.2] ∧ ArR eNode 35 4 3 179 b_s G' (nextA (c, u) x).2 M') := by
 obtain ⟨pa_x, pc_x, ka_x, kc_x, ma_x, mc_x, ra_x, rc_x, rfl, hp_x, hk_x, hm_x, hr_x, hok_x⟩ := h_x
 obtain ⟨sa_c, sc_c, rfl⟩ := h_c.form
 obtain ⟨sa_u, sc_u, rfl⟩ := h_u.form
 obtain ⟨sa_f, sc_f, rfl⟩ := h_f.form
 have hl := h_u.len47
 have hlc := h_c.len47
 have hlf := h_f.len47
 refine Fc.intro (rs := [.tmp 4, .tmp 5]) cl86 Try.func86 rfl Try.ntmps86 rfl rfl (fun w0 => ?_)
 refine WC.perm (M' := ((b_s, .cells (List.toArray [.slice sa_c c.length sc_c, .slice sa_u u.length sc_u, .slice sa_f f.length sc_f]) 179 (0, 0)) :: (Ms_c ++ (Ms_u ++ (Ms_f ++ []))))) (by simp) (WC.seq (WC.region (W.box (L := (nd9 _ _ _ _ _ _ _ _ _ _ _ _ _ _ _ _ _ _)) rfl rfl (fun b18 => (W.as (W.as (W.nil (thn_n (WC.seq (WC.seq (WC.region (W.mv (W.ok (ok_eqlPN pp128 rfl rfl) (W.nil (thn_n (WC.cond_f rfl rfl ?_))))))))))))))))
 refine WC.skip (thn_n (WC.seq (WC.seq (WC.region (W.mv (W.ok (ok_nilP rfl) (W.ok (ok_fieldB fd179_2 rfl) (W.ok (ok_loadB (i := 1) (vs := [.slice _ _ _]) ty177 rfl rfl rfl rfl (by simp)) (W.ok (ok_lenO sl177 h_f rfl) (W.ok (ok_eql rfl rfl) (W.nil (thn_n ?_))))))))))))
 refine WC.cond (b := _) rfl (fun h14 => ?_) (fun h14 => ?_)
 ·have p14 := of_decide_eq_true h14
  refine WC.seq (WC.region (W.as (W.as (W.nil (thn_n (WC.ret (thn_r ?_)))))))
  refine ⟨.inr rfl, [_, _], ⟨rfl, rfl, trivial⟩, ((b_s, .cells (List.toArray [.slice sa_c c.length sc_c, .slice sa_u u.length sc_u, .slice sa_f f.length sc_f]) 179 (0, 0)) :: (Ms_c ++ (Ms_u ++ (Ms_f ++ [])))), sr9.k9.cons _, ?_⟩
  have hE := nextA_f (st := (c, u)) (x := x) (free_zero (u := u) (by have := hp.length_eq; omega))
  exact ⟨congrArg (fun r : Int × Int => Value.tuple #[.int .i64 r.1, .int .i64 r.2]) (congrArg Prod.fst hE).symm, ArR.cast (st := (c, u)) ⟨_, ⟨_, _, _, _, _, _, rfl, h_c, h_u, h_f⟩, hcu, hn, hh, hp⟩ (congrArg Prod.snd hE).symm (by simp)⟩
 have p14 := of_decide_eq_false h14
 refine WC.skip (thn_n (WC.seq (WC.region (W.mv (W.ok (ok_nilP rfl) (W.ok (ok_fieldB fd179_2 rfl) (W.ok (ok_mkI pi181 rfl) (W.call (Mp := ((b_s, .cells (List.toArray [.slice sa_c c.length sc_c, .slice sa_u u.length sc_u, .slice sa_f f.length sc_f]) 179 (0, 0)) :: Ms_f)) (Mr := ((b18, .cells (List.toArray [.int .i64 x.slot, .int .i64 x.level, .slice pa_x x.pivots.length pc_x, .slice ka_x x.kids.length kc_x, .string x.high.b, .bool x.top, .int .i64 x.right, .int .i64 x.seen, .slice ma_x x.msgs.length mc_x, .slice ra_x x.rows.length rc_x]) 35 (0, 0)) :: (Ms_c ++ (Ms_u ++ [])))) (hpop_fc (least_heap (b := b_s) (Tb := 179) (c0 := .slice sa_c c.length sc_c) (c1 := .slice sa_u u.length sc_u)) ⟨_, _, rfl, h_f⟩ (by omega)) rfl (((pmC (pmA (pmA pr9))).cons _).trans ((List.Perm.swap _ _ _).trans (pr9.cons _))) ?_))))))))
 intro v22 G19 Ms21 hG19 q20
 refine match q20 with | ⟨⟨hv_z23, hi_z23⟩, ⟨vf_z23, Mf_z23, e_24, hf_z23⟩⟩ => ?_
 subst e_24
 have q26 := hf_z23.form
 refine match q26 with | ⟨sa_z23, sc_z23, e_25⟩ => ?_
 subst e_25
 obtain ⟨hlt, hee, hh2, hp2⟩ := take_first hh hp (by omega)
 rw [hee] at hv_z23
 subst hv_z23
 refine W.perm (M' := ((b_s, .cells (List.toArray [.slice sa_c c.length sc_c, .slice sa_u u.length sc_u, .slice sa_z23 ((popL ltI f)).length sc_z23]) 179 (0, 0)) :: ((b18, .cells (List.toArray [.int .i64 x.slot, .int .i64 x.level, .slice pa_x x.pivots.length pc_x, .slice ka_x x.kids.length kc_x, .string x.high.b, .bool x.top, .int .i64 x.right, .int .i64 x.seen, .slice ma_x x.msgs.length mc_x, .slice ra_x x.rows.length rc_x]) 35 (0, 0)) :: (Mf_z23 ++ (Ms_c ++ (Ms_u ++ [])))))) (((pmC pr9).cons _).trans pr9).symm (W.ok (ok_tyA pi3 rfl) (W.as (W.nil (thn_n (WC.seq (WC.drawW _ (sn9.k9.k9) mix (by rintro _ _ _ _ ⟨h | h, _⟩ <;> cases h) (WD.tk 0 rfl (ok_mv) (WD.tk 1 rfl (ok_nilP rfl) (WD.tk 2 rfl (ok_fieldB fd179_0 rfl) (WD.tk 3 rfl (ok_loadB (i := 0) (vs := [.slice _ _ _]) ty24 rfl rfl rfl rfl (by simp)) (WD.tk 4 rfl (ok_mv) (WD.tk 5 rfl (ok_mv) (WD.tk 6 rfl (ok_nilP rfl) (WD.tk 7 rfl (ok_fieldB fd179_1 rfl) ?_))))))))))))))
 refine WD.tk 8 rfl (ok_loadB (i := 0) (vs := [.slice _ _ _]) ty176 rfl rfl rfl rfl (by simp)) (WD.tk 9 rfl (ok_mv) (WD.tk 10 rfl (ok_loadB (i := 1) (vs := (nd9 _ _ _ _ _ _ _ _ _ _ _ _ _ _ _ _ _ _)) ty35 rfl rfl rfl rfl (by simp)) ?_))
 have q30 := (h_c.mono hG19).at (i := (firstN u)) (by omega)
 refine match q30 with | ⟨_, he27, ⟨pa_n28, pc_n28, ka_n28, kc_n28, ma_n28, mc_n28, ra_n28, rc_n28, e_29, hp_n28, hk_n28, hm_n28, hr_n28, hok_n28⟩⟩ => ?_
 subst e_29
 refine WD.tk 11 rfl (ok_indexAddrO (i := (firstN u)) sl24 ty35 (h_c.mono hG19) rfl rfl ⟨by omega, by omega⟩) (WD.a1 12 rfl (W.storeO (i := (firstN u)) (o := 0) (vs := (nd9 _ _ _ _ _ _ _ _ _ _ _ _ _ _ _ _ _ _)) (a' := x) ty35 rfl rfl rfl rfl rfl ((h_c.mono hG19)) (pmC (pmC (pmA pr9))) (by omega) (by decide) (fun cs h => by obtain ⟨_, _, _, _, _, _, _, _, rfl, _⟩ := h; exact ⟨_, _, _, _, _, _, _, _, rfl, (hp_x.mono hG19), (hk_x.mono hG19), (hm_x.mono hG19), (hr_x.mono hG19), hok_x⟩) (fun Ms31 ho32 => (W.perm (pmC (pmC pr9)).symm (W.nil (WD.n9 Le.rfl (sn9.k9.k9) ?_))))))
 have q36 := (h_u.mono hG19).at (i := (firstN u)) (by omega)
 refine match q36 with | ⟨_, he33, e_35⟩ => ?_
 subst e_35
 refine WD.tk 13 rfl (ok_indexAddrO (i := (firstN u)) sl176 ty4 (h_u.mono hG19) rfl rfl ⟨by omega, by omega⟩) (WD.a1 14 rfl (W.storeO (i := (firstN u)) (o := 0) (vs := [.bool _]) (a' := true) ty4 rfl rfl rfl rfl rfl ((h_u.mono hG19)) (pmC (pmC (pmA (pmA pr9)))) (by omega) (by decide) (fun cs h => by rw [h]; rfl) (fun Ms37 ho38 => (W.perm (pmC (pmC pr9)).symm (W.nil (WD.n9 Le.rfl (sn9.k9.k9) (WD.done (by kernel_rfl) (thn_n (WC.seq (WC.region (W.mv (W.as (W.as (W.nil (thn_n (WC.perm (M' := ((b_s, .cells (List.toArray [.slice sa_c c.length sc_c, .slice sa_u u.length sc_u, .slice sa_z23 ((popL ltI f)).length sc_z23]) 179 (0, 0)) :: ((b18, .cells (List.toArray [.int .i64 x.slot, .int .i64 x.level, .slice pa_x x.pivots.length pc_x, .slice ka_x x.kids.length kc_x, .string x.high.b, .bool x.top, .int .i64 x.right, .int .i64 x.seen, .slice ma_x x.msgs.length mc_x, .slice ra_x x.rows.length rc_x]) 35 (0, 0)) :: (Ms31 ++ (Ms37 ++ (Mf_z23 ++ [])))))) ((((List.Perm.append_left _ ((List.Perm.append_left _ ((List.Perm.append_left _ pr9).trans pr9)).trans pr9)).trans (pmA pr9)).cons _).cons _) (WC.ret ?_)))))))))))))))))
 refine ⟨.inr rfl, [_, _], ⟨rfl, rfl, trivial⟩, ((b_s, .cells (List.toArray [.slice sa_c c.length sc_c, .slice sa_u u.length sc_u, .slice sa_z23 ((popL ltI f)).length sc_z23]) 179 (0, 0)) :: (Ms31 ++ (Ms37 ++ (Mf_z23 ++ [])))), (sr9.cons _).k9, ?_⟩
 have hE := nextA_t (st := (c, u)) (x := x) hlt
 exact ⟨congrArg (fun r : Int × Int => Value.tuple #[.int .i64 r.1, .int .i64 r.2]) (congrArg Prod.fst hE).symm, ArR.cast (st := (c.set (firstN u) x, u.set (firstN u) true)) ⟨_, ⟨_, _, _, _, _, _, rfl, ho32, ho38, hf_z23⟩, (by rw [List.length_set, List.length_set]; exact hcu), (by rw [List.length_set]; exact hn), hh2, hp2⟩ (congrArg Prod.snd hE).symm (by simp)⟩

theorem sgetn_fc {G : GH} {b_s : Nat} {v_c : Value} {c : List Nd} {Ms_c : MH} (h_c : OwnR eNode 35 G v_c c Ms_c) {v_u : Value} {u : List Bool} {Ms_u : MH} (h_u : OwnR eBool 4 G v_u u Ms_u) {v_f : Value} {f : List Int} {Ms_f : MH} (h_f : OwnR eInt 3 G v_f f Ms_f) (i : Int) (hcu : c.length = u.length) :
    Fc Try.prog 87 [.pointer (some ⟨b_s, 0, none⟩), .int .i64 i] G ((b_s, .cells (List.toArray [v_c, v_u, v_f]) 179 (0, 0)) :: (Ms_c ++ (Ms_u ++ (Ms_f)))) (fun v G' M' => ∃ cs, v = .tuple #[.agg (List.toArray cs), .bool (hasN u i)] ∧ NodeC G' cs (getA (c, u) i Nd.zero) ∧ M' = (b_s, .cells (List.toArray [v_c, v_u, v_f]) 179 (0, 0)) :: (Ms_c ++ (Ms_u ++ Ms_f))) := by
 obtain ⟨sa_c, sc_c, rfl⟩ := h_c.form
 obtain ⟨sa_u, sc_u, rfl⟩ := h_u.form
 obtain ⟨sa_f, sc_f, rfl⟩ := h_f.form
 have hl := h_u.len47
 have hlc := h_c.len47
 refine Fc.intro (rs := [.cell 4 35, .tmp 5]) cl87 Try.func87 rfl Try.ntmps87 rfl rfl (fun w0 => ?_)
 refine WC.perm (M' := ((b_s, .cells (List.toArray [.slice sa_c c.length sc_c, .slice sa_u u.length sc_u, .slice sa_f f.length sc_f]) 179 (0, 0)) :: (Ms_c ++ (Ms_u ++ (Ms_f ++ []))))) (by simp) (WC.seq (WC.region (W.alloc zr35 (fun b39 => (W.as (W.nil (thn_n (WC.seq (WC.seq (WC.region (W.mv (W.mv (W.call (Mp := ((b_s, .cells (List.toArray [.slice sa_c c.length sc_c, .slice sa_u u.length sc_u, .slice sa_f f.length sc_f]) 179 (0, 0)) :: (Ms_c ++ (Ms_u ++ Ms_f)))) (Mr := ((b39, .cells (List.toArray [.int .i64 0, .int .i64 0, .slice none 0 0, .slice none 0 0, .string ⟨#[]⟩, .bool false, .int .i64 0, .int .i64 0, .slice none 0 0, .slice none 0 0]) 35 (0, 0)) :: [])) (shasn_fc h_c h_u h_f _) rfl (((pmC ((pmF ((pmF pr9).trans pr9)).trans pr9)).cons _).trans ((List.Perm.swap _ _ _).trans (pr9.cons _))) ?_)))))))))))))
 intro v43 G40 Ms42 hG40 q41
 refine match q41 with | ⟨e_44, e_45⟩ => ?_
 subst e_44
 subst e_45
 refine W.perm (M' := ((b_s, .cells (List.toArray [.slice sa_c c.length sc_c, .slice sa_u u.length sc_u, .slice sa_f f.length sc_f]) 179 (0, 0)) :: ((b39, .cells (List.toArray [.int .i64 0, .int .i64 0, .slice none 0 0, .slice none 0 0, .string ⟨#[]⟩, .bool false, .int .i64 0, .int .i64 0, .slice none 0 0, .slice none 0 0]) 35 (0, 0)) :: (Ms_c ++ (Ms_u ++ (Ms_f ++ [])))))) (((pmC ((pmF ((pmF pr9).trans pr9)).trans pr9)).cons _).trans pr9).symm (W.ok (ok_not rfl) (W.nil (thn_n ?_)))
 refine WC.cond (b := _) rfl (fun h9 => ?_) (fun h9 => ?_)
 ·have hhi : hasN u i = false := by simpa using h9
  refine WC.seq (WC.region (W.ok (ok_loadB (i := 1) (vs := (nd9 _ _ _ _ _ _ _ _ _ _ _ _ _ _ _ _ _ _)) ty35 rfl rfl rfl rfl (by simp)) (W.store (i := 1) (vs := (nd9 _ _ _ _ _ _ _ _ _ _ _ _ _ _ _ _ _ _)) (L' := (nd9 _ _ _ _ _ _ _ _ _ _ _ _ _ _ _ _ _ _)) ty35 rfl rfl rfl rfl rfl rfl rfl rfl (W.as (W.nil (thn_n (WC.ret (thn_r ?_))))))))
  refine ⟨.inr rfl, [_, _], ⟨⟨_, _, _, _, _, rfl, nthM_mem (i := 1) rfl, ty35, (by simp), rfl, rfl⟩, rfl, trivial⟩, ((b_s, .cells (List.toArray [.slice sa_c c.length sc_c, .slice sa_u u.length sc_u, .slice sa_f f.length sc_f]) 179 (0, 0)) :: (Ms_c ++ (Ms_u ++ (Ms_f ++ [])))), (sr9.cons _).k9, ?_⟩
  refine ⟨_, ?_, NodeC.cast ⟨_, _, _, _, _, _, _, _, rfl, SlR.nil, SlR.nil, SlR.nil, SlR.nil, Nd.zero_ok⟩ (getA_f (st := (c, u)) hhi).symm, by simp⟩
  rw [hhi]; rfl
 have hhi : hasN u i = true := by simpa using h9
 have hil := hasN_lt hhi
 refine WC.skip (thn_n (WC.seq (WC.region (W.mv (W.ok (ok_nilP rfl) (W.ok (ok_fieldB fd179_0 rfl) (W.ok (ok_loadB (i := 0) (vs := [.slice _ _ _]) ty24 rfl rfl rfl rfl (by simp)) (W.mv ?_))))))))
 have q49 := (h_c.mono hG40).at (i := i.toNat) (by omega)
 refine match q49 with | ⟨_, he46, ⟨pa_n47, pc_n47, ka_n47, kc_n47, ma_n47, mc_n47, ra_n47, rc_n47, e_48, hp_n47, hk_n47, hm_n47, hr_n47, hok_n47⟩⟩ => ?_
 subst e_48
 refine W.ok (ok_indexAddrO (i := i.toNat) sl24 ty35 (h_c.mono hG40) rfl rfl ⟨by omega, by omega⟩) (W.ok (ok_loadO (vs := (nd9 _ _ _ _ _ _ _ _ _ _ _ _ _ _ _ _ _ _)) ty35 he46 (pmC (pmC pr9)) rfl rfl rfl (by simp)) (W.store (i := 1) (vs := (nd9 _ _ _ _ _ _ _ _ _ _ _ _ _ _ _ _ _ _)) (L' := (nd9 _ _ _ _ _ _ _ _ _ _ _ _ _ _ _ _ _ _)) ty35 rfl rfl rfl rfl rfl rfl rfl rfl (W.as (W.nil (thn_n (WC.ret ?_))))))
 refine ⟨.inr rfl, [_, _], ⟨⟨_, _, _, _, _, rfl, nthM_mem (i := 1) rfl, ty35, (by simp), rfl, rfl⟩, rfl, trivial⟩, ((b_s, .cells (List.toArray [.slice sa_c c.length sc_c, .slice sa_u u.length sc_u, .slice sa_f f.length sc_f]) 179 (0, 0)) :: (Ms_c ++ (Ms_u ++ (Ms_f ++ [])))), (sr9.cons _).k9, ?_⟩
 refine ⟨_, ?_, NodeC.cast ⟨_, _, _, _, _, _, _, _, rfl, hp_n47, hk_n47, hm_n47, hr_n47, hok_n47⟩ (getA_t (st := (c, u)) hhi (by show _ < c.length; omega)).symm, by simp⟩
 rw [hhi]; rfl

theorem susedn_fc {G : GH} {b_s : Nat} {v_c : Value} {c : List Nd} {Ms_c : MH} (h_c : OwnR eNode 35 G v_c c Ms_c) {v_u : Value} {u : List Bool} {Ms_u : MH} (h_u : OwnR eBool 4 G v_u u Ms_u) {v_f : Value} {f : List Int} {Ms_f : MH} (h_f : OwnR eInt 3 G v_f f Ms_f) (hcu : c.length = u.length) (hn : u.length ≤ 4096) (hh : Heap ltI f) (hp : f.Perm (freeN u)) :
    Fc Try.prog 91 [.pointer (some ⟨b_s, 0, none⟩)] G ((b_s, .cells (List.toArray [v_c, v_u, v_f]) 179 (0, 0)) :: (Ms_c ++ (Ms_u ++ (Ms_f)))) (fun v G' M' => v = .int .i64 ((usedN u).length : Int) ∧ M' = (b_s, .cells (List.toArray [v_c, v_u, v_f]) 179 (0, 0)) :: (Ms_c ++ (Ms_u ++ Ms_f))) := by
 obtain ⟨sa_c, sc_c, rfl⟩ := h_c.form
 obtain ⟨sa_u, sc_u, rfl⟩ := h_u.form
 obtain ⟨sa_f, sc_f, rfl⟩ := h_f.form
 have hl := h_u.len47
 have hlf := h_f.len47
 have hfu := free_used u
 have hpl := hp.length_eq
 refine Fc.intro (rs := [.tmp 2]) cl91 Try.func91 rfl Try.ntmps91 rfl rfl (fun w0 => ?_)
 refine WC.perm (M' := ((b_s, .cells (List.toArray [.slice sa_c c.length sc_c, .slice sa_u u.length sc_u, .slice sa_f f.length sc_f]) 179 (0, 0)) :: (Ms_c ++ (Ms_u ++ (Ms_f ++ []))))) (by simp) (WC.seq (WC.region (W.as (W.nil (thn_n (WC.seq (WC.seq (WC.region (W.mv (W.ok (ok_eqlPN pp128 rfl rfl) (W.nil (thn_n (WC.cond_f rfl rfl (WC.skip (thn_n (WC.seq ?_))))))))))))))))
 refine WC.draw mix (by kernel_rfl) (W.mv (W.ok (ok_nilP rfl) (W.ok (ok_fieldB fd179_1 rfl) (W.ok (ok_loadB (i := 0) (vs := [.slice _ _ _]) ty176 rfl rfl rfl rfl (by simp)) (W.ok (ok_lenO sl176 h_u rfl) (W.mv (W.ok (ok_nilP rfl) (W.ok (ok_fieldB fd179_2 rfl) (W.ok (ok_loadB (i := 0) (vs := [.slice _ _ _]) ty177 rfl rfl rfl rfl (by simp)) (W.ok (ok_lenO sl177 h_f rfl) (W.ok (ok_sub rfl rfl (by omega)) (W.as (W.nil (thn_n ?_))))))))))))))
 refine WC.ret ?_
 refine ⟨.inr rfl, [_], ⟨rfl, trivial⟩, ((b_s, .cells (List.toArray [.slice sa_c c.length sc_c, .slice sa_u u.length sc_u, .slice sa_f f.length sc_f]) 179 (0, 0)) :: (Ms_c ++ (Ms_u ++ (Ms_f ++ [])))), sr9.k9, ?_⟩
 exact ⟨congrArg (Value.int .i64) (by omega), by simp⟩

theorem sroomn_fc {G : GH} {b_s : Nat} {v_c : Value} {c : List Nd} {Ms_c : MH} (h_c : OwnR eNode 35 G v_c c Ms_c) {v_u : Value} {u : List Bool} {Ms_u : MH} (h_u : OwnR eBool 4 G v_u u Ms_u) {v_f : Value} {f : List Int} {Ms_f : MH} (h_f : OwnR eInt 3 G v_f f Ms_f) (hcu : c.length = u.length) (hn : u.length ≤ 4096) (hh : Heap ltI f) (hp : f.Perm (freeN u)) :
    Fc Try.prog 92 [.pointer (some ⟨b_s, 0, none⟩)] G ((b_s, .cells (List.toArray [v_c, v_u, v_f]) 179 (0, 0)) :: (Ms_c ++ (Ms_u ++ (Ms_f)))) (fun v G' M' => v = .int .i64 ((freeN u).length : Int) ∧ M' = (b_s, .cells (List.toArray [v_c, v_u, v_f]) 179 (0, 0)) :: (Ms_c ++ (Ms_u ++ Ms_f))) := by
 obtain ⟨sa_c, sc_c, rfl⟩ := h_c.form
 obtain ⟨sa_u, sc_u, rfl⟩ := h_u.form
 obtain ⟨sa_f, sc_f, rfl⟩ := h_f.form
 have hl := h_u.len47
 have hlf := h_f.len47
 have hfu := free_used u
 have hpl := hp.length_eq
 refine Fc.intro (rs := [.tmp 2]) cl92 Try.func92 rfl Try.ntmps92 rfl rfl (fun w0 => ?_)
 refine WC.perm (M' := ((b_s, .cells (List.toArray [.slice sa_c c.length sc_c, .slice sa_u u.length sc_u, .slice sa_f f.length sc_f]) 179 (0, 0)) :: (Ms_c ++ (Ms_u ++ (Ms_f ++ []))))) (by simp) (WC.seq (WC.region (W.as (W.nil (thn_n (WC.seq (WC.seq (WC.region (W.mv (W.ok (ok_eqlPN pp128 rfl rfl) (W.nil (thn_n (WC.cond_f rfl rfl (WC.skip (thn_n (WC.seq ?_))))))))))))))))
 refine WC.region (W.mv (W.ok (ok_nilP rfl) (W.ok (ok_fieldB fd179_2 rfl) (W.ok (ok_loadB (i := 0) (vs := [.slice _ _ _]) ty177 rfl rfl rfl rfl (by simp)) (W.ok (ok_lenO sl177 h_f rfl) (W.as (W.nil (thn_n (WC.ret ?_)))))))))
 refine ⟨.inr rfl, [_], ⟨rfl, trivial⟩, ((b_s, .cells (List.toArray [.slice sa_c c.length sc_c, .slice sa_u u.length sc_u, .slice sa_f f.length sc_f]) 179 (0, 0)) :: (Ms_c ++ (Ms_u ++ (Ms_f ++ [])))), sr9.k9, ?_⟩
 exact ⟨congrArg (Value.int .i64) (by omega), by simp⟩

theorem slistn_fc {G : GH} {b_s : Nat} {v_c : Value} {c : List Nd} {Ms_c : MH} (h_c : OwnR eNode 35 G v_c c Ms_c) {v_u : Value} {u : List Bool} {Ms_u : MH} (h_u : OwnR eBool 4 G v_u u Ms_u) {v_f : Value} {f : List Int} {Ms_f : MH} (h_f : OwnR eInt 3 G v_f f Ms_f) (hcu : c.length = u.length) (hn : u.length ≤ 4096) (hh : Heap ltI f) (hp : f.Perm (freeN u)) :
    Fc Try.prog 90 [.pointer (some ⟨b_s, 0, none⟩)] G ((b_s, .cells (List.toArray [v_c, v_u, v_f]) 179 (0, 0)) :: (Ms_c ++ (Ms_u ++ (Ms_f)))) (fun v G' M' => SlR eInt G' v (usedN u) ∧ M' = (b_s, .cells (List.toArray [v_c, v_u, v_f]) 179 (0, 0)) :: (Ms_c ++ (Ms_u ++ Ms_f))) := by
 obtain ⟨sa_c, sc_c, rfl⟩ := h_c.form
 obtain ⟨sa_u, sc_u, rfl⟩ := h_u.form
 obtain ⟨sa_f, sc_f, rfl⟩ := h_f.form
 have hl := h_u.len47
 have hlf := h_f.len47
 have hfu := free_used u
 have hpl := hp.length_eq
 refine Fc.intro (rs := [.tmp 2]) cl90 Try.func90 rfl Try.ntmps90 rfl rfl (fun w0 => ?_)
 refine WC.perm (M' := ((b_s, .cells (List.toArray [.slice sa_c c.length sc_c, .slice sa_u u.length sc_u, .slice sa_f f.length sc_f]) 179 (0, 0)) :: (Ms_c ++ (Ms_u ++ (Ms_f ++ []))))) (by simp) (WC.seq (WC.region (W.as (W.nil (thn_n (WC.seq (WC.region (W.as (W.nil (thn_n (WC.seq (WC.seq (WC.region (W.mv (W.ok (ok_neqPN pp128 rfl rfl) ?_)))))))))))))))
 refine W.nil (thn_n (WC.cond_t rfl rfl (WC.seq (WC.region (W.mv (W.ok (ok_nilP rfl) (W.ok (ok_fieldB fd179_1 rfl) (W.ok (ok_loadB (i := 0) (vs := [.slice _ _ _]) ty176 rfl rfl rfl rfl (by simp)) (W.ok (ok_lenO sl176 h_u rfl) (W.mv (W.nil (thn_n (WC.block ?_)))))))))))))
 refine WC.loop (X := (Nat) × Value × MH) (fun k => [(13, .int .i64 ((k.1 : Nat) : Int)), (11, .slice sa_u u.length sc_u), (12, .int .i64 (((u).length : Nat) : Int)), (3, k.2.1)]) (fun k G Ml => Ml = ((b_s, .cells (List.toArray [.slice sa_c c.length sc_c, .slice sa_u u.length sc_u, .slice sa_f f.length sc_f]) 179 (0, 0)) :: (k.2.2 ++ (Ms_c ++ (Ms_u ++ (Ms_f ++ []))))) ∧ OwnR eInt 3 G k.2.1 (usedK u k.1) k.2.2 ∧ k.1 ≤ u.length) (fun k => u.length - k.1) (0, .slice none 0 0, ([] : MH)) ⟨eqv, eqv, eqv, eqv, trivial⟩ ?_ ?_
 ·exact ⟨rfl, (by exact OwnR.nil), by omega⟩
 rintro ⟨k, v_3, M_3⟩ gG50 G50 _ hG50 ⟨rfl, ho_3, hk⟩
 try dsimp only at ho_3 hk
 have hkl := usedK_len u k
 refine WC.fr (f := setL gG50 [(13, .int .i64 ((k : Nat) : Int)), (11, .slice sa_u u.length sc_u), (12, .int .i64 (((u).length : Nat) : Int)), (3, v_3)]) rfl (WC.seq (WC.region (W.ok (ok_lss rfl rfl) (W.nil (thn_n (WC.seq ?_))))))
 refine WC.cond (b := _) rfl (fun h14 => ?_) (fun h14 => ?_)
 ·have p14 := of_decide_eq_true h14
  refine WC.skip (thn_n (WC.seq (WC.block (WC.seq (WC.region (W.mv ?_))))))
  have q54 := (h_u.mono hG50).at (i := k) (by omega)
  refine match q54 with | ⟨_, he51, e_53⟩ => ?_
  subst e_53
  refine W.ok (ok_indexAddrO (i := k) sl176 ty4 (h_u.mono hG50) rfl rfl ⟨by omega, by omega⟩) (W.ok (ok_loadO (vs := [.bool _]) ty4 he51 (pmC (pmA (pmA pr9))) rfl rfl rfl (by simp)) (W.as (W.as (W.nil (thn_n (WC.seq (WC.region (W.mv (W.nil (thn_n ?_))))))))))
  refine WC.cond (b := _) rfl (fun he52 => ?_) (fun he52 => ?_)
  ·refine WC.region (W.mv (W.mv (W.lit (e := eInt) (l := [_]) (css := [[.int .i64 _]]) sl30 ty3 zr3 rfl rfl rfl rfl rfl rfl ⟨⟨rfl, by omega, by omega⟩, trivial⟩ (fun bl55 G55 hG55 hv55 => (W.app (e := eInt) sl30 ty3 zr3 rfl by3 rfl rfl ((ho_3.mono hG55)) (hv55) (pmC pr9) (by show (_ + 1) * 8 ≤ _; omega) (fun v56 Ms57 ho58 => (W.perm (pmC pr9).symm ?_)))))))
   have q62 := ho58.form
   refine match q62 with | ⟨sa59, sc60, e_61⟩ => ?_
   subst e_61
   refine W.as (W.nil (blk_n (thn_n (WC.region (W.ok (ok_add rfl rfl (by omega)) (W.mv (W.nil (thn_n ?_))))))))
   exact ⟨hG55, (k + 1, .slice sa59 ((usedK u k ++ _)).length sc60, Ms57), ⟨eqv, eqv, eqv, eqv, trivial⟩, ⟨rfl, (by have h := ho58; rw [usedK_t (by omega) he52]; exact h), by omega⟩, by omega⟩
  refine WC.skip (blk_n (thn_n (WC.region (W.ok (ok_add rfl rfl (by omega)) (W.mv (W.nil (thn_n ?_)))))))
  exact ⟨Le.rfl, (k + 1, v_3, M_3), ⟨eqv, eqv, eqv, eqv, trivial⟩, ⟨rfl, (by have h := ho_3; rw [usedK_f (by omega) he52]; exact h), by omega⟩, by omega⟩
 have p14 := of_decide_eq_false h14
 refine WC.exit (thn_x (thn_x (blk_h (thn_n (WC.seq (WC.region (W.mv (W.as (W.nil (thn_n (WC.giveO ho_3 (pmC pr9) (fun G63 hG63 hv63 => (WC.ret ?_)))))))))))))
 refine ⟨.inr rfl, [_], ⟨rfl, trivial⟩, ((b_s, .cells (List.toArray [.slice sa_c c.length sc_c, .slice sa_u u.length sc_u, .slice sa_f f.length sc_f]) 179 (0, 0)) :: (Ms_c ++ (Ms_u ++ (Ms_f ++ [])))), sr9.k9, ?_⟩
 exact ⟨SlR.cast hv63 (by rw [used_eq]; congr 1; omega), by simp⟩

end Go.Proofs.Ytmbafmifalppaaa
