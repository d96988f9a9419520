/- Walks of arenas. -/
import Derived.Test.YtfmigmijckdldaaGreatQgMi
set_option maxRecDepth 100000
set_option maxHeartbeats 1600000
set_option linter.unusedVariables false
set_option linter.unusedSimpArgs false
set_option linter.unnecessarySimpa false
namespace Go.Proofs.YtfmigmijckdldaaGreat
open Go Go.Fw Go.RowKit
attribute [local irreducible] Ok W WC
theorem shasn_fc {G : GH} {b_s : Nat} {v_c : Value} {c : List Nd} {Ms_c : MH} (h_c : OwnR eNode 53 G v_c c Ms_c) {v_u : Value} {u : List Bool} {Ms_u : MH} (h_u : OwnR eBool 4 G v_u u Ms_u) {v_f : Value} {f : List Int} {Ms_f : MH} (h_f : OwnR eInt 3 G v_f f Ms_f) (i : Int) :
    Fc Tryz.prog 96 [pt9 b_s, iV i] G ((b_s, ce9 125 [v_c, v_u, v_f]) :: (Ms_c ++ (Ms_u ++ (Ms_f)))) (fun v G' M' => v = .bool (hasN u i) ∧ M' = (b_s, ce9 125 [v_c, v_u, v_f]) :: (Ms_c ++ (Ms_u ++ Ms_f))) := by
 obtain ⟨sa_c, sc_c, rfl⟩ := h_c.form
 obtain ⟨sa_u, sc_u, rfl⟩ := h_u.form
 obtain ⟨sa_f, sc_f, rfl⟩ := h_f.form
 have hl := h_u.len47
 refine Fc.go [.tmp 4] Tryz.func96 Tryz.ntmps96 rfl (fun w0 => (WC.perm (M' := ((b_s, ce9 125 [lV sa_c c.length sc_c, lV sa_u u.length sc_u, lV sa_f f.length sc_f]) :: (Ms_c ++ (Ms_u ++ (Ms_f ++ []))))) (by simp) (g9 8 ?_)))
 refine W.ok (ok_neqPN pp76 rfl rfl) (g9 7 ?_)
 refine W.sd 11 (fun h9 p9 => ?_) (fun h9 p9 => ?_)
 ·refine g9 16 ?_
  refine W.sd 20 (fun h18 p18 => ?_) (fun h18 p18 => ?_)
  ·refine g9 11 ?_
   refine h_u.a1 (i := i.toNat) om9 (fun he1 => (W.ok (ok_indexAddrO (i := i.toNat) sl122 ty4 h_u rfl rfl ⟨om9, om9⟩) (g9 1 ?_)))
   refine W.ok (ok_loadO (vs := bc9) ty4 he1 (pmC (pmA pr9)) rfl rfl rfl (by simp)) (g9 5 ?_)
   refine ⟨.inr rfl, [_], ⟨rfl, trivial⟩, ((b_s, ce9 125 [lV sa_c c.length sc_c, lV sa_u u.length sc_u, lV sa_f f.length sc_f]) :: (Ms_c ++ (Ms_u ++ (Ms_f ++ [])))), sr9.k9, ?_⟩
   exact ⟨congrArg Value.bool (hasN_get om9 om9), by simp⟩
  refine g9 12 ?_
  refine ⟨.inr rfl, [_], ⟨rfl, trivial⟩, ((b_s, ce9 125 [lV sa_c c.length sc_c, lV sa_u u.length sc_u, lV sa_f f.length sc_f]) :: (Ms_c ++ (Ms_u ++ (Ms_f ++ [])))), sr9.k9, ?_⟩
  exact ⟨congrArg Value.bool (hasN_big om9), by simp⟩
 refine g9 21 ?_
 refine ⟨.inr rfl, [_], ⟨rfl, trivial⟩, ((b_s, ce9 125 [lV sa_c c.length sc_c, lV sa_u u.length sc_u, lV sa_f f.length sc_f]) :: (Ms_c ++ (Ms_u ++ (Ms_f ++ [])))), sr9.k9, ?_⟩
 exact ⟨congrArg Value.bool (hasN_neg om9), by simp⟩

theorem ssetn_fc {G : GH} {b_s : Nat} {v_c : Value} {c : List Nd} {Ms_c : MH} (h_c : OwnR eNode 53 G v_c c Ms_c) {v_u : Value} {u : List Bool} {Ms_u : MH} (h_u : OwnR eBool 4 G v_u u Ms_u) {v_f : Value} {f : List Int} {Ms_f : MH} (h_f : OwnR eInt 3 G v_f f Ms_f) (i : Int) {cs_x : List Value} {x : Nd} (h_x : NodeC G cs_x x) (hcu : c.length = u.length) (hn : u.length ≤ 4096) (hh : Heap ltI f) (hp : f.Perm (freeN u)) :
    Fc Tryz.prog 61 [pt9 b_s, iV i, .agg (List.toArray cs_x)] G ((b_s, ce9 125 [v_c, v_u, v_f]) :: (Ms_c ++ (Ms_u ++ (Ms_f)))) (fun v G' M' => v = iV (layA (c, u) i x).1 ∧ ArR eNode 53 4 3 125 b_s G' (layA (c, u) i x).2 M') := by
 obtain ⟨pa_x, pc_x, ka_x, kc_x, ma_x, mc_x, ra_x, rc_x, rfl, hp_x, hk_x, hm_x, hr_x, hok_x⟩ := h_x
 obtain ⟨sa_c, sc_c, rfl⟩ := h_c.form
 obtain ⟨sa_u, sc_u, rfl⟩ := h_u.form
 obtain ⟨sa_f, sc_f, rfl⟩ := h_f.form
 have hl := h_u.len47
 have hlc := h_c.len47
 refine Fc.go [.tmp 6] Tryz.func61 Tryz.ntmps61 rfl (fun w0 => (WC.perm (M' := ((b_s, ce9 125 [lV sa_c c.length sc_c, lV sa_u u.length sc_u, lV sa_f f.length sc_f]) :: (Ms_c ++ (Ms_u ++ (Ms_f ++ []))))) (by simp) (g9 2 ?_)))
 refine W.box (L := [iV _, iV _, lV _ _ _, lV _ _ _, sV _, .bool _, iV _, iV _, lV _ _ _, lV _ _ _]) rfl rfl (fun b5 => (g9 7 ?_))
 refine W.ok (ok_eqlPN pp76 rfl rfl) (g9 10 ?_)
 refine W.call (Mp := ((b_s, ce9 125 [lV sa_c c.length sc_c, lV sa_u u.length sc_u, lV sa_f f.length sc_f]) :: (Ms_c ++ (Ms_u ++ Ms_f)))) (Mr := ((b5, ce9 53 (ndl x pa_x pc_x ka_x kc_x ma_x mc_x ra_x rc_x)) :: [])) (shasn_fc h_c h_u h_f _) rfl (((pmC ((pmF ((pmF pr9).trans pr9)).trans pr9)).cons _).trans ((List.Perm.swap _ _ _).trans (pr9.cons _))) ?_
 intro v9 G6 Ms8 hG6 q7
 refine match q7 with | ⟨e_10, e_11⟩ => ?_
 subst e_10
 subst e_11
 refine W.perm (M' := ((b_s, ce9 125 [lV sa_c c.length sc_c, lV sa_u u.length sc_u, lV sa_f f.length sc_f]) :: ((b5, ce9 53 (ndl x pa_x pc_x ka_x kc_x ma_x mc_x ra_x rc_x)) :: (Ms_c ++ (Ms_u ++ (Ms_f ++ [])))))) (((pmC ((pmF ((pmF pr9).trans pr9)).trans pr9)).cons _).trans pr9).symm (g9 3 ?_)
 refine WC.cond rfl (fun h12 => ?_) (fun h12 => ?_)
 ·refine g9 7 ?_
  refine ⟨.inr rfl, [_], ⟨rfl, trivial⟩, ((b_s, ce9 125 [lV sa_c c.length sc_c, lV sa_u u.length sc_u, lV sa_f f.length sc_f]) :: (Ms_c ++ (Ms_u ++ (Ms_f ++ [])))), (sr9.cons _).k9, ?_⟩
  exact ⟨congrArg (Value.int .i64) (congrArg Prod.fst (layA_f (st := (c, u)) (by simpa using h12))).symm, ArR.cast (st := (c, u)) ⟨_, ⟨_, _, _, _, _, _, rfl, (h_c.mono hG6), (h_u.mono hG6), (h_f.mono hG6)⟩, hcu, hn, hh, hp⟩ (congrArg Prod.snd (layA_f (st := (c, u)) (by simpa using h12))).symm (by simp)⟩
 have hhi : hasN u i = true := by simpa using h12
 have hil := hasN_lt hhi
 refine g9 3 ?_
 refine WC.dw (sn9.k9.k9) (d9 [0, 1, 2, 3, 4, 5] ?_)
 refine (h_c.mono hG6).aN (i := i.toNat) om9 (fun _ _ _ _ _ _ _ _ he12 hp_n13 hk_n13 hm_n13 hr_n13 hok_n13 => (WD.tk 6 rfl (ok_indexAddrO (i := i.toNat) sl24 ty53 (h_c.mono hG6) rfl rfl ⟨om9, om9⟩) (WD.a1 7 rfl (W.storeO (i := i.toNat) (o := 0) (vs := nd9) (a' := x) ty53 rfl rfl rfl rfl rfl ((h_c.mono hG6)) (pmC (pmC pr9)) om9 (by decide) (fun cs h => by obtain ⟨_, _, _, _, _, _, _, _, rfl, _⟩ := h; exact (nm9 hG6 hp_x hk_x hm_x hr_x hok_x)) (fun Ms16 ho17 => (W.perm (pmC (pmC pr9)).symm (W.nn (g9 8 ?_))))))))
 refine ⟨.inr rfl, [_], ⟨rfl, trivial⟩, ((b_s, ce9 125 [lV sa_c c.length sc_c, lV sa_u u.length sc_u, lV sa_f f.length sc_f]) :: (Ms16 ++ (Ms_u ++ (Ms_f ++ [])))), (sr9.cons _).k9, ?_⟩
 exact ⟨congrArg (Value.int .i64) (congrArg Prod.fst (layA_t (st := (c, u)) (by simpa using h12))).symm, ArR.cast (st := (c.set i.toNat x, u)) ⟨_, ⟨_, _, _, _, _, _, rfl, ho17, (h_u.mono hG6), (h_f.mono hG6)⟩, (by rw [List.length_set]; exact hcu), hn, hh, hp⟩ (congrArg Prod.snd (layA_t (st := (c, u)) (by simpa using h12))).symm (by simp)⟩

theorem sallocn_fc {G : GH} {b_s : Nat} {v_c : Value} {c : List Nd} {Ms_c : MH} (h_c : OwnR eNode 53 G v_c c Ms_c) {v_u : Value} {u : List Bool} {Ms_u : MH} (h_u : OwnR eBool 4 G v_u u Ms_u) {v_f : Value} {f : List Int} {Ms_f : MH} (h_f : OwnR eInt 3 G v_f f Ms_f) {cs_x : List Value} {x : Nd} (h_x : NodeC G cs_x x) (hcu : c.length = u.length) (hn : u.length ≤ 4096) (hh : Heap ltI f) (hp : f.Perm (freeN u)) :
    Fc Tryz.prog 60 [pt9 b_s, .agg (List.toArray cs_x)] G ((b_s, ce9 125 [v_c, v_u, v_f]) :: (Ms_c ++ (Ms_u ++ (Ms_f)))) (fun v G' M' => v = .tuple #[iV (nextA (c, u) x).1.1, iV (nextA (c, u) x).1.2] ∧ ArR eNode 53 4 3 125 b_s G' (nextA (c, u) x).2 M') := by
 obtain ⟨pa_x, pc_x, ka_x, kc_x, ma_x, mc_x, ra_x, rc_x, rfl, hp_x, hk_x, hm_x, hr_x, hok_x⟩ := h_x
 obtain ⟨sa_c, sc_c, rfl⟩ := h_c.form
 obtain ⟨sa_u, sc_u, rfl⟩ := h_u.form
 obtain ⟨sa_f, sc_f, rfl⟩ := h_f.form
 have hl := h_u.len47
 have hlc := h_c.len47
 have hlf := h_f.len47
 refine Fc.go [.tmp 4, .tmp 5] Tryz.func60 Tryz.ntmps60 rfl (fun w0 => (WC.perm (M' := ((b_s, ce9 125 [lV sa_c c.length sc_c, lV sa_u u.length sc_u, lV sa_f f.length sc_f]) :: (Ms_c ++ (Ms_u ++ (Ms_f ++ []))))) (by simp) (g9 2 ?_)))
 refine W.box (L := [iV _, iV _, lV _ _ _, lV _ _ _, sV _, .bool _, iV _, iV _, lV _ _ _, lV _ _ _]) rfl rfl (fun b18 => (g9 8 ?_))
 refine W.ok (ok_eqlPN pp76 rfl rfl) (g9 16 ?_)
 refine WC.cd (fun h14 p14 => ?_) (fun h14 p14 => ?_)
 ·refine g9 8 ?_
  refine ⟨.inr rfl, [_, _], ⟨rfl, rfl, trivial⟩, ((b_s, ce9 125 [lV sa_c c.length sc_c, lV sa_u u.length sc_u, lV sa_f f.length sc_f]) :: (Ms_c ++ (Ms_u ++ (Ms_f ++ [])))), sr9.k9.cons _, ?_⟩
  have hE := nextA_f (st := (c, u)) (x := x) (free_zero (u := u) (by have := hp.length_eq; omega))
  exact ⟨congrArg (fun r : Int × Int => Value.tuple #[iV r.1, iV r.2]) (congrArg Prod.fst hE).symm, ArR.cast (st := (c, u)) ⟨_, ⟨_, _, _, _, _, _, rfl, h_c, h_u, h_f⟩, hcu, hn, hh, hp⟩ (congrArg Prod.snd hE).symm (by simp)⟩
 refine g9 7 ?_
 refine W.ok (ok_mkI pi144 rfl) (W.call (Mp := ((b_s, ce9 125 [lV sa_c c.length sc_c, lV sa_u u.length sc_u, lV sa_f f.length sc_f]) :: Ms_f)) (Mr := ((b18, ce9 53 (ndl x pa_x pc_x ka_x kc_x ma_x mc_x ra_x rc_x)) :: (Ms_c ++ (Ms_u ++ [])))) (hpop_fc (least_heap (b := b_s) (Tb := 125) (c0 := lV sa_c c.length sc_c) (c1 := lV sa_u u.length sc_u)) ⟨_, _, rfl, h_f⟩ om9) rfl (((pmC (pmA (pmA pr9))).cons _).trans ((List.Perm.swap _ _ _).trans (pr9.cons _))) ?_)
 intro v22 G19 Ms21 hG19 q20
 refine match q20 with | ⟨⟨hv_z23, hi_z23⟩, ⟨vf_z23, Mf_z23, e_24, hf_z23⟩⟩ => ?_
 subst e_24
 have q26 := hf_z23.form
 refine match q26 with | ⟨sa_z23, sc_z23, e_25⟩ => ?_
 subst e_25
 obtain ⟨hlt, hee, hh2, hp2⟩ := take_first hh hp om9
 rw [hee] at hv_z23
 subst hv_z23
 refine W.perm (M' := ((b_s, ce9 125 [lV sa_c c.length sc_c, lV sa_u u.length sc_u, lV sa_z23 ((popL ltI f)).length sc_z23]) :: ((b18, ce9 53 (ndl x pa_x pc_x ka_x kc_x ma_x mc_x ra_x rc_x)) :: (Mf_z23 ++ (Ms_c ++ (Ms_u ++ [])))))) (((pmC pr9).cons _).trans pr9).symm (W.ok (ok_tyA pi3 rfl) (g9 4 ?_))
 refine WC.dw (sn9.k9.k9) (d9 [0, 1, 2, 3, 4, 5, 6, 7, 8, 9, 10] ?_)
 refine (h_c.mono hG19).aN (i := (firstN u)) om9 (fun _ _ _ _ _ _ _ _ he27 hp_n28 hk_n28 hm_n28 hr_n28 hok_n28 => (WD.tk 11 rfl (ok_indexAddrO (i := (firstN u)) sl24 ty53 (h_c.mono hG19) rfl rfl ⟨om9, om9⟩) (WD.a1 12 rfl (W.storeO (i := (firstN u)) (o := 0) (vs := nd9) (a' := x) ty53 rfl rfl rfl rfl rfl ((h_c.mono hG19)) (pmC (pmC (pmA pr9))) om9 (by decide) (fun cs h => by obtain ⟨_, _, _, _, _, _, _, _, rfl, _⟩ := h; exact (nm9 hG19 hp_x hk_x hm_x hr_x hok_x)) (fun Ms31 ho32 => (W.perm (pmC (pmC pr9)).symm (W.nn ((h_u.mono hG19).a1 (i := (firstN u)) om9 (fun he33 => (WD.tk 13 rfl (ok_indexAddrO (i := (firstN u)) sl122 ty4 (h_u.mono hG19) rfl rfl ⟨om9, om9⟩) (WD.a1 14 rfl (W.storeO (i := (firstN u)) (o := 0) (vs := bc9) (a' := true) ty4 rfl rfl rfl rfl rfl ((h_u.mono hG19)) (pmC (pmC (pmA (pmA pr9)))) om9 (by decide) (fun cs h => by rw [h]; rfl) (fun Ms37 ho38 => (W.perm (pmC (pmC pr9)).symm (W.nn (g9 9 ?_))))))))))))))))
 refine WC.perm (M' := ((b_s, ce9 125 [lV sa_c c.length sc_c, lV sa_u u.length sc_u, lV sa_z23 ((popL ltI f)).length sc_z23]) :: ((b18, ce9 53 (ndl x pa_x pc_x ka_x kc_x ma_x mc_x ra_x rc_x)) :: (Ms31 ++ (Ms37 ++ (Mf_z23 ++ [])))))) ((((List.Perm.append_left _ ((List.Perm.append_left _ ((List.Perm.append_left _ pr9).trans pr9)).trans pr9)).trans (pmA pr9)).cons _).cons _) (WC.ret ?_)
 refine ⟨.inr rfl, [_, _], ⟨rfl, rfl, trivial⟩, ((b_s, ce9 125 [lV sa_c c.length sc_c, lV sa_u u.length sc_u, lV sa_z23 ((popL ltI f)).length sc_z23]) :: (Ms31 ++ (Ms37 ++ (Mf_z23 ++ [])))), (sr9.cons _).k9, ?_⟩
 have hE := nextA_t (st := (c, u)) (x := x) hlt
 exact ⟨congrArg (fun r : Int × Int => Value.tuple #[iV r.1, iV r.2]) (congrArg Prod.fst hE).symm, ArR.cast (st := (c.set (firstN u) x, u.set (firstN u) true)) ⟨_, ⟨_, _, _, _, _, _, rfl, ho32, ho38, hf_z23⟩, (by rw [List.length_set, List.length_set]; exact hcu), (by rw [List.length_set]; exact hn), hh2, hp2⟩ (congrArg Prod.snd hE).symm (by simp)⟩

theorem sgetn_fc {G : GH} {b_s : Nat} {v_c : Value} {c : List Nd} {Ms_c : MH} (h_c : OwnR eNode 53 G v_c c Ms_c) {v_u : Value} {u : List Bool} {Ms_u : MH} (h_u : OwnR eBool 4 G v_u u Ms_u) {v_f : Value} {f : List Int} {Ms_f : MH} (h_f : OwnR eInt 3 G v_f f Ms_f) (i : Int) (hcu : c.length = u.length) :
    Fc Tryz.prog 63 [pt9 b_s, iV i] G ((b_s, ce9 125 [v_c, v_u, v_f]) :: (Ms_c ++ (Ms_u ++ (Ms_f)))) (fun v G' M' => ∃ cs, v = .tuple #[.agg (List.toArray cs), .bool (hasN u i)] ∧ NodeC G' cs (getA (c, u) i Nd.zero) ∧ M' = (b_s, ce9 125 [v_c, v_u, v_f]) :: (Ms_c ++ (Ms_u ++ Ms_f))) := by
 obtain ⟨sa_c, sc_c, rfl⟩ := h_c.form
 obtain ⟨sa_u, sc_u, rfl⟩ := h_u.form
 obtain ⟨sa_f, sc_f, rfl⟩ := h_f.form
 have hl := h_u.len47
 have hlc := h_c.len47
 refine Fc.go [.cell 4 53, .tmp 5] Tryz.func63 Tryz.ntmps63 rfl (fun w0 => (WC.perm (M' := ((b_s, ce9 125 [lV sa_c c.length sc_c, lV sa_u u.length sc_u, lV sa_f f.length sc_f]) :: (Ms_c ++ (Ms_u ++ (Ms_f ++ []))))) (by simp) (g9 2 ?_)))
 refine W.alloc zr53 (fun b39 => (g9 8 ?_))
 refine W.call (Mp := ((b_s, ce9 125 [lV sa_c c.length sc_c, lV sa_u u.length sc_u, lV sa_f f.length sc_f]) :: (Ms_c ++ (Ms_u ++ Ms_f)))) (Mr := ((b39, ce9 53 nz9) :: [])) (shasn_fc h_c h_u h_f _) rfl (((pmC ((pmF ((pmF pr9).trans pr9)).trans pr9)).cons _).trans ((List.Perm.swap _ _ _).trans (pr9.cons _))) ?_
 intro v43 G40 Ms42 hG40 q41
 refine match q41 with | ⟨e_44, e_45⟩ => ?_
 subst e_44
 subst e_45
 refine W.perm (M' := ((b_s, ce9 125 [lV sa_c c.length sc_c, lV sa_u u.length sc_u, lV sa_f f.length sc_f]) :: ((b39, ce9 53 nz9) :: (Ms_c ++ (Ms_u ++ (Ms_f ++ [])))))) (((pmC ((pmF ((pmF pr9).trans pr9)).trans pr9)).cons _).trans pr9).symm (g9 3 ?_)
 refine WC.cond rfl (fun h9 => ?_) (fun h9 => ?_)
 ·have hhi : hasN u i = false := by simpa using h9
  refine g9 9 ?_
  refine ⟨.inr rfl, [_, _], ⟨⟨_, _, _, _, _, rfl, nthM_mem (i := 1) rfl, ty53, (by simp), rfl, rfl⟩, rfl, trivial⟩, ((b_s, ce9 125 [lV sa_c c.length sc_c, lV sa_u u.length sc_u, lV sa_f f.length sc_f]) :: (Ms_c ++ (Ms_u ++ (Ms_f ++ [])))), (sr9.cons _).k9, ?_⟩
  refine ⟨_, ?_, NodeC.cast ⟨_, _, _, _, _, _, _, _, rfl, SlR.nil, SlR.nil, SlR.nil, SlR.nil, Nd.zero_ok⟩ (getA_f (st := (c, u)) hhi).symm, by simp⟩
  rw [hhi]; rfl
 have hhi : hasN u i = true := by simpa using h9
 have hil := hasN_lt hhi
 refine g9 9 ?_
 refine (h_c.mono hG40).aN (i := i.toNat) om9 (fun _ _ _ _ _ _ _ _ he46 hp_n47 hk_n47 hm_n47 hr_n47 hok_n47 => (W.ok (ok_indexAddrO (i := i.toNat) sl24 ty53 (h_c.mono hG40) rfl rfl ⟨om9, om9⟩) (W.ok (ok_loadO (vs := nd9) ty53 he46 (pmC (pmC pr9)) rfl rfl rfl (by simp)) (g9 5 ?_))))
 refine ⟨.inr rfl, [_, _], ⟨⟨_, _, _, _, _, rfl, nthM_mem (i := 1) rfl, ty53, (by simp), rfl, rfl⟩, rfl, trivial⟩, ((b_s, ce9 125 [lV sa_c c.length sc_c, lV sa_u u.length sc_u, lV sa_f f.length sc_f]) :: (Ms_c ++ (Ms_u ++ (Ms_f ++ [])))), (sr9.cons _).k9, ?_⟩
 refine ⟨_, ?_, NodeC.cast (nk9 hp_n47 hk_n47 hm_n47 hr_n47 hok_n47) (getA_t (st := (c, u)) hhi (by show _ < c.length; omega)).symm, by simp⟩
 rw [hhi]; rfl

theorem sroomn_fc {G : GH} {b_s : Nat} {v_c : Value} {c : List Nd} {Ms_c : MH} (h_c : OwnR eNode 53 G v_c c Ms_c) {v_u : Value} {u : List Bool} {Ms_u : MH} (h_u : OwnR eBool 4 G v_u u Ms_u) {v_f : Value} {f : List Int} {Ms_f : MH} (h_f : OwnR eInt 3 G v_f f Ms_f) (hcu : c.length = u.length) (hn : u.length ≤ 4096) (hh : Heap ltI f) (hp : f.Perm (freeN u)) :
    Fc Tryz.prog 102 [pt9 b_s] G ((b_s, ce9 125 [v_c, v_u, v_f]) :: (Ms_c ++ (Ms_u ++ (Ms_f)))) (fun v G' M' => v = iV ((freeN u).length : Int) ∧ M' = (b_s, ce9 125 [v_c, v_u, v_f]) :: (Ms_c ++ (Ms_u ++ Ms_f))) := by
 obtain ⟨sa_c, sc_c, rfl⟩ := h_c.form
 obtain ⟨sa_u, sc_u, rfl⟩ := h_u.form
 obtain ⟨sa_f, sc_f, rfl⟩ := h_f.form
 have hl := h_u.len47
 have hlf := h_f.len47
 have hfu := free_used u
 have hpl := hp.length_eq
 refine Fc.go [.tmp 2] Tryz.func102 Tryz.ntmps102 rfl (fun w0 => (WC.perm (M' := ((b_s, ce9 125 [lV sa_c c.length sc_c, lV sa_u u.length sc_u, lV sa_f f.length sc_f]) :: (Ms_c ++ (Ms_u ++ (Ms_f ++ []))))) (by simp) (g9 9 ?_)))
 refine W.ok (ok_eqlPN pp76 rfl rfl) (g9 16 ?_)
 refine ⟨.inr rfl, [_], ⟨rfl, trivial⟩, ((b_s, ce9 125 [lV sa_c c.length sc_c, lV sa_u u.length sc_u, lV sa_f f.length sc_f]) :: (Ms_c ++ (Ms_u ++ (Ms_f ++ [])))), sr9.k9, ?_⟩
 exact ⟨congrArg (Value.int .i64) om9, by simp⟩

theorem slistn_fc {G : GH} {b_s : Nat} {v_c : Value} {c : List Nd} {Ms_c : MH} (h_c : OwnR eNode 53 G v_c c Ms_c) {v_u : Value} {u : List Bool} {Ms_u : MH} (h_u : OwnR eBool 4 G v_u u Ms_u) {v_f : Value} {f : List Int} {Ms_f : MH} (h_f : OwnR eInt 3 G v_f f Ms_f) (hcu : c.length = u.length) (hn : u.length ≤ 4096) (hh : Heap ltI f) (hp : f.Perm (freeN u)) :
    Fc Tryz.prog 32 [pt9 b_s] G ((b_s, ce9 125 [v_c, v_u, v_f]) :: (Ms_c ++ (Ms_u ++ (Ms_f)))) (fun v G' M' => SlR eInt G' v (usedN u) ∧ M' = (b_s, ce9 125 [v_c, v_u, v_f]) :: (Ms_c ++ (Ms_u ++ Ms_f))) := by
 obtain ⟨sa_c, sc_c, rfl⟩ := h_c.form
 obtain ⟨sa_u, sc_u, rfl⟩ := h_u.form
 obtain ⟨sa_f, sc_f, rfl⟩ := h_f.form
 have hl := h_u.len47
 have hlf := h_f.len47
 have hfu := free_used u
 have hpl := hp.length_eq
 refine Fc.go [.tmp 2] Tryz.func32 Tryz.ntmps32 rfl (fun w0 => (WC.perm (M' := ((b_s, ce9 125 [lV sa_c c.length sc_c, lV sa_u u.length sc_u, lV sa_f f.length sc_f]) :: (Ms_c ++ (Ms_u ++ (Ms_f ++ []))))) (by simp) (g9 14 ?_)))
 refine W.ok (ok_neqPN pp76 rfl rfl) (g9 14 ?_)
 refine WC.loop (X := (Nat) × Value × MH) (fun k => [(13, nt9 k.1), (11, lV sa_u u.length sc_u), (12, nt9 ((u).length)), (3, k.2.1)]) (fun k G Ml => Ml = ((b_s, ce9 125 [lV sa_c c.length sc_c, lV sa_u u.length sc_u, lV sa_f f.length sc_f]) :: (k.2.2 ++ (Ms_c ++ (Ms_u ++ (Ms_f ++ []))))) ∧ OwnR eInt 3 G k.2.1 (usedK u k.1) k.2.2 ∧ k.1 ≤ u.length) (fun k => u.length - k.1) (0, lV none 0 0, ([] : MH)) hs9 ?_ ?_
 ·exact ⟨rfl, (by exact OwnR.nil), om9⟩
 rintro ⟨k, v_3, M_3⟩ gG50 G50 _ hG50 ⟨rfl, ho_3, hk⟩
 try dsimp only at ho_3 hk
 have hkl := usedK_len u k
 refine WC.fr (f := setL gG50 [(13, nt9 k), (11, lV sa_u u.length sc_u), (12, nt9 ((u).length)), (3, v_3)]) rfl (g9 6 ?_)
 refine WC.cd (fun h14 p14 => ?_) (fun h14 p14 => ?_)
 ·refine g9 7 ?_
  refine (h_u.mono hG50).a1 (i := k) om9 (fun he51 => (W.ok (ok_indexAddrO (i := k) sl122 ty4 (h_u.mono hG50) rfl rfl ⟨om9, om9⟩) (W.ok (ok_loadO (vs := bc9) ty4 he51 (pmC (pmA (pmA pr9))) rfl rfl rfl (by simp)) (g9 9 ?_))))
  refine WC.cond rfl (fun he52 => ?_) (fun he52 => ?_)
  ·refine g9 3 ?_
   refine W.lit (e := eInt) (l := [_]) (css := [[iV _]]) sl50 ty3 zr3 rfl rfl rfl rfl rfl rfl ⟨⟨rfl, om9, om9⟩, trivial⟩ (fun bl55 G55 hG55 hv55 => (W.app (e := eInt) sl50 ty3 zr3 rfl by3 rfl rfl ((ho_3.mono hG55)) (hv55) (pmC pr9) (by show (_ + 1) * 8 ≤ _; omega) (fun v56 Ms57 ho58 => (W.perm (pmC pr9).symm ?_))))
   have q62 := ho58.form
   refine match q62 with | ⟨sa59, sc60, e_61⟩ => ?_
   subst e_61
   refine g9 9 ?_
   exact ⟨hG55, (k + 1, lV sa59 ((usedK u k ++ _)).length sc60, Ms57), hs9, ⟨rfl, (by have h := ho58; rw [usedK_t om9 he52]; exact h), om9⟩, om9⟩
  refine g9 8 ?_
  exact ⟨Le.rfl, (k + 1, v_3, M_3), hs9, ⟨rfl, (by have h := ho_3; rw [usedK_f om9 he52]; exact h), om9⟩, om9⟩
 refine g9 11 ?_
 refine WC.giveO ho_3 (pmC pr9) (fun G63 hG63 hv63 => (WC.ret ?_))
 refine ⟨.inr rfl, [_], ⟨rfl, trivial⟩, ((b_s, ce9 125 [lV sa_c c.length sc_c, lV sa_u u.length sc_u, lV sa_f f.length sc_f]) :: (Ms_c ++ (Ms_u ++ (Ms_f ++ [])))), sr9.k9, ?_⟩
 exact ⟨SlR.cast hv63 (by rw [used_eq]; congr 1; omega), by simp⟩

theorem snewn_fc {G : GH} (n : Int) :
    Fc Tryz.prog 55 [iV n] G [] (fun v G' M' => (¬ (1 ≤ n ∧ n ≤ 4096) ∧ v = .tuple #[.pointer none, iV 2] ∧ M' = []) ∨ ((1 ≤ n ∧ n ≤ 4096) ∧ ∃ b, v = .tuple #[pt9 b, iV 0] ∧ ArR eNode 53 4 3 125 b G' (List.replicate n.toNat Nd.zero, List.replicate n.toNat false) M')) := by
 refine Fc.go [.tmp 2, .tmp 3] Tryz.func55 Tryz.ntmps55 rfl (fun w0 => (g9 12 ?_))
 refine W.sd 8 (fun h7 p7 => ?_) (fun h7 p7 => ?_)
 ·refine g9 14 ?_
  refine ⟨.inr rfl, [_, _], ⟨rfl, rfl, trivial⟩, [], sr9, ?_⟩
  exact .inl ⟨om9, rfl, rfl⟩
 refine g9 7 ?_
 refine WC.cd (fun h10 p10 => ?_) (fun h10 p10 => ?_)
 ·refine g9 8 ?_
  refine ⟨.inr rfl, [_, _], ⟨rfl, rfl, trivial⟩, [], sr9, ?_⟩
  exact .inl ⟨om9, rfl, rfl⟩
 obtain ⟨m, rfl⟩ : ∃ m : Nat, n = (m : Int) := ⟨n.toNat, om9⟩
 refine g9 3 ?_
 refine WC.dw sr9 (d9 [0, 2] ?_)
 refine WD.any [1, 3] (by kernel_rfl) rfl ⟨WD.ap ?_, WD.ap ?_, trivial⟩
 ·refine W.mkSl (e := eNode) (a0 := Nd.zero) (n := (m)) sl24 ty53 zr53 rfl by53 (⟨_, _, _, _, _, _, _, _, rfl, SlR.nil, SlR.nil, SlR.nil, SlR.nil, Nd.zero_ok⟩) rfl rfl (by first | (show _ * 152 ≤ 140737488355328; omega) | (show _ * 10 ≤ 16777216; omega) | (show _ * 1 ≤ 140737488355328; omega) | (show _ * 1 ≤ 16777216; omega)) (by first | (show _ * 152 ≤ 140737488355328; omega) | (show _ * 10 ≤ 16777216; omega) | (show _ * 1 ≤ 140737488355328; omega) | (show _ * 1 ≤ 16777216; omega)) (fun v1 Ms2 ho3 => ?_)
  have q7 := ho3.form
  refine match q7 with | ⟨sa4, sc5, e_6⟩ => ?_
  subst e_6
  refine W.nn (WD.a1 3 rfl (W.mkSl (e := eBool) (a0 := false) (n := (m)) sl122 ty4 zr4 rfl by4 (rfl) rfl rfl (by first | (show _ * 152 ≤ 140737488355328; omega) | (show _ * 10 ≤ 16777216; omega) | (show _ * 1 ≤ 140737488355328; omega) | (show _ * 1 ≤ 16777216; omega)) (by first | (show _ * 152 ≤ 140737488355328; omega) | (show _ * 10 ≤ 16777216; omega) | (show _ * 1 ≤ 140737488355328; omega) | (show _ * 1 ≤ 16777216; omega)) (fun v8 Ms9 ho10 => ?_)))
  have q14 := ho10.form
  refine match q14 with | ⟨sa11, sc12, e_13⟩ => ?_
  subst e_13
  refine W.nn (WD.tk 4 rfl (ok_build (L := [lV _ _ _, lV _ _ _, lV _ _ _]) pl125 zr125 rfl rfl rfl) (WD.a1 5 rfl (W.box (L := [lV _ _ _, lV _ _ _, lV _ _ _]) rfl rfl (fun b15 => (W.nn (d9 [6] ?_))))))
  refine g9 4 ?_
  have hR16 : ArP eNode 53 4 3 125 b15 G (List.replicate m Nd.zero, List.replicate m false, iotaN 0) ((b15, ce9 125 [lV sa4 ((List.replicate ((m)) Nd.zero)).length sc5, lV sa11 ((List.replicate ((m)) false)).length sc12, lV none 0 0]) :: (Ms2 ++ (Ms9 ++ []))) := ⟨_, _, _, _, _, _, rfl, ho3, ho10, OwnR.nil⟩
  refine WC.perm (M' := (((b15, ce9 125 [lV sa4 ((List.replicate ((m)) Nd.zero)).length sc5, lV sa11 ((List.replicate ((m)) false)).length sc12, lV none 0 0]) :: (Ms2 ++ (Ms9 ++ []))) ++ [])) (pr9.symm.trans ((((pmF ((pmF pr9).trans pr9)).trans (pmA pr9)).cons _).trans pr9)) (g9 6 ?_)
  refine WC.loop (X := (Nat) × MH) (fun k => [(19, nt9 k.1), (18, nt9 m), (4, pt9 b15)]) (fun k G Ml => Ml = (k.2 ++ []) ∧ ArP eNode 53 4 3 125 b15 G ((List.replicate m Nd.zero, List.replicate m false, iotaN k.1)) k.2 ∧ k.1 ≤ m) (fun k => m - k.1) (0, ((b15, ce9 125 [lV sa4 ((List.replicate ((m)) Nd.zero)).length sc5, lV sa11 ((List.replicate ((m)) false)).length sc12, lV none 0 0]) :: (Ms2 ++ (Ms9 ++ [])))) hs9 ?_ ?_
  ·exact ⟨rfl, (by exact hR16), om9⟩
  rintro ⟨k, M_4⟩ gG17 G17 _ hG17 ⟨rfl, ho_4, hk⟩
  try dsimp only at ho_4 hk
  refine WC.fr (f := setL gG17 [(19, nt9 k), (18, nt9 m), (4, pt9 b15)]) rfl (g9 6 ?_)
  refine WC.cd (fun h20 p20 => ?_) (fun h20 p20 => ?_)
  ·refine g9 10 ?_
   refine match ho_4 with | ⟨vc_u18, vu_u18, vf_u18, Mc_u18, Mu_u18, Mf_u18, eM_, hc_u18, hu_u18, hf_u18⟩ => ?_
   subst eM_
   refine WC.perm (M' := ((b15, ce9 125 [vc_u18, vu_u18, vf_u18]) :: (Mc_u18 ++ (Mu_u18 ++ (Mf_u18 ++ []))))) ((pmF (pmF pr9)).cons _).symm ?_
   dsimp only at hc_u18 hu_u18 hf_u18
   refine match hc_u18.form with | ⟨sac_u18, scc_u18, eV_⟩ => ?_
   subst eV_
   refine match hu_u18.form with | ⟨sau_u18, scu_u18, eV_⟩ => ?_
   subst eV_
   refine match hf_u18.form with | ⟨saf_u18, scf_u18, eV_⟩ => ?_
   subst eV_
   refine g9 7 ?_
   refine W.lit (e := eInt) (l := [((k : Nat) : Int)]) (css := [[iV _]]) sl123 ty3 zr3 rfl rfl rfl rfl rfl rfl ⟨⟨rfl, om9, om9⟩, trivial⟩ (fun bl19 G19 hG19 hv19 => (W.app (e := eInt) sl123 ty3 zr3 rfl by3 rfl rfl ((hf_u18.mono hG19)) (hv19) (pmC (pmA (pmA pr9))) (by show (_ + 1) * 8 ≤ _; rw [iota_len]; omega) (fun v20 Ms21 ho22 => (W.perm (pmC pr9).symm ?_))))
   have q26 := ho22.form
   refine match q26 with | ⟨sa23, sc24, e_25⟩ => ?_
   subst e_25
   refine g9 6 ?_
   have hR27 : ArP eNode 53 4 3 125 b15 G19 (List.replicate m Nd.zero, List.replicate m false, iotaN (k + 1)) ((b15, ce9 125 [lV sac_u18 (List.replicate m Nd.zero).length scc_u18, lV sau_u18 (List.replicate m false).length scu_u18, lV sa23 ((iotaN k ++ [((k : Nat) : Int)])).length sc24]) :: (Mc_u18 ++ (Mu_u18 ++ Ms21))) := ⟨_, _, _, _, _, _, rfl, (hc_u18.mono hG19), (hu_u18.mono hG19), (by rw [iota_succ]; exact ho22)⟩
   refine WC.perm (M' := (((b15, ce9 125 [lV sac_u18 (List.replicate m Nd.zero).length scc_u18, lV sau_u18 (List.replicate m false).length scu_u18, lV sa23 ((iotaN k ++ [((k : Nat) : Int)])).length sc24]) :: (Mc_u18 ++ (Mu_u18 ++ Ms21))) ++ [])) (pr9.symm.trans ((((pmF ((pmF pr9).trans (pmA pr9))).trans (pmA pr9)).cons _).trans pr9)) (g9 5 ?_)
   exact ⟨hG19, (k + 1, ((b15, ce9 125 [lV sac_u18 (List.replicate m Nd.zero).length scc_u18, lV sau_u18 (List.replicate m false).length scu_u18, lV sa23 ((iotaN k ++ [((k : Nat) : Int)])).length sc24]) :: (Mc_u18 ++ (Mu_u18 ++ Ms21)))), hs9, ⟨rfl, (by exact hR27), om9⟩, om9⟩
  refine g9 6 ?_
  obtain rfl : k = m := by omega
  refine match ho_4 with | ⟨vc_u28, vu_u28, vf_u28, Mc_u28, Mu_u28, Mf_u28, eM_, hc_u28, hu_u28, hf_u28⟩ => ?_
  subst eM_
  refine WC.perm (M' := ((b15, ce9 125 [vc_u28, vu_u28, vf_u28]) :: (Mc_u28 ++ (Mu_u28 ++ (Mf_u28 ++ []))))) ((pmF (pmF pr9)).cons _).symm ?_
  dsimp only at hc_u28 hu_u28 hf_u28
  refine match hc_u28.form with | ⟨sac_u28, scc_u28, eV_⟩ => ?_
  subst eV_
  refine match hu_u28.form with | ⟨sau_u28, scu_u28, eV_⟩ => ?_
  subst eV_
  refine match hf_u28.form with | ⟨saf_u28, scf_u28, eV_⟩ => ?_
  subst eV_
  refine g9 4 ?_
  refine W.ok (ok_mkI pi144 rfl) (W.call (Mp := ((b15, ce9 125 [lV sac_u28 (List.replicate k Nd.zero).length scc_u28, lV sau_u28 (List.replicate k false).length scu_u28, lV saf_u28 (iotaN k).length scf_u28]) :: Mf_u28)) (Mr := (Mc_u28 ++ (Mu_u28 ++ []))) (hinit_fc (least_heap (b := b15) (Tb := 125) (c0 := lV sac_u28 (List.replicate k Nd.zero).length scc_u28) (c1 := lV sau_u28 (List.replicate k false).length scu_u28)) ⟨_, _, rfl, hf_u28⟩ (iota_heap k) (by rw [iota_len]; omega)) rfl (((pmA (pmA pr9)).cons _).trans pr9) ?_)
  intro v32 G29 Ms31 hG29 q30
  refine match q30 with | ⟨e_34, ⟨vf_z33, Mf_z33, e_35, hf_z33⟩⟩ => ?_
  subst e_34
  subst e_35
  have q37 := hf_z33.form
  refine match q37 with | ⟨sa_z33, sc_z33, e_36⟩ => ?_
  subst e_36
  refine W.perm (M' := ((b15, ce9 125 [lV sac_u28 (List.replicate k Nd.zero).length scc_u28, lV sau_u28 (List.replicate k false).length scu_u28, lV sa_z33 (iotaN k).length sc_z33]) :: (Mf_z33 ++ (Mc_u28 ++ (Mu_u28 ++ []))))) ((pr9.cons _).trans pr9).symm (g9 9 ?_)
  refine WC.perm (M' := ((b15, ce9 125 [lV sac_u28 (List.replicate k Nd.zero).length scc_u28, lV sau_u28 (List.replicate k false).length scu_u28, lV sa_z33 (iotaN k).length sc_z33]) :: (Mc_u28 ++ (Mu_u28 ++ (Mf_z33 ++ []))))) (((List.Perm.append_left _ ((List.Perm.append_left _ ((List.Perm.append_left _ pr9).trans pr9)).trans (pmA pr9))).trans (pmA pr9)).cons _) (WC.ret ?_)
  refine ⟨.inr rfl, [_, _], ⟨rfl, rfl, trivial⟩, ((b15, ce9 125 [lV sac_u28 (List.replicate k Nd.zero).length scc_u28, lV sau_u28 (List.replicate k false).length scu_u28, lV sa_z33 (iotaN k).length sc_z33]) :: (Mc_u28 ++ (Mu_u28 ++ (Mf_z33 ++ [])))), sr9.k9, ?_⟩
  exact .inr ⟨om9, _, rfl, ArR.cast (st := (List.replicate k Nd.zero, List.replicate k false)) ⟨_, ⟨_, _, _, _, _, _, rfl, (hc_u28.mono hG29), (hu_u28.mono hG29), hf_z33⟩, by simp, by simp; omega, iota_heap k, List.Perm.of_eq (iota_free k)⟩ (by simp) (by simp)⟩
 refine W.mkSl (e := eBool) (a0 := false) (n := (m)) sl122 ty4 zr4 rfl by4 (rfl) rfl rfl (by first | (show _ * 152 ≤ 140737488355328; omega) | (show _ * 10 ≤ 16777216; omega) | (show _ * 1 ≤ 140737488355328; omega) | (show _ * 1 ≤ 16777216; omega)) (by first | (show _ * 152 ≤ 140737488355328; omega) | (show _ * 10 ≤ 16777216; omega) | (show _ * 1 ≤ 140737488355328; omega) | (show _ * 1 ≤ 16777216; omega)) (fun v38 Ms39 ho40 => ?_)
 have q44 := ho40.form
 refine match q44 with | ⟨sa41, sc42, e_43⟩ => ?_
 subst e_43
 refine W.nn (WD.a1 1 rfl (W.mkSl (e := eNode) (a0 := Nd.zero) (n := (m)) sl24 ty53 zr53 rfl by53 (⟨_, _, _, _, _, _, _, _, rfl, SlR.nil, SlR.nil, SlR.nil, SlR.nil, Nd.zero_ok⟩) rfl rfl (by first | (show _ * 152 ≤ 140737488355328; omega) | (show _ * 10 ≤ 16777216; omega) | (show _ * 1 ≤ 140737488355328; omega) | (show _ * 1 ≤ 16777216; omega)) (by first | (show _ * 152 ≤ 140737488355328; omega) | (show _ * 10 ≤ 16777216; omega) | (show _ * 1 ≤ 140737488355328; omega) | (show _ * 1 ≤ 16777216; omega)) (fun v45 Ms46 ho47 => ?_)))
 have q51 := ho47.form
 refine match q51 with | ⟨sa48, sc49, e_50⟩ => ?_
 subst e_50
 refine W.nn (WD.tk 4 rfl (ok_build (L := [lV _ _ _, lV _ _ _, lV _ _ _]) pl125 zr125 rfl rfl rfl) (WD.a1 5 rfl (W.box (L := [lV _ _ _, lV _ _ _, lV _ _ _]) rfl rfl (fun b52 => (W.nn (d9 [6] ?_))))))
 refine g9 4 ?_
 have hR53 : ArP eNode 53 4 3 125 b52 G (List.replicate m Nd.zero, List.replicate m false, iotaN 0) ((b52, ce9 125 [lV sa48 ((List.replicate ((m)) Nd.zero)).length sc49, lV sa41 ((List.replicate ((m)) false)).length sc42, lV none 0 0]) :: (Ms46 ++ (Ms39 ++ []))) := ⟨_, _, _, _, _, _, rfl, ho47, ho40, OwnR.nil⟩
 refine WC.perm (M' := (((b52, ce9 125 [lV sa48 ((List.replicate ((m)) Nd.zero)).length sc49, lV sa41 ((List.replicate ((m)) false)).length sc42, lV none 0 0]) :: (Ms46 ++ (Ms39 ++ []))) ++ [])) (pr9.symm.trans ((((pmF ((pmF pr9).trans pr9)).trans pr9).cons _).trans pr9)) (g9 6 ?_)
 refine WC.loop (X := (Nat) × MH) (fun k => [(19, nt9 k.1), (18, nt9 m), (4, pt9 b52)]) (fun k G Ml => Ml = (k.2 ++ []) ∧ ArP eNode 53 4 3 125 b52 G ((List.replicate m Nd.zero, List.replicate m false, iotaN k.1)) k.2 ∧ k.1 ≤ m) (fun k => m - k.1) (0, ((b52, ce9 125 [lV sa48 ((List.replicate ((m)) Nd.zero)).length sc49, lV sa41 ((List.replicate ((m)) false)).length sc42, lV none 0 0]) :: (Ms46 ++ (Ms39 ++ [])))) hs9 ?_ ?_
 ·exact ⟨rfl, (by exact hR53), om9⟩
 rintro ⟨k, M_4⟩ gG54 G54 _ hG54 ⟨rfl, ho_4, hk⟩
 try dsimp only at ho_4 hk
 refine WC.fr (f := setL gG54 [(19, nt9 k), (18, nt9 m), (4, pt9 b52)]) rfl (g9 6 ?_)
 refine WC.cd (fun h20 p20 => ?_) (fun h20 p20 => ?_)
 ·refine g9 10 ?_
  refine match ho_4 with | ⟨vc_u55, vu_u55, vf_u55, Mc_u55, Mu_u55, Mf_u55, eM_, hc_u55, hu_u55, hf_u55⟩ => ?_
  subst eM_
  refine WC.perm (M' := ((b52, ce9 125 [vc_u55, vu_u55, vf_u55]) :: (Mc_u55 ++ (Mu_u55 ++ (Mf_u55 ++ []))))) ((pmF (pmF pr9)).cons _).symm ?_
  dsimp only at hc_u55 hu_u55 hf_u55
  refine match hc_u55.form with | ⟨sac_u55, scc_u55, eV_⟩ => ?_
  subst eV_
  refine match hu_u55.form with | ⟨sau_u55, scu_u55, eV_⟩ => ?_
  subst eV_
  refine match hf_u55.form with | ⟨saf_u55, scf_u55, eV_⟩ => ?_
  subst eV_
  refine g9 7 ?_
  refine W.lit (e := eInt) (l := [((k : Nat) : Int)]) (css := [[iV _]]) sl123 ty3 zr3 rfl rfl rfl rfl rfl rfl ⟨⟨rfl, om9, om9⟩, trivial⟩ (fun bl56 G56 hG56 hv56 => (W.app (e := eInt) sl123 ty3 zr3 rfl by3 rfl rfl ((hf_u55.mono hG56)) (hv56) (pmC (pmA (pmA pr9))) (by show (_ + 1) * 8 ≤ _; rw [iota_len]; omega) (fun v57 Ms58 ho59 => (W.perm (pmC pr9).symm ?_))))
  have q63 := ho59.form
  refine match q63 with | ⟨sa60, sc61, e_62⟩ => ?_
  subst e_62
  refine g9 6 ?_
  have hR64 : ArP eNode 53 4 3 125 b52 G56 (List.replicate m Nd.zero, List.replicate m false, iotaN (k + 1)) ((b52, ce9 125 [lV sac_u55 (List.replicate m Nd.zero).length scc_u55, lV sau_u55 (List.replicate m false).length scu_u55, lV sa60 ((iotaN k ++ [((k : Nat) : Int)])).length sc61]) :: (Mc_u55 ++ (Mu_u55 ++ Ms58))) := ⟨_, _, _, _, _, _, rfl, (hc_u55.mono hG56), (hu_u55.mono hG56), (by rw [iota_succ]; exact ho59)⟩
  refine WC.perm (M' := (((b52, ce9 125 [lV sac_u55 (List.replicate m Nd.zero).length scc_u55, lV sau_u55 (List.replicate m false).length scu_u55, lV sa60 ((iotaN k ++ [((k : Nat) : Int)])).length sc61]) :: (Mc_u55 ++ (Mu_u55 ++ Ms58))) ++ [])) (pr9.symm.trans ((((pmF ((pmF pr9).trans (pmA pr9))).trans (pmA pr9)).cons _).trans pr9)) (g9 5 ?_)
  exact ⟨hG56, (k + 1, ((b52, ce9 125 [lV sac_u55 (List.replicate m Nd.zero).length scc_u55, lV sau_u55 (List.replicate m false).length scu_u55, lV sa60 ((iotaN k ++ [((k : Nat) : Int)])).length sc61]) :: (Mc_u55 ++ (Mu_u55 ++ Ms58)))), hs9, ⟨rfl, (by exact hR64), om9⟩, om9⟩
 refine g9 6 ?_
 obtain rfl : k = m := by omega
 refine match ho_4 with | ⟨vc_u65, vu_u65, vf_u65, Mc_u65, Mu_u65, Mf_u65, eM_, hc_u65, hu_u65, hf_u65⟩ => ?_
 subst eM_
 refine WC.perm (M' := ((b52, ce9 125 [vc_u65, vu_u65, vf_u65]) :: (Mc_u65 ++ (Mu_u65 ++ (Mf_u65 ++ []))))) ((pmF (pmF pr9)).cons _).symm ?_
 dsimp only at hc_u65 hu_u65 hf_u65
 refine match hc_u65.form with | ⟨sac_u65, scc_u65, eV_⟩ => ?_
 subst eV_
 refine match hu_u65.form with | ⟨sau_u65, scu_u65, eV_⟩ => ?_
 subst eV_
 refine match hf_u65.form with | ⟨saf_u65, scf_u65, eV_⟩ => ?_
 subst eV_
 refine g9 4 ?_
 refine W.ok (ok_mkI pi144 rfl) (W.call (Mp := ((b52, ce9 125 [lV sac_u65 (List.replicate k Nd.zero).length scc_u65, lV sau_u65 (List.replicate k false).length scu_u65, lV saf_u65 (iotaN k).length scf_u65]) :: Mf_u65)) (Mr := (Mc_u65 ++ (Mu_u65 ++ []))) (hinit_fc (least_heap (b := b52) (Tb := 125) (c0 := lV sac_u65 (List.replicate k Nd.zero).length scc_u65) (c1 := lV sau_u65 (List.replicate k false).length scu_u65)) ⟨_, _, rfl, hf_u65⟩ (iota_heap k) (by rw [iota_len]; omega)) rfl (((pmA (pmA pr9)).cons _).trans pr9) ?_)
 intro v69 G66 Ms68 hG66 q67
 refine match q67 with | ⟨e_71, ⟨vf_z70, Mf_z70, e_72, hf_z70⟩⟩ => ?_
 subst e_71
 subst e_72
 have q74 := hf_z70.form
 refine match q74 with | ⟨sa_z70, sc_z70, e_73⟩ => ?_
 subst e_73
 refine W.perm (M' := ((b52, ce9 125 [lV sac_u65 (List.replicate k Nd.zero).length scc_u65, lV sau_u65 (List.replicate k false).length scu_u65, lV sa_z70 (iotaN k).length sc_z70]) :: (Mf_z70 ++ (Mc_u65 ++ (Mu_u65 ++ []))))) ((pr9.cons _).trans pr9).symm (g9 9 ?_)
 refine WC.perm (M' := ((b52, ce9 125 [lV sac_u65 (List.replicate k Nd.zero).length scc_u65, lV sau_u65 (List.replicate k false).length scu_u65, lV sa_z70 (iotaN k).length sc_z70]) :: (Mc_u65 ++ (Mu_u65 ++ (Mf_z70 ++ []))))) (((List.Perm.append_left _ ((List.Perm.append_left _ ((List.Perm.append_left _ pr9).trans pr9)).trans (pmA pr9))).trans (pmA pr9)).cons _) (WC.ret ?_)
 refine ⟨.inr rfl, [_, _], ⟨rfl, rfl, trivial⟩, ((b52, ce9 125 [lV sac_u65 (List.replicate k Nd.zero).length scc_u65, lV sau_u65 (List.replicate k false).length scu_u65, lV sa_z70 (iotaN k).length sc_z70]) :: (Mc_u65 ++ (Mu_u65 ++ (Mf_z70 ++ [])))), sr9.k9, ?_⟩
 exact .inr ⟨om9, _, rfl, ArR.cast (st := (List.replicate k Nd.zero, List.replicate k false)) ⟨_, ⟨_, _, _, _, _, _, rfl, (hc_u65.mono hG66), (hu_u65.mono hG66), hf_z70⟩, by simp, by simp; omega, iota_heap k, List.Perm.of_eq (iota_free k)⟩ (by simp) (by simp)⟩

theorem osetn {G : GH} {b : Nat} {st : List Nd × List Bool} {M : MH} (h : ArR eNode 53 4 3 125 b G st M) (i : Int) {cs : List Value} {x : Nd} (hx : NodeC G cs x) : Fc Tryz.prog 61 [pt9 b, iV i, .agg (List.toArray cs)] G M (fun v G' M' => v = iV (layA st i x).1 ∧ ArR eNode 53 4 3 125 b G' (layA st i x).2 M') := by
  have h0 := h
  obtain ⟨f, ⟨vc, vu, vf, Mc, Mu, Mf, rfl, h1, h2, h3⟩, h4, h5, h6, h7⟩ := h
  exact ssetn_fc h1 h2 h3 i hx h4 h5 h6 h7
theorem oallocn {G : GH} {b : Nat} {st : List Nd × List Bool} {M : MH} (h : ArR eNode 53 4 3 125 b G st M) {cs : List Value} {x : Nd} (hx : NodeC G cs x) : Fc Tryz.prog 60 [pt9 b, .agg (List.toArray cs)] G M (fun v G' M' => v = .tuple #[iV (nextA st x).1.1, iV (nextA st x).1.2] ∧ ArR eNode 53 4 3 125 b G' (nextA st x).2 M') := by
  have h0 := h
  obtain ⟨f, ⟨vc, vu, vf, Mc, Mu, Mf, rfl, h1, h2, h3⟩, h4, h5, h6, h7⟩ := h
  exact sallocn_fc h1 h2 h3 hx h4 h5 h6 h7
theorem ogetn {G : GH} {b : Nat} {st : List Nd × List Bool} {M : MH} (h : ArR eNode 53 4 3 125 b G st M) (i : Int) : Fc Tryz.prog 63 [pt9 b, iV i] G M (fun v G' M' => (∃ cs, v = .tuple #[.agg (List.toArray cs), .bool (hasN st.2 i)] ∧ NodeC G' cs (getA st i Nd.zero)) ∧ M' = M) := by
  have h0 := h
  obtain ⟨f, ⟨vc, vu, vf, Mc, Mu, Mf, rfl, h1, h2, h3⟩, h4, h5, h6, h7⟩ := h
  exact (sgetn_fc h1 h2 h3 i h4).mono fun v G' M' hl ⟨cs, e1, e2, e3⟩ => ⟨⟨cs, e1, e2⟩, e3⟩
theorem oroomn {G : GH} {b : Nat} {st : List Nd × List Bool} {M : MH} (h : ArR eNode 53 4 3 125 b G st M)  : Fc Tryz.prog 102 [pt9 b] G M (fun v G' M' => v = iV ((freeN st.2).length : Int) ∧ M' = M) := by
  have h0 := h
  obtain ⟨f, ⟨vc, vu, vf, Mc, Mu, Mf, rfl, h1, h2, h3⟩, h4, h5, h6, h7⟩ := h
  exact (sroomn_fc h1 h2 h3 h4 h5 h6 h7).mono fun v G' M' hl hq => hq
theorem olistn {G : GH} {b : Nat} {st : List Nd × List Bool} {M : MH} (h : ArR eNode 53 4 3 125 b G st M)  : Fc Tryz.prog 32 [pt9 b] G M (fun v G' M' => SlR eInt G' v (usedN st.2) ∧ M' = M) := by
  have h0 := h
  obtain ⟨f, ⟨vc, vu, vf, Mc, Mu, Mf, rfl, h1, h2, h3⟩, h4, h5, h6, h7⟩ := h
  exact (slistn_fc h1 h2 h3 h4 h5 h6 h7).mono fun v G' M' hl hq => hq
theorem erows_fc {G : GH} (ek : Int) (ev : Str) :
    Fc Tryz.prog 177 [.agg #[iV ek, sV ev.b]] G [] (fun v _ _ => v = .bool (decide (ek = 1) || decide (ek = 2))) := by
 refine Fc.go [.tmp 2] Tryz.func177 Tryz.ntmps177 rfl (fun w0 => (g9 2 ?_))
 refine W.box (L := [iV _, sV _]) rfl rfl (fun b1 => (g9 9 ?_))
 refine W.sd 6 (fun h5 p5 => ?_) (fun h5 p5 => ?_)
 ·refine g9 9 ?_
  refine congrArg Value.bool ?_
  simp_all
 refine g9 12 ?_
 refine congrArg Value.bool ?_
 simp_all

theorem rowfits_fc {G : GH} {v_l : Value} {l : List Pair} (h_l : SlR ePair G v_l l) (k : Str) (ek : Int) (ev : Str) (n : Int) (hr : Srt l) :
    Fc Tryz.prog 169 [v_l, sV k.b, .agg #[iV ek, sV ev.b], iV n] G [] (fun v _ _ => v = .bool (fitsN l k (⟨ek, ev⟩ : Eff) n)) := by
 obtain ⟨sa_l, sc_l, rfl⟩ := h_l.form
 refine Fc.go [.tmp 8] Tryz.func169 Tryz.ntmps169 rfl (fun w0 => (g9 2 ?_))
 refine W.box (L := [iV _, sV _]) rfl rfl (fun b2 => (g9 7 ?_))
 refine W.qcall (rfind_fc h_l _ (by assumption)) rfl (g9 11 ?_)
 refine W.sp 18 rfl (fun h14_1 => ?_) (fun h14_1 => ?_)
 ·refine g9 15 ?_
  refine congrArg Value.bool ?_
  simp_all [fitsN]
 refine g9 3 ?_
 refine W.qcall (erows_fc _ _) rfl (g9 4 ?_)
 refine W.sp 23 rfl (fun h21 => ?_) (fun h21 => ?_)
 ·refine g9 10 ?_
  refine congrArg Value.bool ?_
  simp_all [fitsN]
 refine g9 14 ?_
 refine congrArg Value.bool ?_
 simp_all [fitsN]

theorem leaffits_fc {G : GH} {v_l : Value} {l : List Pair} (h_l : SlR ePair G v_l l) (ms : Int) (mk : Int) (mkey : Str) (mhi : Str) (mo : Bool) (mv : Str) (n : Int) (hP : PairsR l) (hk : Msg.fit (⟨ms, mk, mkey, mhi, mo, mv⟩ : Msg)) :
    Fc Tryz.prog 160 [v_l, .agg #[iV ms, iV mk, sV mkey.b, sV mhi.b, .bool mo, sV mv.b], iV n] G [] (fun v _ _ => v = .bool (lfitsN l (⟨ms, mk, mkey, mhi, mo, mv⟩ : Msg) n)) := by
 obtain ⟨sa_l, sc_l, rfl⟩ := h_l.form
 have hk1 := hk.1
 dsimp only at hk1
 have hr := hP.srt
 have hl := h_l.len47
 refine Fc.go [.tmp 6] Tryz.func160 Tryz.ntmps160 rfl (fun w0 => (g9 2 ?_))
 refine W.box (L := [iV _, iV _, sV _, sV _, .bool _, sV _]) rfl rfl (fun b3 => (g9 9 ?_))
 refine W.sd 10 (fun h9 p9 => ?_) (fun h9 p9 => ?_)
 ·refine g9 15 ?_
  refine congrArg Value.bool ?_
  simp_all [lfitsN]
 refine g9 13 ?_
 refine W.qcall (mon_fc ms mk mkey mhi mo mv mkey om9) rfl (g9 3 ?_)
 refine W.qcall (rowfits_fc h_l _ _ _ _ (by assumption)) rfl (g9 6 ?_)
 refine congrArg Value.bool ?_
 simp_all [lfitsN]

theorem fits20_fc {G : GH} {v_l : Value} {l : List Pair} (h_l : SlR ePair G v_l l) (ms : Int) (mk : Int) (mkey : Str) (mhi : Str) (mo : Bool) (mv : Str) (n : Int) :
    Fc Tryz.prog 137 [v_l, .agg #[iV ms, iV mk, sV mkey.b, sV mhi.b, .bool mo, sV mv.b], iV n] G [] (fun v _ _ => v = .bool (rfits20N l (⟨ms, mk, mkey, mhi, mo, mv⟩ : Msg) n)) := by
 obtain ⟨sa_l, sc_l, rfl⟩ := h_l.form
 refine Fc.go [.tmp 6] Tryz.func137 Tryz.ntmps137 rfl (fun w0 => (g9 2 ?_))
 refine W.box (L := [iV _, iV _, sV _, sV _, .bool _, sV _]) rfl rfl (fun b4 => (g9 8 ?_))
 refine W.qcall (rget_fc h_l _) rfl (g9 13 ?_)
 refine W.sd 19 (fun h18 p18 => ?_) (fun h18 p18 => ?_)
 ·refine g9 13 ?_
  refine congrArg Value.bool ?_
  first | (simp_all [rfits20N]; done) | (simp_all [rfits20N]; omega)
 refine g9 4 ?_
 refine W.sp 22 rfl (fun h13_1 => ?_) (fun h13_1 => ?_)
 ·refine g9 10 ?_
  refine congrArg Value.bool ?_
  first | (simp_all [rfits20N]; done) | (simp_all [rfits20N]; omega)
 refine g9 14 ?_
 refine congrArg Value.bool ?_
 first | (simp_all [rfits20N]; done) | (simp_all [rfits20N]; omega)

theorem leaftake_fc {G : GH} {v_l : Value} {l : List Pair} (h_l : SlR ePair G v_l l) (ms : Int) (mk : Int) (mkey : Str) (mhi : Str) (mo : Bool) (mv : Str) (n : Int) (hP : PairsR l) (hn : l.length ≤ 1000000) (hk : Msg.fit (⟨ms, mk, mkey, mhi, mo, mv⟩ : Msg)) :
    Fc Tryz.prog 148 [v_l, .agg #[iV ms, iV mk, sV mkey.b, sV mhi.b, .bool mo, sV mv.b], iV n] G [] (fun v G' M' => M' = [] ∧ ∃ r : List Pair × Bool, r = leafTakeN l (⟨ms, mk, mkey, mhi, mo, mv⟩ : Msg) n ∧ ∃ u0, v = .tuple #[u0, .bool (r.2)] ∧ SlR ePair G' u0 (r.1)) := by
 obtain ⟨sa_l, sc_l, rfl⟩ := h_l.form
 refine Fc.go [.tmp 6, .tmp 7] Tryz.func148 Tryz.ntmps148 rfl (fun w0 => (g9 2 ?_))
 refine W.box (L := [iV _, iV _, sV _, sV _, .bool _, sV _]) rfl rfl (fun b5 => (g9 10 ?_))
 refine W.qcall (leaffits_fc h_l _ _ _ _ _ _ _ (by first | assumption | omega | (simp; omega) | (exact PairsR.fold (by assumption) (by assumption))) (by first | assumption | exact fit_of (by assumption))) rfl (g9 3 ?_)
 refine WC.cond rfl (fun h12 => ?_) (fun h12 => ?_)
 ·refine g9 9 ?_
  refine ⟨rfl, _, (leafTakeN_f (by simpa using h12)).symm, _, rfl, ?_⟩
  · exact SlR.nil
 refine g9 6 ?_
 refine W.cS (mtake_fc h_l _ _ _ _ _ _ (by first | assumption | omega | (simp; omega) | (exact PairsR.fold (by assumption) (by assumption))) (by first | assumption | omega | (simp; omega) | (exact PairsR.fold (by assumption) (by assumption))) (by first | assumption | exact fit_of (by assumption))) rfl (fun sa_hv7 sc_hv7 G6 hG6 hv7 => (g9 6 ?_))
 refine ⟨rfl, _, (leafTakeN_t (by simpa using h12)).symm, _, rfl, ?_⟩
 · exact hv7

theorem common_fc {G : GH} (a : Str) (b : Str) :
    Fc Tryz.prog 166 [sV a.b, sV b.b] G [] (fun v _ _ => v = nt9 (commonN a b)) := by
 have ha := a.le
 have hb := b.le
 refine Fc.go [.tmp 4] Tryz.func166 Tryz.ntmps166 rfl (fun w0 => (g9 12 ?_))
 refine WC.loop (X := Nat) (fun k => [(5, nt9 k), (0, sV a.b), (1, sV b.b)]) (fun k _ Ml => Ml = [] ∧ k ≤ a.b.size ∧ k ≤ b.b.size ∧ ∀ i, i < k → a.b[i]? = b.b[i]?) (fun k => a.b.size - k) 0 hs9 ?_ ?_
 ·exact ⟨rfl, om9, om9, fun i hi => by omega⟩
 rintro k gG1 G1 _ hG1 ⟨rfl, hk1, hk2, hk3⟩
 refine g9 8 ?_
 refine W.ok (ok_mini rfl rfl) (g9 2 ?_)
 refine W.sd 13 (fun h12 p12 => ?_) (fun h12 p12 => ?_)
 ·refine g9 5 ?_
  refine W.ok (ok_indexS (i := k) st9 rfl rfl ⟨om9, om9⟩) (g9 5 ?_)
  refine W.ok (ok_indexS (i := k) st9 rfl rfl ⟨om9, om9⟩) (g9 5 ?_)
  refine WC.cd (fun h20 p20 => ?_) (fun h20 p20 => ?_)
  ·refine g9 10 ?_
   exact ⟨Le.rfl, k + 1, hs9, ⟨rfl, om9, om9, same_succ hk3 om9 om9 p20⟩, om9⟩
  refine g9 13 ?_
  refine congrArg (Value.int .i64) ?_
  exact congrArg Nat.cast (commonN_ne' hk3 om9 om9 p20).symm
 refine g9 24 ?_
 refine congrArg (Value.int .i64) ?_
 exact congrArg Nat.cast (commonN_end hk1 hk2 hk3 om9).symm

theorem between_fc {G : GH} (a : Str) (b : Str) :
    Fc Tryz.prog 155 [sV a.b, sV b.b] G [] (fun v _ _ => v = .tuple #[sV (Str.b ((betweenN a b).1)), .bool ((betweenN a b).2)]) := by
 have ha := a.le
 have hb := b.le
 refine Fc.go [.tmp 4, .tmp 5] Tryz.func155 Tryz.ntmps155 rfl (fun w0 => (g9 11 ?_))
 refine W.ok (ok_geqS rfl rfl) (g9 2 ?_)
 refine WC.cond rfl (fun h8 => ?_) (fun h8 => ?_)
 ·refine g9 9 ?_
  show Value.tuple #[Value.string _, Value.bool _] = _
  rw [betweenN_f (by simpa [Str.lt] using h8)]; rfl
 have hlt : a.lt b = true := by simpa [Str.lt] using h8
 have hcm := common_lt hlt
 have hcl := commonN_le a b
 refine g9 7 ?_
 refine W.qcall (common_fc _ _) rfl (g9 1 ?_)
 refine W.ok (ok_sliceS (0) (commonN a b + 1) st9 rfl rfl ⟨_, _, rfl, om9⟩ ⟨om9, om9⟩) (g9 6 ?_)
 show Value.tuple #[Value.string _, Value.bool _] = _
 rw [betweenN_t hlt]

theorem rbetween_fc {G : GH} (a : Str) (b : Str) :
    Fc Tryz.prog 112 [sV a.b, sV b.b] G [] (fun v _ _ => v = .tuple #[sV (Str.b ((betweenN a b).1)), .bool ((betweenN a b).2)]) := by
 have ha := a.le
 have hb := b.le
 refine Fc.go [.tmp 4, .tmp 5] Tryz.func112 Tryz.ntmps112 rfl (fun w0 => (g9 13 ?_))
 refine WC.loop (X := Nat) (fun k => [(6, nt9 k), (0, sV a.b), (1, sV b.b)]) (fun k _ Ml => Ml = [] ∧ ∀ j, j < k → a.lt (b.cut 0 j) = false) (fun k => b.b.size + 1 - k) 0 hs9 ?_ ?_
 ·exact ⟨rfl, fun j h => by omega⟩
 rintro k gG2 G2 _ hG2 ⟨rfl, hk⟩
 refine g9 9 ?_
 refine WC.cd (fun h10 p10 => ?_) (fun h10 p10 => ?_)
 ·refine g9 9 ?_
  refine W.ok (ok_sliceS (0) (k) st9 rfl rfl ⟨_, _, rfl, om9⟩ ⟨om9, om9⟩) (W.qcall (less_fc _ _) rfl (g9 2 ?_))
  refine WC.cond rfl (fun h17 => ?_) (fun h17 => ?_)
  ·refine g9 4 ?_
   refine W.ok (ok_sliceS (0) (k) st9 rfl rfl ⟨_, _, rfl, om9⟩ ⟨om9, om9⟩) (g9 11 ?_)
   show Value.tuple #[Value.string _, Value.bool _] = _
   rw [between_at om9 h17 hk]
  refine g9 9 ?_
  exact ⟨Le.rfl, k + 1, hs9, ⟨rfl, fun j h => by
      by_cases e : j = k
      · subst e; exact h17
      · exact hk j om9⟩, om9⟩
 refine g9 13 ?_
 show Value.tuple #[Value.string _, Value.bool _] = _
 rw [between_no (fun j h => hk j om9)]; rfl

theorem rowsh_fc {G : GH} {v_l : Value} {l : List Pair} (h_l : SlR ePair G v_l l) :
    Fc Tryz.prog 142 [v_l] G [] (fun v G' M' => M' = [] ∧ ∃ r : List Pair × List Pair × Str × Bool, r = rowsN l ∧ ∃ u0 u1, v = .tuple #[u0, u1, sV (Str.b (r.2.2.1)), .bool (r.2.2.2)] ∧ SlR ePair G' u0 (r.1) ∧ SlR ePair G' u1 (r.2.1)) := by
 obtain ⟨sa_l, sc_l, rfl⟩ := h_l.form
 have hl := h_l.len47
 have hlb : l.length * 32 ≤ 140737488355328 := h_l.bytes
 refine Fc.go [.tmp 2, .tmp 3, .tmp 4, .tmp 5] Tryz.func142 Tryz.ntmps142 rfl (fun w0 => (g9 16 ?_))
 refine WC.cd (fun h9 p9 => ?_) (fun h9 p9 => ?_)
 ·refine g9 11 ?_
  refine ⟨rfl, _, (rowsN_f om9).symm, _, _, rfl, ?_, ?_⟩
  · exact SlR.nil
  exact SlR.nil
 refine g9 7 ?_
 refine W.ok (ok_quo' rfl rfl om9 om9 om9) (g9 8 ?_)
 refine h_l.a1 (i := (l.length + 1) / 2 - 1) om9 (fun he3 => (W.ok (ok_indexAddr (i := (l.length + 1) / 2 - 1) sl42 ty92 h_l rfl rfl ⟨om9, om9⟩) (g9 4 ?_)))
 refine h_l.a1 (i := (l.length + 1) / 2) om9 (fun he6 => (W.ok (ok_indexAddr (i := (l.length + 1) / 2) sl42 ty92 h_l rfl rfl ⟨om9, om9⟩) (g9 2 ?_)))
 refine W.qcall (between_fc _ _) rfl (g9 7 ?_)
 refine WC.dw sr9 (d9 [0, 1] ?_)
 have hs9 := SlR.slice h_l (lo := 0) (hi := (l.length + 1) / 2) om9 om9
 refine WD.tk 2 rfl (ok_slice (0) ((l.length + 1) / 2) sl42 ty92 h_l rfl rfl ⟨_, _, rfl, om9⟩ ⟨om9, om9⟩) (d9 [4, 5] ?_)
 have hs10 := SlR.slice h_l (lo := (l.length + 1) / 2) (hi := l.length) om9 om9
 refine WD.tk 6 rfl (ok_slice ((l.length + 1) / 2) (l.length) sl42 ty92 h_l rfl ⟨_, _, rfl, om9⟩ rfl ⟨om9, om9⟩) (d9 [8] ?_)
 refine WD.a1 3 rfl (W.cS (clonep_fc hs9) rfl (fun sa_hv12 sc_hv12 G11 hG11 hv12 => (W.nn (WD.a1 7 rfl (W.cS (clonep_fc (hs10.mono hG11)) rfl (fun sa_hv19 sc_hv19 G18 hG18 hv19 => (W.nn (d9 [9, 10, 11, 12] ?_))))))))
 refine g9 4 ?_
 refine ⟨rfl, _, (rowsN_t om9).symm, _, _, rfl, ?_, ?_⟩
 · exact SlR.cast ((hv12.mono hG18)) (by simp)
 exact SlR.cast (hv19) (by simp)

end Go.Proofs.YtfmigmijckdldaaGreat

namespace Go.Fw
def binsN (p : List Str) (c : List Int) (i : Nat) (k : Str) (v : Int) : List Str × List Int :=
 if c.length ≤ i ∨ (rangeN p (i : Int)).has k = false ∨ k = (rangeN p (i : Int)).lo then ([], []) else ((p.take i ++ [k]) ++ p.drop i, (c.take (i + 1) ++ [v]) ++ c.drop (i + 1))
theorem binsN_0 {p : List Str} {c : List Int} {i : Nat} {k : Str} {v : Int} (h : c.length ≤ i ∨ (rangeN p (i : Int)).has k = false ∨ k = (rangeN p (i : Int)).lo) : binsN p c i k v = ([], []) := if_pos h
theorem binsN_1 {p : List Str} {c : List Int} {i : Nat} {k : Str} {v : Int} (h1 : ¬ c.length ≤ i) (h2 : (rangeN p (i : Int)).has k = true) (h3 : ¬ k = (rangeN p (i : Int)).lo) : binsN p c i k v = ((p.take i ++ [k]) ++ p.drop i, (c.take (i + 1) ++ [v]) ++ c.drop (i + 1)) :=
 if_neg fun h => h.elim h1 (fun h => h.elim (fun h => by rw [h2] at h; cases h) h3)
theorem range_in {p : List Str} {i : Nat} {k : Str} (h : (rangeN p (i : Int)).has k = true) : i ≤ p.length := by
 by_cases h2 : i ≤ p.length
 ·exact h2
 ·rw [rangeN_out om9] at h
  have : Span.zero.has k = false := by
   simp only [Span.zero, Span.has]
   cases h3 : k.lt Str.nil
   ·simp
   ·simp
  rw [this] at h; cases h
theorem range_within {p : List Str} {i : Nat} {k : Str} (h : (rangeN p (i : Int)).has k = true) (h2 : ¬ k = (rangeN p (i : Int)).lo) :
  (∀ h : 0 < i ∧ i - 1 < p.length, (p[i - 1]'h.2).lt k = true) ∧ (∀ h : i < p.length, k.lt p[i] = true) := by
 have hi := range_in h
 have e := rangeN_in (l := p) (i := (i : Int)) om9 om9
 have h0 := h
 rw [e, norm_has] at h
 simp only [Span.has, Bool.and_eq_true, Bool.or_eq_true, Bool.not_eq_true', decide_eq_true_eq] at h
 obtain ⟨h3, h4⟩ := h
 have hhi : ∀ h : i < p.length, k.lt p[i] = true := fun hlt => by
  rcases h4 with h4 | h4
  ·omega
  ·rw [show ((i : Int)).toNat = i from rfl, getD_in (d := Str.nil) hlt] at h4; exact h4
 refine ⟨fun ⟨h5, h6⟩ => ?_, hhi⟩
 rw [if_pos om9, show ((i : Int) - 1).toNat = i - 1 from by omega, getD_in (d := Str.nil) h6] at h3
 cases hlt : (p[i - 1]'h6).lt k
 ·exfalso
  have hke : k = p[i - 1]'h6 := Str.lt_total h3 hlt
  apply h2
  rw [e, if_pos om9, show ((i : Int) - 1).toNat = i - 1 from by omega, getD_in (d := Str.nil) h6]
  unfold Span.norm
  split
  ·rename_i hem
   exfalso
   simp only [Span.empty, Bool.and_eq_true, Bool.not_eq_true', decide_eq_false_iff_not] at hem
   have := h4.resolve_left om9
   rw [hke] at this
   simp_all
  ·split <;> exact hke
 ·rfl
theorem bins_right {p : List Str} {c : List Int} {i : Nat} {k : Str} {v : Int} (hr : rightN p c.length = true) (hi : i < c.length) (h : (rangeN p (i : Int)).has k = true) (h2 : ¬ k = (rangeN p (i : Int)).lo) :
  rightN ((p.take i ++ [k]) ++ p.drop i) ((c.take (i + 1) ++ [v]) ++ c.drop (i + 1)).length = true := by
 obtain ⟨hp, hn⟩ := rightN_spec hr
 obtain ⟨h3, h4⟩ := range_within h h2
 have hi' := range_in h
 refine rightN_of (rising_iff.2 fun j hj => ?_) (by simp; omega)
 have hl : ((p.take i ++ [k]) ++ p.drop i).length = p.length + 1 := by simp; omega
 have get : ∀ q (hq : q < ((p.take i ++ [k]) ++ p.drop i).length), ((p.take i ++ [k]) ++ p.drop i)[q] = if h : q < i then p[q]'om9 else if h : q = i then k else p[q - 1]'om9 := fun q hq => by
  by_cases h5 : q < i
  ·rw [dif_pos h5, List.getElem_append_left (by simp; omega), List.getElem_append_left (by simp; omega), List.getElem_take]
  ·rw [dif_neg h5]
   by_cases h6 : q = i
   ·rw [dif_pos h6, List.getElem_append_left (by simp; omega), List.getElem_append_right (by simp; omega)]; simp
   ·rw [dif_neg h6, List.getElem_append_right (by simp; omega), List.getElem_drop]
    congr 1; simp; omega
 rw [get, get]
 have hp' := rising_iff.1 hp
 by_cases a : j + 1 < i
 ·rw [dif_pos om9, dif_pos a]; exact hp' j om9
 ·by_cases b : j + 1 = i
  ·rw [dif_pos om9, dif_neg om9, dif_pos b]
   have := h3 ⟨om9, om9⟩
   simpa only [show i - 1 = j from by omega] using this
  ·by_cases d : j = i
   ·rw [dif_neg om9, dif_pos d, dif_neg om9, dif_neg om9]
    have := h4 om9
    simpa only [show j + 1 - 1 = i from by omega] using this
   ·rw [dif_neg om9, dif_neg d, dif_neg om9, dif_neg om9]
    have := hp' (j - 1) om9
    simpa only [show j - 1 + 1 = j + 1 - 1 from by omega] using this
end Go.Fw
namespace Go.Proofs.YtfmigmijckdldaaGreat
open Go Go.Fw Go.RowKit
attribute [local irreducible] Ok W WC
theorem inss_fc {G : GH} {v_s : Value} {s : List Str} {Ms_s : MH} (h_s : OwnR eStr 9 G v_s s Ms_s) (i : Nat) {v_u : Value} {u : List Str} {Ms_u : MH} (h_u : OwnR eStr 9 G v_u u Ms_u) (hi : i ≤ s.length) (hu : 0 < u.length) (hw : (s.length + u.length) * 16 ≤ 140737488355328) :
    Fc Tryz.prog 146 [v_s, nt9 i, v_u] G (Ms_s ++ Ms_u) (fun v G' M' => OwnR eStr 9 G' v ((s.take i ++ u) ++ s.drop i) M') := by
 have hs := h_s.len47
 have hul := h_u.len47
 have hcs := h_s.cap_le
 refine Fc.go [.tmp 6] Tryz.func146 Tryz.ntmps146 rfl (fun w0 => (WC.perm (M' := (Ms_s ++ (Ms_u ++ []))) (by simp) (g9 9 ?_)))
 refine W.ok (ok_sliceO (i) (s.length) sl49 ty9 h_s rfl ⟨_, _, rfl, om9⟩ rfl ⟨om9, .inl om9⟩) (g9 16 ?_)
 refine WC.cd (fun h16 p16 => ?_) (fun h16 p16 => ?_)
 ·exact absurd p16 om9
 refine g9 17 ?_
 refine WC.cd (fun h22 p22 => ?_) (fun h22 p22 => ?_)
 ·refine g9 4 ?_
  refine W.giveO h_u (pmA pr9) (fun G1 hG1 hv1 => ?_)
  have q3 := hv1.form
  refine match q3 with | ⟨_, _, e_2⟩ => ?_
  subst e_2
  refine W.app (e := eStr) sl49 ty9 zr9 rfl by9 rfl rfl ((h_s.mono hG1)) (hv1) pr9 (hw) (fun v4 Ms5 ho6 => (g9 5 ?_))
  refine ⟨.inr rfl, [_], ⟨rfl, trivial⟩, Ms5, List.sublist_append_left _ _, ?_⟩
  have h := ho6
  rw [show (s.take i ++ u) ++ s.drop i = s ++ u from by rw [List.take_of_length_le om9, List.drop_eq_nil_of_le om9, List.append_nil]]
  exact h
 refine g9 7 ?_
 refine W.ok (Ok.int (n := ((s.length + u.length : Nat) : Int)) (ok_add rfl rfl om9) om9) (W.mv ?_)
 have q7 := h_s.capForm
 refine match q7 with | ⟨ac30, hcf30⟩ => ?_
 refine W.ok (ok_capO (c := capV v_s) sl49 hcf30) (g9 3 ?_)
 refine WC.cd (fun h31 p31 => ?_) (fun h31 p31 => ?_)
 ·refine g9 4 ?_
  refine W.ok (ok_sliceO (0) (i) sl49 ty9 h_s rfl rfl ⟨_, _, rfl, om9⟩ ⟨om9, .inl om9⟩) (g9 2 ?_)
  refine W.ok (Ok.int (n := ((s.length + u.length : Nat) : Int)) (ok_add rfl rfl om9) om9) (W.mv (W.ok (Ok.int (n := ((s.length + u.length - i : Nat) : Int)) (ok_sub rfl rfl om9) om9) (W.appZ (e := eStr) (i := i) (c := s.length + u.length - i) sl49 ty9 zr9 rfl by9 Tryz.underlying3 h_s pr9 rfl rfl om9 om9 om9 om9 (by rw [show i + (s.length + u.length - i) = s.length + u.length from by omega]; exact hw) rfl (fun v40 Ms40 hp40 => (g9 7 ?_)))))
  refine W.ok (ok_sliceP (i) (i + (s.length + u.length - i)) sl49 ty9 hp40 rfl ⟨_, _, rfl, om9⟩ rfl ⟨om9, by have := OwnP.cap_le hp40; omega⟩) (W.mv (W.copyP (i) (by simp; omega) sl49 ty9 hp40 pr9 (Src.ofOwn0 h_u (pmA (pmA pr9)) om9) rfl rfl om9 om9 (fun z45 Ms45 hp45 => (g9 3 ?_))))
  refine WC.dw sn9 (d9 [0, 1, 2] ?_)
  refine WD.tk 3 rfl (Ok.int (n := ((i + u.length : Nat) : Int)) (ok_add rfl rfl om9) om9) (WD.tk 4 rfl (ok_sliceP (i + u.length) (i + (s.length + u.length - i)) sl49 ty9 hp45 rfl ⟨_, _, rfl, om9⟩ rfl ⟨om9, by have := OwnP.cap_le hp45; omega⟩) (d9 [5, 6] ?_))
  refine WD.tk 7 rfl (ok_sliceO (i) (s.length) sl49 ty9 h_s rfl ⟨_, _, rfl, om9⟩ rfl ⟨om9, .inl om9⟩) (WD.a1 8 rfl (W.copyP (i + u.length) (by simp; omega) sl49 ty9 hp45 pr9 (Src.ofOwn (lo := i) h_s (pmA pr9) om9 om9) rfl rfl (by simp; omega) om9 (fun z54 Ms54 hp54 => (W.nn (g9 10 ?_)))))
  refine ⟨.inr rfl, [_], ⟨rfl, trivial⟩, Ms54, List.sublist_append_left _ _, ?_⟩
  have h := (hp54.own' (by simp; omega))
  rw [List.append_nil] at h
  exact h
 refine g9 7 ?_
 refine W.ok (Ok.int (n := ((s.length + u.length : Nat) : Int)) (ok_add rfl rfl om9) om9) (W.ok (ok_sliceO 0 (s.length + u.length) sl49 ty9 h_s rfl rfl ⟨_, _, rfl, om9⟩ ⟨om9, .inr om9⟩) ?_)
 have hp60 := OwnP.extend (m := u.length) (OwnR.open h_s om9) om9 hw om9
 refine g9 10 ?_
 refine W.ok (Ok.int (n := ((i + u.length : Nat) : Int)) (ok_add rfl rfl om9) om9) (W.ok (ok_sliceP (i + u.length) (s.length + u.length) sl49 ty9 hp60 rfl ⟨_, _, rfl, om9⟩ rfl ⟨om9, by have := OwnP.cap_le hp60; omega⟩) ?_)
 have hc67 := OwnP.cap_le hp60
 refine W.ok (ok_overlaps (fn := Tryz.f156) (tR := 4) (lo := i + u.length) (hi := s.length + u.length) Tryz.func156 (by kernel_rfl) (by kernel_rfl) (by kernel_rfl) (by kernel_rfl) sl49 ty9 h_u hp60 ((List.Perm.append_left _ pr9).trans (pmA pr9)) om9 om9 rfl rfl rfl) (g9 5 ?_)
 refine WC.dw sn9 (d9 [0, 1, 2] ?_)
 refine WD.tk 3 rfl (Ok.int (n := ((i + u.length : Nat) : Int)) (ok_add rfl rfl om9) om9) (WD.tk 4 rfl (ok_sliceP (i + u.length) (s.length + u.length) sl49 ty9 hp60 rfl ⟨_, _, rfl, om9⟩ rfl ⟨om9, by have := OwnP.cap_le hp60; omega⟩) (d9 [5, 6] ?_))
 refine WD.tk 7 rfl (ok_sliceP (i) (s.length + u.length) sl49 ty9 hp60 rfl ⟨_, _, rfl, om9⟩ rfl ⟨om9, by have := OwnP.cap_le hp60; omega⟩) (WD.a1 8 rfl (W.copyShift (i := i) sl49 ty9 hp60 pr9 rfl rfl om9 (fun z77 Ms77 hp77 => (W.nn (g9 6 ?_)))))
 refine W.ok (ok_sliceP (i) (s.length + u.length) sl49 ty9 hp77 rfl ⟨_, _, rfl, om9⟩ rfl ⟨om9, by have := OwnP.cap_le hp77; omega⟩) (W.mv (W.copyP (i) (by simp; omega) sl49 ty9 hp77 pr9 (Src.ofOwn0 h_u (pmA pr9) om9) rfl rfl om9 om9 (fun z82 Ms82 hp82 => (g9 10 ?_))))
 refine ⟨.inr rfl, [_], ⟨rfl, trivial⟩, Ms82, List.sublist_append_left _ _, ?_⟩
 exact (hp82.own' om9)

theorem insi_fc {G : GH} {v_s : Value} {s : List Int} {Ms_s : MH} (h_s : OwnR eInt 3 G v_s s Ms_s) (i : Nat) {v_u : Value} {u : List Int} {Ms_u : MH} (h_u : OwnR eInt 3 G v_u u Ms_u) (hi : i ≤ s.length) (hu : 0 < u.length) (hw : (s.length + u.length) * 8 ≤ 140737488355328) :
    Fc Tryz.prog 147 [v_s, nt9 i, v_u] G (Ms_s ++ Ms_u) (fun v G' M' => OwnR eInt 3 G' v ((s.take i ++ u) ++ s.drop i) M') := by
 have hs := h_s.len47
 have hul := h_u.len47
 have hcs := h_s.cap_le
 refine Fc.go [.tmp 6] Tryz.func147 Tryz.ntmps147 rfl (fun w0 => (WC.perm (M' := (Ms_s ++ (Ms_u ++ []))) (by simp) (g9 9 ?_)))
 refine W.ok (ok_sliceO (i) (s.length) sl50 ty3 h_s rfl ⟨_, _, rfl, om9⟩ rfl ⟨om9, .inl om9⟩) (g9 16 ?_)
 refine WC.cd (fun h16 p16 => ?_) (fun h16 p16 => ?_)
 ·exact absurd p16 om9
 refine g9 17 ?_
 refine WC.cd (fun h22 p22 => ?_) (fun h22 p22 => ?_)
 ·refine g9 4 ?_
  refine W.giveO h_u (pmA pr9) (fun G8 hG8 hv8 => ?_)
  have q10 := hv8.form
  refine match q10 with | ⟨_, _, e_9⟩ => ?_
  subst e_9
  refine W.app (e := eInt) sl50 ty3 zr3 rfl by3 rfl rfl ((h_s.mono hG8)) (hv8) pr9 (hw) (fun v11 Ms12 ho13 => (g9 5 ?_))
  refine ⟨.inr rfl, [_], ⟨rfl, trivial⟩, Ms12, List.sublist_append_left _ _, ?_⟩
  have h := ho13
  rw [show (s.take i ++ u) ++ s.drop i = s ++ u from by rw [List.take_of_length_le om9, List.drop_eq_nil_of_le om9, List.append_nil]]
  exact h
 refine g9 7 ?_
 refine W.ok (Ok.int (n := ((s.length + u.length : Nat) : Int)) (ok_add rfl rfl om9) om9) (W.mv ?_)
 have q14 := h_s.capForm
 refine match q14 with | ⟨ac30, hcf30⟩ => ?_
 refine W.ok (ok_capO (c := capV v_s) sl50 hcf30) (g9 3 ?_)
 refine WC.cd (fun h31 p31 => ?_) (fun h31 p31 => ?_)
 ·refine g9 4 ?_
  refine W.ok (ok_sliceO (0) (i) sl50 ty3 h_s rfl rfl ⟨_, _, rfl, om9⟩ ⟨om9, .inl om9⟩) (g9 2 ?_)
  refine W.ok (Ok.int (n := ((s.length + u.length : Nat) : Int)) (ok_add rfl rfl om9) om9) (W.mv (W.ok (Ok.int (n := ((s.length + u.length - i : Nat) : Int)) (ok_sub rfl rfl om9) om9) (W.appZ (e := eInt) (i := i) (c := s.length + u.length - i) sl50 ty3 zr3 rfl by3 Tryz.underlying3 h_s pr9 rfl rfl om9 om9 om9 om9 (by rw [show i + (s.length + u.length - i) = s.length + u.length from by omega]; exact hw) rfl (fun v40 Ms40 hp40 => (g9 7 ?_)))))
  refine W.ok (ok_sliceP (i) (i + (s.length + u.length - i)) sl50 ty3 hp40 rfl ⟨_, _, rfl, om9⟩ rfl ⟨om9, by have := OwnP.cap_le hp40; omega⟩) (W.mv (W.copyP (i) (by simp; omega) sl50 ty3 hp40 pr9 (Src.ofOwn0 h_u (pmA (pmA pr9)) om9) rfl rfl om9 om9 (fun z45 Ms45 hp45 => (g9 3 ?_))))
  refine WC.dw sn9 (d9 [0, 1, 2] ?_)
  refine WD.tk 3 rfl (Ok.int (n := ((i + u.length : Nat) : Int)) (ok_add rfl rfl om9) om9) (WD.tk 4 rfl (ok_sliceP (i + u.length) (i + (s.length + u.length - i)) sl50 ty3 hp45 rfl ⟨_, _, rfl, om9⟩ rfl ⟨om9, by have := OwnP.cap_le hp45; omega⟩) (d9 [5, 6] ?_))
  refine WD.tk 7 rfl (ok_sliceO (i) (s.length) sl50 ty3 h_s rfl ⟨_, _, rfl, om9⟩ rfl ⟨om9, .inl om9⟩) (WD.a1 8 rfl (W.copyP (i + u.length) (by simp; omega) sl50 ty3 hp45 pr9 (Src.ofOwn (lo := i) h_s (pmA pr9) om9 om9) rfl rfl (by simp; omega) om9 (fun z54 Ms54 hp54 => (W.nn (g9 10 ?_)))))
  refine ⟨.inr rfl, [_], ⟨rfl, trivial⟩, Ms54, List.sublist_append_left _ _, ?_⟩
  have h := (hp54.own' (by simp; omega))
  rw [List.append_nil] at h
  exact h
 refine g9 7 ?_
 refine W.ok (Ok.int (n := ((s.length + u.length : Nat) : Int)) (ok_add rfl rfl om9) om9) (W.ok (ok_sliceO 0 (s.length + u.length) sl50 ty3 h_s rfl rfl ⟨_, _, rfl, om9⟩ ⟨om9, .inr om9⟩) ?_)
 have hp60 := OwnP.extend (m := u.length) (OwnR.open h_s om9) om9 hw om9
 refine g9 10 ?_
 refine W.ok (Ok.int (n := ((i + u.length : Nat) : Int)) (ok_add rfl rfl om9) om9) (W.ok (ok_sliceP (i + u.length) (s.length + u.length) sl50 ty3 hp60 rfl ⟨_, _, rfl, om9⟩ rfl ⟨om9, by have := OwnP.cap_le hp60; omega⟩) ?_)
 have hc67 := OwnP.cap_le hp60
 refine W.ok (ok_overlaps (fn := Tryz.f158) (tR := 4) (lo := i + u.length) (hi := s.length + u.length) Tryz.func158 (by kernel_rfl) (by kernel_rfl) (by kernel_rfl) (by kernel_rfl) sl50 ty3 h_u hp60 ((List.Perm.append_left _ pr9).trans (pmA pr9)) om9 om9 rfl rfl rfl) (g9 5 ?_)
 refine WC.dw sn9 (d9 [0, 1, 2] ?_)
 refine WD.tk 3 rfl (Ok.int (n := ((i + u.length : Nat) : Int)) (ok_add rfl rfl om9) om9) (WD.tk 4 rfl (ok_sliceP (i + u.length) (s.length + u.length) sl50 ty3 hp60 rfl ⟨_, _, rfl, om9⟩ rfl ⟨om9, by have := OwnP.cap_le hp60; omega⟩) (d9 [5, 6] ?_))
 refine WD.tk 7 rfl (ok_sliceP (i) (s.length + u.length) sl50 ty3 hp60 rfl ⟨_, _, rfl, om9⟩ rfl ⟨om9, by have := OwnP.cap_le hp60; omega⟩) (WD.a1 8 rfl (W.copyShift (i := i) sl50 ty3 hp60 pr9 rfl rfl om9 (fun z77 Ms77 hp77 => (W.nn (g9 6 ?_)))))
 refine W.ok (ok_sliceP (i) (s.length + u.length) sl50 ty3 hp77 rfl ⟨_, _, rfl, om9⟩ rfl ⟨om9, by have := OwnP.cap_le hp77; omega⟩) (W.mv (W.copyP (i) (by simp; omega) sl50 ty3 hp77 pr9 (Src.ofOwn0 h_u (pmA pr9) om9) rfl rfl om9 om9 (fun z82 Ms82 hp82 => (g9 10 ?_))))
 refine ⟨.inr rfl, [_], ⟨rfl, trivial⟩, Ms82, List.sublist_append_left _ _, ?_⟩
 exact (hp82.own' om9)

theorem clonesO_fc {G : GH} {v_a : Value} {a : List Str} (h_a : SlR eStr G v_a a) :
    Fc Tryz.prog 97 [v_a] G [] (fun v G' M' => OwnR eStr 9 G' v (a) M') := by
 obtain ⟨sa_a, sc_a, rfl⟩ := h_a.form
 have ha := h_a.bytes
 refine Fc.go [.tmp 2] Tryz.func97 Tryz.ntmps97 rfl (fun w0 => (g9 9 ?_))
 refine W.ok (ok_eqlNil sl49 rfl rfl) (g9 2 ?_)
 refine WC.cond rfl (fun h4 => ?_) (fun h4 => ?_)
 ·have hn := SlR.isNone h_a h4
  subst hn
  refine g9 8 ?_
  exact OwnR.nil
 refine g9 4 ?_
 refine W.lit0 (e := eStr) sl49 ty9 zr9 rfl (fun v15 Ms16 ho17 => (W.mv (W.app (e := eStr) sl49 ty9 zr9 rfl by9 rfl rfl (ho17) (h_a) pr9 (by simpa using ha) (fun v18 Ms19 ho20 => (g9 4 ?_)))))
 refine ⟨.inr rfl, [_], ⟨rfl, trivial⟩, Ms19, List.sublist_append_left _ _, ?_⟩
 have h := ho20
 rw [List.nil_append] at h
 exact h

theorem cloneiO_fc {G : GH} {v_a : Value} {a : List Int} (h_a : SlR eInt G v_a a) :
    Fc Tryz.prog 98 [v_a] G [] (fun v G' M' => OwnR eInt 3 G' v (a) M') := by
 obtain ⟨sa_a, sc_a, rfl⟩ := h_a.form
 have ha := h_a.bytes
 refine Fc.go [.tmp 2] Tryz.func98 Tryz.ntmps98 rfl (fun w0 => (g9 9 ?_))
 refine W.ok (ok_eqlNil sl50 rfl rfl) (g9 2 ?_)
 refine WC.cond rfl (fun h4 => ?_) (fun h4 => ?_)
 ·have hn := SlR.isNone h_a h4
  subst hn
  refine g9 8 ?_
  exact OwnR.nil
 refine g9 4 ?_
 refine W.lit0 (e := eInt) sl50 ty3 zr3 rfl (fun v21 Ms22 ho23 => (W.mv (W.app (e := eInt) sl50 ty3 zr3 rfl by3 rfl rfl (ho23) (h_a) pr9 (by simpa using ha) (fun v24 Ms25 ho26 => (g9 4 ?_)))))
 refine ⟨.inr rfl, [_], ⟨rfl, trivial⟩, Ms25, List.sublist_append_left _ _, ?_⟩
 have h := ho26
 rw [List.nil_append] at h
 exact h

theorem bins_fc {G : GH} {v_p : Value} {p : List Str} (h_p : SlR eStr G v_p p) {v_c : Value} {c : List Int} (h_c : SlR eInt G v_c c) (i : Nat) (k : Str) (nv : Int) (hb1 : (p.length + 1) * 16 ≤ 140737488355328) (hb2 : (c.length + 1) * 8 ≤ 140737488355328) (hi : i64 ((i : Nat) : Int)) (hv : i64 nv) :
    Fc Tryz.prog 132 [v_p, v_c, nt9 i, sV k.b, iV nv] G [] (fun v G' M' => M' = [] ∧ ∃ r : List Str × List Int, r = binsN p c i k nv ∧ ∃ u0 u1, v = .tuple #[u0, u1] ∧ SlR eStr G' u0 (r.1) ∧ SlR eInt G' u1 (r.2)) := by
 obtain ⟨sa_p, sc_p, rfl⟩ := h_p.form
 obtain ⟨sa_c, sc_c, rfl⟩ := h_c.form
 have hp := h_p.len47
 have hc := h_c.len47
 have hv1 := hv.1
 have hv2 := hv.2
 refine Fc.go [.tmp 10, .tmp 11] Tryz.func132 Tryz.ntmps132 rfl (fun w0 => (g9 10 ?_))
 refine W.qcall (brange_fc h_p _ (by first | assumption | exact ⟨om9, om9⟩)) rfl (W.alloc zr55 (fun b28 => (g9 9 ?_)))
 refine W.sd 18 (fun h17 p17 => ?_) (fun h17 p17 => ?_)
 ·exfalso; omega
 refine g9 10 ?_
 refine W.sd 24 (fun h22 p22 => ?_) (fun h22 p22 => ?_)
 ·refine g9 23 ?_
  refine ⟨rfl, _, (binsN_0 (.inl om9)).symm, _, _, rfl, ?_, ?_⟩
  · exact SlR.nil
  exact SlR.nil
 refine g9 5 ?_
 refine W.qcall (spanhas_fc _ _ _ _) rfl (g9 4 ?_)
 refine W.sp 30 rfl (fun h28 => ?_) (fun h28 => ?_)
 ·refine g9 17 ?_
  refine ⟨rfl, _, (binsN_0 (.inr (.inl (by simpa using h28)))).symm, _, _, rfl, ?_, ?_⟩
  · exact SlR.nil
  exact SlR.nil
 refine g9 11 ?_
 refine WC.cd (fun h34 p34 => ?_) (fun h34 p34 => ?_)
 ·refine g9 9 ?_
  refine ⟨rfl, _, (binsN_0 (.inr (.inr (Str.ext' p34)))).symm, _, _, rfl, ?_, ?_⟩
  · exact SlR.nil
  exact SlR.nil
 have hin := range_in (p := p) (i := i) (k := k) (by simpa using h28)
 have hb := binsN_1 (p := p) (c := c) (i := i) (k := k) (v := nv) om9 (by simpa using h28) (fun e => p34 (congrArg Str.b e))
 refine g9 5 ?_
 refine W.call (Mp := []) (clonesO_fc h_p) rfl pr9 ?_
 rintro v30 G29 Ms31 hG29 ho32
 refine W.perm (pmC pr9).symm (g9 2 ?_)
 refine W.litO (e := eStr) (l := [_]) (css := [[sV _]]) sl49 ty9 zr9 rfl rfl rfl rfl rfl rfl ⟨rfl, trivial⟩ (fun v33 Ms34 ho35 => (W.perm (pmC pr9).symm (W.call (Mp := Ms31 ++ Ms34) (inss_fc ho32 _ ho35 (by first | assumption | omega) (by first | assumption | omega | simp) (by first | assumption | omega | (simp; omega))) rfl ((List.Perm.of_eq (List.append_assoc _ _ _)).trans ((List.Perm.append_left _ (pmC pr9)).trans (pmC (pmA pr9)))) ?_)))
 rintro v37 G36 Ms38 hG36 ho39
 refine W.perm (pmC pr9).symm (W.mv (W.call (Mp := []) (cloneiO_fc (h_c.mono lec)) rfl pr9 ?_))
 rintro v41 G40 Ms42 hG40 ho43
 refine W.perm (pmC pr9).symm (W.mv (W.ok (Ok.int (n := ((i + 1 : Nat) : Int)) (ok_add rfl rfl om9) om9) (W.mv (W.litO (e := eInt) (l := [_]) (css := [[iV _]]) sl50 ty3 zr3 rfl rfl rfl rfl rfl rfl ⟨⟨rfl, om9, om9⟩, trivial⟩ (fun v44 Ms45 ho46 => (W.perm (pmC pr9).symm (W.call (Mp := Ms42 ++ Ms45) (insi_fc ho43 _ ho46 (by first | assumption | omega) (by first | assumption | omega | simp) (by first | assumption | omega | (simp; omega))) rfl ((List.Perm.of_eq (List.append_assoc _ _ _)).trans ((List.Perm.append_left _ (pmC pr9)).trans (pmC (pmA pr9)))) ?_)))))))
 rintro v48 G47 Ms49 hG47 ho50
 refine W.perm (pmC pr9).symm (g9 4 ?_)
 refine WC.giveO (ho39.mono lec) (pmC (pmA pr9)) (fun G51 hG51 hv51 => (WC.giveO (ho50.mono hG51) (pmC pr9) (fun G52 hG52 hv52 => (g9 2 ?_))))
 refine ⟨rfl, _, hb.symm, _, _, rfl, ?_, ?_⟩
 · exact (hv51.mono hG52)
 exact hv52

theorem cutO_fc {G : GH} {v_l : Value} {l : List Str} (h_l : SlR eStr G v_l l) (i : Nat) (j : Nat) (hij : i ≤ j ∧ j ≤ l.length) :
    Fc Tryz.prog 113 [v_l, nt9 i, nt9 j] G [] (fun v G' M' => OwnR eStr 9 G' v ((l.take j).drop i) M') := by
 obtain ⟨sa_l, sc_l, rfl⟩ := h_l.form
 have hl := h_l.len47
 have hlb : l.length * 16 ≤ 140737488355328 := h_l.bytes
 obtain ⟨hi, hj⟩ := hij
 refine Fc.go [.tmp 6] Tryz.func113 Tryz.ntmps113 rfl (fun w0 => (g9 7 ?_))
 refine W.lit0 (e := eStr) sl49 ty9 zr9 rfl (fun v53 Ms54 ho55 => (g9 3 ?_))
 have hs56 := SlR.slice h_l (lo := i) (hi := j) om9 om9
 refine W.ok (ok_slice (i) (j) sl49 ty9 h_l rfl ⟨_, _, rfl, om9⟩ ⟨_, _, rfl, om9⟩ ⟨om9, om9⟩) (W.app (e := eStr) sl49 ty9 zr9 rfl by9 rfl rfl (ho55) (hs56) pr9 (by show (0 + ((l.take j).drop i).length) * 16 ≤ _; simp; omega) (fun v57 Ms58 ho59 => (g9 4 ?_)))
 refine ⟨.inr rfl, [_], ⟨rfl, trivial⟩, Ms58, List.sublist_append_left _ _, ?_⟩
 exact ho59

theorem partO_fc {G : GH} {v_l : Value} {l : List Int} (h_l : SlR eInt G v_l l) (i : Nat) (j : Nat) (hij : i ≤ j ∧ j ≤ l.length) :
    Fc Tryz.prog 114 [v_l, nt9 i, nt9 j] G [] (fun v G' M' => OwnR eInt 3 G' v ((l.take j).drop i) M') := by
 obtain ⟨sa_l, sc_l, rfl⟩ := h_l.form
 have hl := h_l.len47
 have hlb : l.length * 8 ≤ 140737488355328 := h_l.bytes
 obtain ⟨hi, hj⟩ := hij
 refine Fc.go [.tmp 6] Tryz.func114 Tryz.ntmps114 rfl (fun w0 => (g9 7 ?_))
 refine W.lit0 (e := eInt) sl50 ty3 zr3 rfl (fun v60 Ms61 ho62 => (g9 3 ?_))
 have hs63 := SlR.slice h_l (lo := i) (hi := j) om9 om9
 refine W.ok (ok_slice (i) (j) sl50 ty3 h_l rfl ⟨_, _, rfl, om9⟩ ⟨_, _, rfl, om9⟩ ⟨om9, om9⟩) (W.app (e := eInt) sl50 ty3 zr3 rfl by3 rfl rfl (ho62) (hs63) pr9 (by show (0 + ((l.take j).drop i).length) * 8 ≤ _; simp; omega) (fun v64 Ms65 ho66 => (g9 4 ?_)))
 refine ⟨.inr rfl, [_], ⟨rfl, trivial⟩, Ms65, List.sublist_append_left _ _, ?_⟩
 exact ho66

end Go.Proofs.YtfmigmijckdldaaGreat

namespace Go.Fw
def adoptN (n : Nd) (i : Nat) (k : Str) (v : Int) : Nd × Bool :=
 if n.level = 0 ∨ (binsN n.pivots n.kids i k v).2.length = 0 then (Nd.zero, false)
 else ({ n with pivots := (binsN n.pivots n.kids i k v).1, kids := (binsN n.pivots n.kids i k v).2 }, true)
theorem adoptN_0 {n : Nd} {i : Nat} {k : Str} {v : Int} (h : n.level = 0 ∨ (binsN n.pivots n.kids i k v).2.length = 0) : adoptN n i k v = (Nd.zero, false) := if_pos h
theorem adoptN_2 {n : Nd} {i : Nat} {k : Str} {v : Int} (h1 : ¬ n.level = 0) (h2 : ¬ (binsN n.pivots n.kids i k v).2.length = 0) : adoptN n i k v = ({ n with pivots := (binsN n.pivots n.kids i k v).1, kids := (binsN n.pivots n.kids i k v).2 }, true) := if_neg (by rintro (h | h); exact h1 h; exact h2 h)
theorem bins_0 {p : List Str} {c : List Int} {i : Nat} {k : Str} {v : Int} (h : c.length ≤ i ∨ (rangeN p (i : Int)).has k = false ∨ k = (rangeN p (i : Int)).lo) : (binsN p c i k v).2.length = 0 := by rw [binsN_0 h]; rfl
theorem has_out {p : List Str} {i : Nat} {k : Str} (h : p.length < i) : (rangeN p (i : Int)).has k = false := by
 cases h2 : (rangeN p (i : Int)).has k
 ·rfl
 ·have := range_in h2; omega
theorem adoptN_1 {n : Nd} {i : Nat} {k : Str} {v : Int} (h1 : ¬ n.level = 0) (h2 : ¬ n.kids.length ≤ i) (h3 : (rangeN n.pivots (i : Int)).has k = true) (h4 : ¬ k = (rangeN n.pivots (i : Int)).lo) :
  adoptN n i k v = ({ n with pivots := (n.pivots.take i ++ [k]) ++ n.pivots.drop i, kids := (n.kids.take (i + 1) ++ [v]) ++ n.kids.drop (i + 1) }, true) := by
 have e := binsN_1 (v := v) h2 h3 h4
 rw [adoptN_2 h1 (by rw [e]; simp), e]
end Go.Fw
namespace Go.Proofs.YtfmigmijckdldaaGreat
open Go Go.Fw Go.RowKit
attribute [local irreducible] Ok W WC
theorem clones_fc {G : GH} {v_a : Value} {a : List Str} (h_a : SlR eStr G v_a a) :
    Fc Tryz.prog 97 [v_a] G [] (fun v G' M' => M' = [] ∧ ∃ u0, v = u0 ∧ SlR eStr G' u0 (a)) := by
 obtain ⟨sa_a, sc_a, rfl⟩ := h_a.form
 have ha := h_a.bytes
 refine Fc.go [.tmp 2] Tryz.func97 Tryz.ntmps97 rfl (fun w0 => (g9 9 ?_))
 refine W.ok (ok_eqlNil sl49 rfl rfl) (g9 2 ?_)
 refine WC.cond rfl (fun h4 => ?_) (fun h4 => ?_)
 ·have hn := SlR.isNone h_a h4
  subst hn
  refine g9 8 ?_
  refine ⟨rfl, _, rfl, ?_⟩
  · exact SlR.nil
 refine g9 4 ?_
 refine W.lit0 (e := eStr) sl49 ty9 zr9 rfl (fun v1 Ms2 ho3 => (W.mv (W.app (e := eStr) sl49 ty9 zr9 rfl by9 rfl rfl (ho3) (h_a) pr9 (by simpa using ha) (fun v4 Ms5 ho6 => (g9 3 ?_)))))
 refine WC.giveO ho6 pr9 (fun G7 hG7 hv7 => (g9 2 ?_))
 refine ⟨rfl, _, rfl, ?_⟩
 · exact hv7

theorem clonei_fc {G : GH} {v_a : Value} {a : List Int} (h_a : SlR eInt G v_a a) :
    Fc Tryz.prog 98 [v_a] G [] (fun v G' M' => M' = [] ∧ ∃ u0, v = u0 ∧ SlR eInt G' u0 (a)) := by
 obtain ⟨sa_a, sc_a, rfl⟩ := h_a.form
 have ha := h_a.bytes
 refine Fc.go [.tmp 2] Tryz.func98 Tryz.ntmps98 rfl (fun w0 => (g9 9 ?_))
 refine W.ok (ok_eqlNil sl50 rfl rfl) (g9 2 ?_)
 refine WC.cond rfl (fun h4 => ?_) (fun h4 => ?_)
 ·have hn := SlR.isNone h_a h4
  subst hn
  refine g9 8 ?_
  refine ⟨rfl, _, rfl, ?_⟩
  · exact SlR.nil
 refine g9 4 ?_
 refine W.lit0 (e := eInt) sl50 ty3 zr3 rfl (fun v8 Ms9 ho10 => (W.mv (W.app (e := eInt) sl50 ty3 zr3 rfl by3 rfl rfl (ho10) (h_a) pr9 (by simpa using ha) (fun v11 Ms12 ho13 => (g9 3 ?_)))))
 refine WC.giveO ho13 pr9 (fun G14 hG14 hv14 => (g9 2 ?_))
 refine ⟨rfl, _, rfl, ?_⟩
 · exact hv14

theorem ncopy_fc {G : GH} {cs_a : List Value} {a : Nd} (h_a : NodeC G cs_a a) :
    Fc Tryz.prog 62 [.agg (List.toArray cs_a)] G [] (fun v G' M' => M' = [] ∧ ∃ u0, v = .agg (List.toArray u0) ∧ NodeC G' u0 (a)) := by
 obtain ⟨_, _, _, _, _, _, _, _, rfl, hp_a, hk_a, hm_a, hr_a, hok_a⟩ := h_a
 refine Fc.go [.cell 2 53] Tryz.func62 Tryz.ntmps62 rfl (fun w0 => (g9 2 ?_))
 refine W.box (L := [iV _, iV _, lV _ _ _, lV _ _ _, sV _, .bool _, iV _, iV _, lV _ _ _, lV _ _ _]) rfl rfl (fun b15 => (W.alloc zr53 (fun b16 => (g9 3 ?_))))
 refine WC.dw ((sr9.cons _).k9) (d9 [0, 3] ?_)
 refine WD.any [1, 4] (by kernel_rfl) rfl ⟨WD.ap ?_, WD.ap ?_, trivial⟩
 ·refine g9 1 ?_
  refine W.nn ?_
  refine WD.any [2, 4] (by kernel_rfl) rfl ⟨WD.ap ?_, WD.ap ?_, trivial⟩
  ·refine W.cS (clones_fc hp_a) rfl (fun sa_hv18 sc_hv18 G17 hG17 hv18 => (W.nn (WD.a1 4 rfl (g9 1 ?_))))
   refine W.nn (d9 [6] ?_)
   refine WD.a1 5 rfl (W.cS (clonei_fc (hk_a.mono hG17)) rfl (fun sa_hv25 sc_hv25 G24 hG24 hv25 => (W.nn (d9 [7, 8, 9] ?_))))
   refine g9 3 ?_
   refine WC.dw ((sr9.cons _).k9) (d9 [0, 3] ?_)
   refine WD.any [1, 4] (by kernel_rfl) rfl ⟨WD.ap ?_, WD.ap ?_, trivial⟩
   ·refine g9 1 ?_
    refine W.nn ?_
    refine WD.any [2, 4] (by kernel_rfl) rfl ⟨WD.ap ?_, WD.ap ?_, trivial⟩
    ·refine W.cS (clonem_fc (hm_a.mono lec)) rfl (fun sa_hv32 sc_hv32 G31 hG31 hv32 => (W.nn (WD.a1 4 rfl (g9 1 ?_))))
     refine W.nn (d9 [6] ?_)
     refine WD.a1 5 rfl (W.cS (clonep_fc (hr_a.mono lec)) rfl (fun sa_hv39 sc_hv39 G38 hG38 hv39 => (W.nn (d9 [7, 8, 9] ?_))))
     refine g9 10 ?_
     refine ⟨rfl, _, rfl, ?_⟩
     · exact ⟨_, _, _, _, _, _, _, _, rfl, (hv18.mono lec), (hv25.mono lec), (hv32.mono hG38), hv39, (by assumption)⟩
    refine g9 1 ?_
    refine W.nn (WD.a1 2 rfl (W.cS (clonem_fc (hm_a.mono lec)) rfl (fun sa_hv46 sc_hv46 G45 hG45 hv46 => (W.nn (d9 [6] ?_)))))
    refine WD.a1 5 rfl (W.cS (clonep_fc (hr_a.mono lec)) rfl (fun sa_hv53 sc_hv53 G52 hG52 hv53 => (W.nn (d9 [7, 8, 9] ?_))))
    refine g9 10 ?_
    refine ⟨rfl, _, rfl, ?_⟩
    · exact ⟨_, _, _, _, _, _, _, _, rfl, (hv18.mono lec), (hv25.mono lec), (hv46.mono hG52), hv53, (by assumption)⟩
   refine g9 1 ?_
   refine W.nn (WD.a1 1 rfl (g9 1 ?_))
   refine W.nn (WD.a1 2 rfl (W.cS (clonem_fc (hm_a.mono lec)) rfl (fun sa_hv60 sc_hv60 G59 hG59 hv60 => (W.nn (d9 [6] ?_)))))
   refine WD.a1 5 rfl (W.cS (clonep_fc (hr_a.mono lec)) rfl (fun sa_hv67 sc_hv67 G66 hG66 hv67 => (W.nn (d9 [7, 8, 9] ?_))))
   refine g9 10 ?_
   refine ⟨rfl, _, rfl, ?_⟩
   · exact ⟨_, _, _, _, _, _, _, _, rfl, (hv18.mono lec), (hv25.mono lec), (hv60.mono hG66), hv67, (by assumption)⟩
  refine g9 1 ?_
  refine W.nn (WD.a1 2 rfl (W.cS (clones_fc hp_a) rfl (fun sa_hv74 sc_hv74 G73 hG73 hv74 => (W.nn (d9 [6] ?_)))))
  refine WD.a1 5 rfl (W.cS (clonei_fc (hk_a.mono hG73)) rfl (fun sa_hv81 sc_hv81 G80 hG80 hv81 => (W.nn (d9 [7, 8, 9] ?_))))
  refine g9 3 ?_
  refine WC.dw ((sr9.cons _).k9) (d9 [0, 3] ?_)
  refine WD.any [1, 4] (by kernel_rfl) rfl ⟨WD.ap ?_, WD.ap ?_, trivial⟩
  ·refine g9 1 ?_
   refine W.nn ?_
   refine WD.any [2, 4] (by kernel_rfl) rfl ⟨WD.ap ?_, WD.ap ?_, trivial⟩
   ·refine W.cS (clonem_fc (hm_a.mono lec)) rfl (fun sa_hv88 sc_hv88 G87 hG87 hv88 => (W.nn (WD.a1 4 rfl (g9 1 ?_))))
    refine W.nn (d9 [6] ?_)
    refine WD.a1 5 rfl (W.cS (clonep_fc (hr_a.mono lec)) rfl (fun sa_hv95 sc_hv95 G94 hG94 hv95 => (W.nn (d9 [7, 8, 9] ?_))))
    refine g9 10 ?_
    refine ⟨rfl, _, rfl, ?_⟩
    · exact ⟨_, _, _, _, _, _, _, _, rfl, (hv74.mono lec), (hv81.mono lec), (hv88.mono hG94), hv95, (by assumption)⟩
   refine g9 1 ?_
   refine W.nn (WD.a1 2 rfl (W.cS (clonem_fc (hm_a.mono lec)) rfl (fun sa_hv102 sc_hv102 G101 hG101 hv102 => (W.nn (d9 [6] ?_)))))
   refine WD.a1 5 rfl (W.cS (clonep_fc (hr_a.mono lec)) rfl (fun sa_hv109 sc_hv109 G108 hG108 hv109 => (W.nn (d9 [7, 8, 9] ?_))))
   refine g9 10 ?_
   refine ⟨rfl, _, rfl, ?_⟩
   · exact ⟨_, _, _, _, _, _, _, _, rfl, (hv74.mono lec), (hv81.mono lec), (hv102.mono hG108), hv109, (by assumption)⟩
  refine g9 1 ?_
  refine W.nn (WD.a1 1 rfl (g9 1 ?_))
  refine W.nn (WD.a1 2 rfl (W.cS (clonem_fc (hm_a.mono lec)) rfl (fun sa_hv116 sc_hv116 G115 hG115 hv116 => (W.nn (d9 [6] ?_)))))
  refine WD.a1 5 rfl (W.cS (clonep_fc (hr_a.mono lec)) rfl (fun sa_hv123 sc_hv123 G122 hG122 hv123 => (W.nn (d9 [7, 8, 9] ?_))))
  refine g9 10 ?_
  refine ⟨rfl, _, rfl, ?_⟩
  · exact ⟨_, _, _, _, _, _, _, _, rfl, (hv74.mono lec), (hv81.mono lec), (hv116.mono hG122), hv123, (by assumption)⟩
 refine g9 1 ?_
 refine W.nn (WD.a1 1 rfl (g9 1 ?_))
 refine W.nn (WD.a1 2 rfl (W.cS (clones_fc hp_a) rfl (fun sa_hv130 sc_hv130 G129 hG129 hv130 => (W.nn (d9 [6] ?_)))))
 refine WD.a1 5 rfl (W.cS (clonei_fc (hk_a.mono hG129)) rfl (fun sa_hv137 sc_hv137 G136 hG136 hv137 => (W.nn (d9 [7, 8, 9] ?_))))
 refine g9 3 ?_
 refine WC.dw ((sr9.cons _).k9) (d9 [0, 3] ?_)
 refine WD.any [1, 4] (by kernel_rfl) rfl ⟨WD.ap ?_, WD.ap ?_, trivial⟩
 ·refine g9 1 ?_
  refine W.nn ?_
  refine WD.any [2, 4] (by kernel_rfl) rfl ⟨WD.ap ?_, WD.ap ?_, trivial⟩
  ·refine W.cS (clonem_fc (hm_a.mono lec)) rfl (fun sa_hv144 sc_hv144 G143 hG143 hv144 => (W.nn (WD.a1 4 rfl (g9 1 ?_))))
   refine W.nn (d9 [6] ?_)
   refine WD.a1 5 rfl (W.cS (clonep_fc (hr_a.mono lec)) rfl (fun sa_hv151 sc_hv151 G150 hG150 hv151 => (W.nn (d9 [7, 8, 9] ?_))))
   refine g9 10 ?_
   refine ⟨rfl, _, rfl, ?_⟩
   · exact ⟨_, _, _, _, _, _, _, _, rfl, (hv130.mono lec), (hv137.mono lec), (hv144.mono hG150), hv151, (by assumption)⟩
  refine g9 1 ?_
  refine W.nn (WD.a1 2 rfl (W.cS (clonem_fc (hm_a.mono lec)) rfl (fun sa_hv158 sc_hv158 G157 hG157 hv158 => (W.nn (d9 [6] ?_)))))
  refine WD.a1 5 rfl (W.cS (clonep_fc (hr_a.mono lec)) rfl (fun sa_hv165 sc_hv165 G164 hG164 hv165 => (W.nn (d9 [7, 8, 9] ?_))))
  refine g9 10 ?_
  refine ⟨rfl, _, rfl, ?_⟩
  · exact ⟨_, _, _, _, _, _, _, _, rfl, (hv130.mono lec), (hv137.mono lec), (hv158.mono hG164), hv165, (by assumption)⟩
 refine g9 1 ?_
 refine W.nn (WD.a1 1 rfl (g9 1 ?_))
 refine W.nn (WD.a1 2 rfl (W.cS (clonem_fc (hm_a.mono lec)) rfl (fun sa_hv172 sc_hv172 G171 hG171 hv172 => (W.nn (d9 [6] ?_)))))
 refine WD.a1 5 rfl (W.cS (clonep_fc (hr_a.mono lec)) rfl (fun sa_hv179 sc_hv179 G178 hG178 hv179 => (W.nn (d9 [7, 8, 9] ?_))))
 refine g9 10 ?_
 refine ⟨rfl, _, rfl, ?_⟩
 · exact ⟨_, _, _, _, _, _, _, _, rfl, (hv130.mono lec), (hv137.mono lec), (hv172.mono hG178), hv179, (by assumption)⟩

theorem canat_fc {G : GH} {cs_n : List Value} {n : Nd} (h_n : NodeC G cs_n n) (i : Nat) (k : Str) (nv : Int) (hz : n.pivots.length ≤ 1000000 ∧ n.kids.length ≤ 1000000) (hi : i64 ((i : Nat) : Int)) (hv : i64 nv) :
    Fc Tryz.prog 105 [.agg (List.toArray cs_n), nt9 i, sV k.b, iV nv] G [] (fun v G' M' => M' = [] ∧ ∃ r : Nd × Bool, r = adoptN n i k nv ∧ ∃ u0, v = .tuple #[.agg (List.toArray u0), .bool (r.2)] ∧ NodeC G' u0 (r.1)) := by
 obtain ⟨_, _, _, _, _, _, _, _, rfl, hp_n, hk_n, hm_n, hr_n, hok_n⟩ := h_n
 have h1 := hp_n.len47
 have h2 := hk_n.len47
 have h3 := hm_n.len47
 have h4 := hr_n.len47
 obtain ⟨hz1, hz2⟩ := hz
 have hv1 := hv.1
 have hv2 := hv.2
 have hi1 := hi.1
 have hi2 := hi.2
 have b1 : n.pivots.length * 16 ≤ 140737488355328 := hp_n.bytes
 have b2 : n.kids.length * 8 ≤ 140737488355328 := hk_n.bytes
 refine Fc.go [.cell 8 53, .tmp 9] Tryz.func105 Tryz.ntmps105 rfl (fun w0 => (g9 2 ?_))
 refine W.box (L := [iV _, iV _, lV _ _ _, lV _ _ _, sV _, .bool _, iV _, iV _, lV _ _ _, lV _ _ _]) rfl rfl (fun b200 => (W.alloc zr53 (fun b201 => (g9 11 ?_))))
 refine WC.cd (fun h15 p15 => ?_) (fun h15 p15 => ?_)
 ·refine g9 2 ?_
  refine W.ok (ok_build (L := [iV _, iV _, lV _ _ _, lV _ _ _, sV _, .bool _, iV _, iV _, lV _ _ _, lV _ _ _]) pl53 zr53 rfl rfl rfl) (g9 7 ?_)
  refine ⟨rfl, _, (adoptN_0 (.inl p15)).symm, _, rfl, ?_⟩
  · exact ⟨_, _, _, _, _, _, _, _, rfl, SlR.nil, SlR.nil, SlR.nil, SlR.nil, Nd.zero_ok⟩
 refine g9 11 ?_
 refine W.call (Mp := []) (bins_fc hp_n hk_n _ _ _ (by first | assumption | omega | (simp; omega)) (by first | assumption | omega | (simp; omega)) (by first | assumption | exact ⟨om9, om9⟩) (by assumption)) rfl pr9 ?_
 intro _ G202 _ hG202 q205
 refine match q205 with | ⟨e_206, _, e_207, _, _, e_208, hv203, hv204⟩ => ?_
 subst e_206
 subst e_207
 subst e_208
 have q210 := hv203.form
 refine match q210 with | ⟨sa_hv203, sc_hv203, e_209⟩ => ?_
 subst e_209
 have q212 := hv204.form
 refine match q212 with | ⟨sa_hv204, sc_hv204, e_211⟩ => ?_
 subst e_211
 refine g9 15 ?_
 refine WC.cd (fun h30 p30 => ?_) (fun h30 p30 => ?_)
 ·refine g9 2 ?_
  refine W.ok (ok_build (L := [iV _, iV _, lV _ _ _, lV _ _ _, sV _, .bool _, iV _, iV _, lV _ _ _, lV _ _ _]) pl53 zr53 rfl rfl rfl) (g9 7 ?_)
  refine ⟨rfl, _, (adoptN_0 (.inr om9)).symm, _, rfl, ?_⟩
  · exact ⟨_, _, _, _, _, _, _, _, rfl, SlR.nil, SlR.nil, SlR.nil, SlR.nil, Nd.zero_ok⟩
 refine g9 5 ?_
 refine W.cN (ncopy_fc (nm9 hG202 hp_n hk_n hm_n hr_n hok_n)) rfl (fun _ _ _ _ _ _ _ _ G213 hG213 hp_hv214 hk_hv214 hm_hv214 hr_hv214 hok_hv214 => (W.alloc zr53 (fun b219 => (g9 22 ?_))))
 refine ⟨rfl, _, (adoptN_2 p15 om9).symm, _, rfl, ?_⟩
 · exact ⟨_, _, _, _, _, _, _, _, rfl, (hv203.mono hG213), (hv204.mono hG213), hm_hv214, hr_hv214, hok_n⟩

theorem ranat_fc {G : GH} {cs_n : List Value} {n : Nd} (h_n : NodeC G cs_n n) (i : Nat) (k : Str) (nv : Int) (hz : n.pivots.length ≤ 1000000 ∧ n.kids.length ≤ 1000000) (hi : i64 ((i : Nat) : Int)) (hv : i64 nv) :
    Fc Tryz.prog 79 [.agg (List.toArray cs_n), nt9 i, sV k.b, iV nv] G [] (fun v G' M' => M' = [] ∧ ∃ r : Nd × Bool, r = adoptN n i k nv ∧ ∃ u0, v = .tuple #[.agg (List.toArray u0), .bool (r.2)] ∧ NodeC G' u0 (r.1)) := by
 obtain ⟨_, _, _, _, _, _, _, _, rfl, hp_n, hk_n, hm_n, hr_n, hok_n⟩ := h_n
 have h1 := hp_n.len47
 have h2 := hk_n.len47
 have h3 := hm_n.len47
 have h4 := hr_n.len47
 obtain ⟨hz1, hz2⟩ := hz
 have hv1 := hv.1
 have hv2 := hv.2
 have hi1 := hi.1
 have hi2 := hi.2
 have b1 : n.pivots.length * 16 ≤ 140737488355328 := hp_n.bytes
 have b2 : n.kids.length * 8 ≤ 140737488355328 := hk_n.bytes
 refine Fc.go [.cell 8 53, .tmp 9] Tryz.func79 Tryz.ntmps79 rfl (fun w0 => (g9 2 ?_))
 refine W.box (L := [iV _, iV _, lV _ _ _, lV _ _ _, sV _, .bool _, iV _, iV _, lV _ _ _, lV _ _ _]) rfl rfl (fun b220 => (W.alloc zr53 (fun b221 => (g9 8 ?_))))
 refine W.qcall (rrange_fc hp_n _ (by first | assumption | exact ⟨om9, om9⟩)) rfl (W.alloc zr55 (fun b222 => (g9 10 ?_)))
 refine W.sd 19 (fun h18 p18 => ?_) (fun h18 p18 => ?_)
 ·refine g9 34 ?_
  refine W.ok (ok_build (L := [iV _, iV _, lV _ _ _, lV _ _ _, sV _, .bool _, iV _, iV _, lV _ _ _, lV _ _ _]) pl53 zr53 rfl rfl rfl) (g9 7 ?_)
  refine ⟨rfl, _, (adoptN_0 (.inl p18)).symm, _, rfl, ?_⟩
  · exact ⟨_, _, _, _, _, _, _, _, rfl, SlR.nil, SlR.nil, SlR.nil, SlR.nil, Nd.zero_ok⟩
 refine g9 6 ?_
 refine W.sd 23 (fun h21 p21 => ?_) (fun h21 p21 => ?_)
 ·exfalso; omega
 refine g9 12 ?_
 refine W.sd 30 (fun h28 p28 => ?_) (fun h28 p28 => ?_)
 ·refine g9 23 ?_
  refine W.ok (ok_build (L := [iV _, iV _, lV _ _ _, lV _ _ _, sV _, .bool _, iV _, iV _, lV _ _ _, lV _ _ _]) pl53 zr53 rfl rfl rfl) (g9 7 ?_)
  refine ⟨rfl, _, (adoptN_0 (.inr (bins_0 (.inl om9)))).symm, _, rfl, ?_⟩
  · exact ⟨_, _, _, _, _, _, _, _, rfl, SlR.nil, SlR.nil, SlR.nil, SlR.nil, Nd.zero_ok⟩
 refine g9 12 ?_
 refine W.sd 37 (fun h35 p35 => ?_) (fun h35 p35 => ?_)
 ·refine g9 16 ?_
  refine W.ok (ok_build (L := [iV _, iV _, lV _ _ _, lV _ _ _, sV _, .bool _, iV _, iV _, lV _ _ _, lV _ _ _]) pl53 zr53 rfl rfl rfl) (g9 7 ?_)
  refine ⟨rfl, _, (adoptN_0 (.inr (bins_0 (.inr (.inl (has_out om9)))))).symm, _, rfl, ?_⟩
  · exact ⟨_, _, _, _, _, _, _, _, rfl, SlR.nil, SlR.nil, SlR.nil, SlR.nil, Nd.zero_ok⟩
 refine g9 5 ?_
 refine W.qcall (has_fc _ _ _ _) rfl (g9 4 ?_)
 refine W.sp 43 rfl (fun h41 => ?_) (fun h41 => ?_)
 ·refine g9 10 ?_
  refine W.ok (ok_build (L := [iV _, iV _, lV _ _ _, lV _ _ _, sV _, .bool _, iV _, iV _, lV _ _ _, lV _ _ _]) pl53 zr53 rfl rfl rfl) (g9 7 ?_)
  refine ⟨rfl, _, (adoptN_0 (.inr (bins_0 (.inr (.inl (by simpa using h41)))))).symm, _, rfl, ?_⟩
  · exact ⟨_, _, _, _, _, _, _, _, rfl, SlR.nil, SlR.nil, SlR.nil, SlR.nil, Nd.zero_ok⟩
 refine g9 11 ?_
 refine WC.cd (fun h47 p47 => ?_) (fun h47 p47 => ?_)
 ·refine g9 2 ?_
  refine W.ok (ok_build (L := [iV _, iV _, lV _ _ _, lV _ _ _, sV _, .bool _, iV _, iV _, lV _ _ _, lV _ _ _]) pl53 zr53 rfl rfl rfl) (g9 7 ?_)
  refine ⟨rfl, _, (adoptN_0 (.inr (bins_0 (.inr (.inr (Str.ext' p47)))))).symm, _, rfl, ?_⟩
  · exact ⟨_, _, _, _, _, _, _, _, rfl, SlR.nil, SlR.nil, SlR.nil, SlR.nil, Nd.zero_ok⟩
 refine g9 5 ?_
 refine W.alloc zr53 (fun b223 => (g9 4 ?_))
 refine WC.dw (((sr9.k9.k9).k9).cons _) (d9 [0, 1, 2, 4, 7, 8, 9] ?_)
 have hs224 := SlR.slice hp_n (lo := i) (hi := n.pivots.length) om9 om9
 refine WD.tk 10 rfl (ok_slice (i) (n.pivots.length) sl49 ty9 hp_n rfl ⟨_, _, rfl, om9⟩ rfl ⟨om9, om9⟩) ?_
 refine WD.any [3, 5] (by kernel_rfl) rfl ⟨WD.ap ?_, WD.ap ?_, trivial⟩
 ·refine W.call (Mp := []) (cutO_fc hp_n 0 _ ⟨om9, om9⟩) rfl pr9 ?_
  rintro v226 G225 Ms227 hG225 ho228
  refine W.perm (pmC (pmC (pmC (pmC pr9)))).symm (W.nn (WD.a1 5 rfl (W.lit (e := eStr) (l := [_]) (css := [[sV _]]) sl49 ty9 zr9 rfl rfl rfl rfl rfl rfl ⟨rfl, trivial⟩ (fun bl229 G229 hG229 hv229 => (W.nn (WD.a1 6 rfl (W.app (e := eStr) sl49 ty9 zr9 rfl by9 rfl rfl ((ho228.mono hG229)) (hv229) (pmC (pmC (pmC (pmC pr9)))) (by simp only [List.length_append, List.length_drop, List.length_take, List.length_cons, List.length_nil] at *; show (_ + _) * 16 ≤ _; first | omega | (simp; done) | (simp; omega)) (fun v230 Ms231 ho232 => (W.perm (pmC (pmC (pmC (pmC pr9)))).symm (W.nn (WD.a1 11 rfl (W.app (e := eStr) sl49 ty9 zr9 rfl by9 rfl rfl (ho232) ((hs224.mono lec)) (pmC (pmC (pmC (pmC pr9)))) (by simp only [List.length_append, List.length_drop, List.length_take, List.length_cons, List.length_nil] at *; show (_ + _) * 16 ≤ _; first | omega | (simp; done) | (simp; omega)) (fun v233 Ms234 ho235 => (W.perm (pmC (pmC (pmC (pmC pr9)))).symm (W.nn (d9 [12] ?_))))))))))))))))
  refine WD.a1 13 rfl (W.giveO ho235 (pmC (pmC (pmC (pmC pr9)))) (fun G236 hG236 hv236 => ?_))
  have hc237 := SlR.cast hv236 (l' := (n.pivots.take i ++ [k]) ++ n.pivots.drop i) (by simp)
  have q239 := hc237.form
  refine match q239 with | ⟨_, _, e_238⟩ => ?_
  subst e_238
  refine g9 1 ?_
  refine W.nn (g9 3 ?_)
  refine WC.dw (((sr9.k9.k9).k9).cons _) (d9 [0, 1, 2] ?_)
  refine WD.tk 3 rfl (Ok.int (n := ((i + 1 : Nat) : Int)) (ok_add rfl rfl om9) om9) (d9 [5, 8, 9, 10] ?_)
  refine WD.tk 11 rfl (Ok.int (n := ((i + 1 : Nat) : Int)) (ok_add rfl rfl om9) om9) ?_
  have hs240 := SlR.slice (hk_n.mono ((hG225.trans hG229).trans hG236)) (lo := i + 1) (hi := n.kids.length) om9 om9
  refine WD.tk 12 rfl (ok_slice (i + 1) (n.kids.length) sl50 ty3 (hk_n.mono lec) rfl ⟨_, _, rfl, om9⟩ rfl ⟨om9, om9⟩) ?_
  refine WD.any [4, 6] (by kernel_rfl) rfl ⟨WD.ap ?_, WD.ap ?_, trivial⟩
  ·refine W.call (Mp := []) (partO_fc (hk_n.mono lec) 0 _ ⟨om9, om9⟩) rfl pr9 ?_
   rintro v242 G241 Ms243 hG241 ho244
   refine W.perm (pmC (pmC (pmC (pmC pr9)))).symm (W.nn (WD.a1 6 rfl (W.lit (e := eInt) (l := [_]) (css := [[iV _]]) sl50 ty3 zr3 rfl rfl rfl rfl rfl rfl ⟨⟨rfl, om9, om9⟩, trivial⟩ (fun bl245 G245 hG245 hv245 => (W.nn (WD.a1 7 rfl (W.app (e := eInt) sl50 ty3 zr3 rfl by3 rfl rfl ((ho244.mono hG245)) (hv245) (pmC (pmC (pmC (pmC pr9)))) (by simp only [List.length_append, List.length_drop, List.length_take, List.length_cons, List.length_nil] at *; show (_ + _) * 8 ≤ _; first | omega | (simp; done) | (simp; omega)) (fun v246 Ms247 ho248 => (W.perm (pmC (pmC (pmC (pmC pr9)))).symm (W.nn (WD.a1 13 rfl (W.app (e := eInt) sl50 ty3 zr3 rfl by3 rfl rfl (ho248) ((hs240.mono lec)) (pmC (pmC (pmC (pmC pr9)))) (by simp only [List.length_append, List.length_drop, List.length_take, List.length_cons, List.length_nil] at *; show (_ + _) * 8 ≤ _; first | omega | (simp; done) | (simp; omega)) (fun v249 Ms250 ho251 => (W.perm (pmC (pmC (pmC (pmC pr9)))).symm (W.nn (d9 [14] ?_))))))))))))))))
   refine WD.a1 15 rfl (W.giveO ho251 (pmC (pmC (pmC (pmC pr9)))) (fun G252 hG252 hv252 => ?_))
   have hc253 := SlR.cast hv252 (l' := (n.kids.take (i + 1) ++ [nv]) ++ n.kids.drop (i + 1)) (by simp)
   have q255 := hc253.form
   refine match q255 with | ⟨_, _, e_254⟩ => ?_
   subst e_254
   refine g9 1 ?_
   refine W.nn (g9 11 ?_)
   refine ⟨rfl, _, (adoptN_1 p18 om9 (by simpa using h41) (fun e => p47 (congrArg Str.b e))).symm, _, rfl, ?_⟩
   · exact ⟨_, _, _, _, _, _, _, _, rfl, (hc237.mono lec), hc253, (hm_n.mono lec), (hr_n.mono lec), hok_n⟩
  refine W.lit (e := eInt) (l := [_]) (css := [[iV _]]) sl50 ty3 zr3 rfl rfl rfl rfl rfl rfl ⟨⟨rfl, om9, om9⟩, trivial⟩ (fun bl256 G256 hG256 hv256 => (W.nn (WD.a1 4 rfl (W.call (Mp := []) (partO_fc (hk_n.mono lec) 0 _ ⟨om9, om9⟩) rfl pr9 ?_))))
  rintro v258 G257 Ms259 hG257 ho260
  refine W.perm (pmC (pmC (pmC (pmC pr9)))).symm (W.nn (WD.a1 7 rfl (W.app (e := eInt) sl50 ty3 zr3 rfl by3 rfl rfl (ho260) ((hv256.mono hG257)) (pmC (pmC (pmC (pmC pr9)))) (by simp only [List.length_append, List.length_drop, List.length_take, List.length_cons, List.length_nil] at *; show (_ + _) * 8 ≤ _; first | omega | (simp; done) | (simp; omega)) (fun v261 Ms262 ho263 => (W.perm (pmC (pmC (pmC (pmC pr9)))).symm (W.nn (WD.a1 13 rfl (W.app (e := eInt) sl50 ty3 zr3 rfl by3 rfl rfl (ho263) ((hs240.mono lec)) (pmC (pmC (pmC (pmC pr9)))) (by simp only [List.length_append, List.length_drop, List.length_take, List.length_cons, List.length_nil] at *; show (_ + _) * 8 ≤ _; first | omega | (simp; done) | (simp; omega)) (fun v264 Ms265 ho266 => (W.perm (pmC (pmC (pmC (pmC pr9)))).symm (W.nn (d9 [14] ?_))))))))))))
  refine WD.a1 15 rfl (W.giveO ho266 (pmC (pmC (pmC (pmC pr9)))) (fun G267 hG267 hv267 => ?_))
  have hc268 := SlR.cast hv267 (l' := (n.kids.take (i + 1) ++ [nv]) ++ n.kids.drop (i + 1)) (by simp)
  have q270 := hc268.form
  refine match q270 with | ⟨_, _, e_269⟩ => ?_
  subst e_269
  refine g9 1 ?_
  refine W.nn (g9 11 ?_)
  refine ⟨rfl, _, (adoptN_1 p18 om9 (by simpa using h41) (fun e => p47 (congrArg Str.b e))).symm, _, rfl, ?_⟩
  · exact ⟨_, _, _, _, _, _, _, _, rfl, (hc237.mono lec), hc268, (hm_n.mono lec), (hr_n.mono lec), hok_n⟩
 refine W.lit (e := eStr) (l := [_]) (css := [[sV _]]) sl49 ty9 zr9 rfl rfl rfl rfl rfl rfl ⟨rfl, trivial⟩ (fun bl271 G271 hG271 hv271 => (W.nn (WD.a1 3 rfl (W.call (Mp := []) (cutO_fc (hp_n.mono hG271) 0 _ ⟨om9, om9⟩) rfl pr9 ?_))))
 rintro v273 G272 Ms274 hG272 ho275
 refine W.perm (pmC (pmC (pmC (pmC pr9)))).symm (W.nn (WD.a1 6 rfl (W.app (e := eStr) sl49 ty9 zr9 rfl by9 rfl rfl (ho275) ((hv271.mono hG272)) (pmC (pmC (pmC (pmC pr9)))) (by simp only [List.length_append, List.length_drop, List.length_take, List.length_cons, List.length_nil] at *; show (_ + _) * 16 ≤ _; first | omega | (simp; done) | (simp; omega)) (fun v276 Ms277 ho278 => (W.perm (pmC (pmC (pmC (pmC pr9)))).symm (W.nn (WD.a1 11 rfl (W.app (e := eStr) sl49 ty9 zr9 rfl by9 rfl rfl (ho278) ((hs224.mono lec)) (pmC (pmC (pmC (pmC pr9)))) (by simp only [List.length_append, List.length_drop, List.length_take, List.length_cons, List.length_nil] at *; show (_ + _) * 16 ≤ _; first | omega | (simp; done) | (simp; omega)) (fun v279 Ms280 ho281 => (W.perm (pmC (pmC (pmC (pmC pr9)))).symm (W.nn (d9 [12] ?_))))))))))))
 refine WD.a1 13 rfl (W.giveO ho281 (pmC (pmC (pmC (pmC pr9)))) (fun G282 hG282 hv282 => ?_))
 have hc283 := SlR.cast hv282 (l' := (n.pivots.take i ++ [k]) ++ n.pivots.drop i) (by simp)
 have q285 := hc283.form
 refine match q285 with | ⟨_, _, e_284⟩ => ?_
 subst e_284
 refine g9 1 ?_
 refine W.nn (g9 3 ?_)
 refine WC.dw (((sr9.k9.k9).k9).cons _) (d9 [0, 1, 2] ?_)
 refine WD.tk 3 rfl (Ok.int (n := ((i + 1 : Nat) : Int)) (ok_add rfl rfl om9) om9) (d9 [5, 8, 9, 10] ?_)
 refine WD.tk 11 rfl (Ok.int (n := ((i + 1 : Nat) : Int)) (ok_add rfl rfl om9) om9) ?_
 have hs286 := SlR.slice (hk_n.mono ((hG271.trans hG272).trans hG282)) (lo := i + 1) (hi := n.kids.length) om9 om9
 refine WD.tk 12 rfl (ok_slice (i + 1) (n.kids.length) sl50 ty3 (hk_n.mono lec) rfl ⟨_, _, rfl, om9⟩ rfl ⟨om9, om9⟩) ?_
 refine WD.any [4, 6] (by kernel_rfl) rfl ⟨WD.ap ?_, WD.ap ?_, trivial⟩
 ·refine W.call (Mp := []) (partO_fc (hk_n.mono lec) 0 _ ⟨om9, om9⟩) rfl pr9 ?_
  rintro v288 G287 Ms289 hG287 ho290
  refine W.perm (pmC (pmC (pmC (pmC pr9)))).symm (W.nn (WD.a1 6 rfl (W.lit (e := eInt) (l := [_]) (css := [[iV _]]) sl50 ty3 zr3 rfl rfl rfl rfl rfl rfl ⟨⟨rfl, om9, om9⟩, trivial⟩ (fun bl291 G291 hG291 hv291 => (W.nn (WD.a1 7 rfl (W.app (e := eInt) sl50 ty3 zr3 rfl by3 rfl rfl ((ho290.mono hG291)) (hv291) (pmC (pmC (pmC (pmC pr9)))) (by simp only [List.length_append, List.length_drop, List.length_take, List.length_cons, List.length_nil] at *; show (_ + _) * 8 ≤ _; first | omega | (simp; done) | (simp; omega)) (fun v292 Ms293 ho294 => (W.perm (pmC (pmC (pmC (pmC pr9)))).symm (W.nn (WD.a1 13 rfl (W.app (e := eInt) sl50 ty3 zr3 rfl by3 rfl rfl (ho294) ((hs286.mono lec)) (pmC (pmC (pmC (pmC pr9)))) (by simp only [List.length_append, List.length_drop, List.length_take, List.length_cons, List.length_nil] at *; show (_ + _) * 8 ≤ _; first | omega | (simp; done) | (simp; omega)) (fun v295 Ms296 ho297 => (W.perm (pmC (pmC (pmC (pmC pr9)))).symm (W.nn (d9 [14] ?_))))))))))))))))
  refine WD.a1 15 rfl (W.giveO ho297 (pmC (pmC (pmC (pmC pr9)))) (fun G298 hG298 hv298 => ?_))
  have hc299 := SlR.cast hv298 (l' := (n.kids.take (i + 1) ++ [nv]) ++ n.kids.drop (i + 1)) (by simp)
  have q301 := hc299.form
  refine match q301 with | ⟨_, _, e_300⟩ => ?_
  subst e_300
  refine g9 1 ?_
  refine W.nn (g9 11 ?_)
  refine ⟨rfl, _, (adoptN_1 p18 om9 (by simpa using h41) (fun e => p47 (congrArg Str.b e))).symm, _, rfl, ?_⟩
  · exact ⟨_, _, _, _, _, _, _, _, rfl, (hc283.mono lec), hc299, (hm_n.mono lec), (hr_n.mono lec), hok_n⟩
 refine W.lit (e := eInt) (l := [_]) (css := [[iV _]]) sl50 ty3 zr3 rfl rfl rfl rfl rfl rfl ⟨⟨rfl, om9, om9⟩, trivial⟩ (fun bl302 G302 hG302 hv302 => (W.nn (WD.a1 4 rfl (W.call (Mp := []) (partO_fc (hk_n.mono lec) 0 _ ⟨om9, om9⟩) rfl pr9 ?_))))
 rintro v304 G303 Ms305 hG303 ho306
 refine W.perm (pmC (pmC (pmC (pmC pr9)))).symm (W.nn (WD.a1 7 rfl (W.app (e := eInt) sl50 ty3 zr3 rfl by3 rfl rfl (ho306) ((hv302.mono hG303)) (pmC (pmC (pmC (pmC pr9)))) (by simp only [List.length_append, List.length_drop, List.length_take, List.length_cons, List.length_nil] at *; show (_ + _) * 8 ≤ _; first | omega | (simp; done) | (simp; omega)) (fun v307 Ms308 ho309 => (W.perm (pmC (pmC (pmC (pmC pr9)))).symm (W.nn (WD.a1 13 rfl (W.app (e := eInt) sl50 ty3 zr3 rfl by3 rfl rfl (ho309) ((hs286.mono lec)) (pmC (pmC (pmC (pmC pr9)))) (by simp only [List.length_append, List.length_drop, List.length_take, List.length_cons, List.length_nil] at *; show (_ + _) * 8 ≤ _; first | omega | (simp; done) | (simp; omega)) (fun v310 Ms311 ho312 => (W.perm (pmC (pmC (pmC (pmC pr9)))).symm (W.nn (d9 [14] ?_))))))))))))
 refine WD.a1 15 rfl (W.giveO ho312 (pmC (pmC (pmC (pmC pr9)))) (fun G313 hG313 hv313 => ?_))
 have hc314 := SlR.cast hv313 (l' := (n.kids.take (i + 1) ++ [nv]) ++ n.kids.drop (i + 1)) (by simp)
 have q316 := hc314.form
 refine match q316 with | ⟨_, _, e_315⟩ => ?_
 subst e_315
 refine g9 1 ?_
 refine W.nn (g9 11 ?_)
 refine ⟨rfl, _, (adoptN_1 p18 om9 (by simpa using h41) (fun e => p47 (congrArg Str.b e))).symm, _, rfl, ?_⟩
 · exact ⟨_, _, _, _, _, _, _, _, rfl, (hc283.mono lec), hc314, (hm_n.mono lec), (hr_n.mono lec), hok_n⟩

end Go.Proofs.YtfmigmijckdldaaGreat
