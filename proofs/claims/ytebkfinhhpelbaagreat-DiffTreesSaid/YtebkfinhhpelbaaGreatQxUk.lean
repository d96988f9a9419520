/- The walk of all leaves of a sound tree. -/
import Derived.Test.YtebkfinhhpelbaaGreatQxUj
import Derived.Test.YtebkfinhhpelbaaGreatQxV6
import Derived.Test.YtebkfinhhpelbaaGreatQxWg
import Derived.Test.YtebkfinhhpelbaaGreatQxW9
import Derived.Test.YtebkfinhhpelbaaGreatQxW3
import Derived.Test.YtebkfinhhpelbaaGreatQxWh
namespace Go.Proofs.YtebkfinhhpelbaaGreat
open Go Go.Fw Go.RowKit
set_option maxRecDepth 100000
set_option maxHeartbeats 1600000
set_option linter.unusedVariables false
set_option linter.unusedSimpArgs false
set_option linter.unnecessarySimpa false
theorem mk142 : mapIK Tryz.prog 142 = some 4 := by kernel_rfl
theorem mz4 : zvK Tryz.prog 4 = some (.bool false) := by kernel_rfl
theorem absleaf_fc {G : GH} {cs_a : List Value} {c2 : Cfg} {l : List Nd} {ss : List Seat} {x : Seat} (t : Tree c2 l ss) (hx : x ∈ ss) (h_a : NodeC G cs_a x.n) {v_ms : Value} (h_ms : SlR eMsg G v_ms x.ms) {b_o : Nat} {v_out : Value} {out : List Pair} {Ms_out : MH} (h_out : OwnR ePair 69 G v_out out Ms_out) (hol : out.length ≤ 100000000) :
    Fc Tryz.prog 88 [.agg (List.toArray cs_a), .agg #[.string x.s.lo.b, .string x.s.hi.b, .bool x.s.opn, v_ms], .pointer (some ⟨b_o, 0, none⟩)] G ((b_o, .cells (List.toArray [v_out]) 41 (0, 0)) :: (Ms_out)) (fun v G' M' => v = .tuple #[] ∧ ∃ vo' Mo', M' = (b_o, .cells (List.toArray [vo']) 41 (0, 0)) :: Mo' ∧ OwnR ePair 69 G' vo' (out ++ viewS x) Mo') := by
 obtain ⟨pa_a, pc_a, ka_a, kc_a, ma_a, mc_a, ra_a, rc_a, rfl, hp_a, hk_a, hm_a, hr_a, hok_a⟩ := h_a
 obtain ⟨sa_ms, sc_ms, rfl⟩ := h_ms.form
 obtain ⟨sa_out, sc_out, rfl⟩ := h_out.form
 have hft := t.fits x hx
 have hrl := t.rows_len hx
 have hml2 := (t.ms_len x hx).1
 have hvl := t.view_len hx
 refine Fc.intro (rs := []) cl88 Tryz.func88 rfl Tryz.ntmps88 rfl rfl (fun w0 => ?_)
 refine WC.perm (M' := ((b_o, .cells (List.toArray [.slice sa_out out.length sc_out]) 41 (0, 0)) :: (Ms_out ++ []))) (by simp) (WC.seq (WC.region (W.box (L := [.int .i64 _, .int .i64 _, .slice _ _ _, .slice _ _ _, .string _, .bool _, .int .i64 _, .int .i64 _, .slice _ _ _, .slice _ _ _]) rfl rfl (fun b1 => (W.box (L := [.string _, .string _, .bool _, .slice _ _ _]) rfl rfl (fun b2 => (W.nil (thn_n (WC.drawW _ ((((List.nil_sublist _).cons _).cons_cons _).cons_cons _) mix (by rintro _ _ _ _ ⟨h | h, _⟩ <;> cases h) (WD.take 1 rfl rfl rfl (by kernel_rfl) (by kernel_rfl) (by kernel_rfl) (ok_fieldB fd47_9 rfl) ?_))))))))))
 refine WD.take 2 rfl rfl rfl (by kernel_rfl) (by kernel_rfl) (by kernel_rfl) (ok_loadB (i := 1) (vs := [.slice _ _ _]) ty41 rfl rfl rfl rfl (by simp)) (WD.take 3 rfl rfl rfl (by kernel_rfl) (by kernel_rfl) (by kernel_rfl) (ok_fieldB fd137_0 rfl) (WD.take 4 rfl rfl rfl (by kernel_rfl) (by kernel_rfl) (by kernel_rfl) (ok_loadB (i := 0) (vs := [.string _, .string _, .bool _]) ty52 rfl rfl rfl rfl (by simp)) (WD.take 5 rfl rfl rfl (by kernel_rfl) (by kernel_rfl) (by kernel_rfl) (ok_fieldB fd137_1 rfl) (WD.take 6 rfl rfl rfl (by kernel_rfl) (by kernel_rfl) (by kernel_rfl) (ok_loadB (i := 0) (vs := [.slice _ _ _]) ty45 rfl rfl rfl rfl (by simp)) ?_))))
 refine WD.any [0, 7] (by kernel_rfl) rfl ⟨⟨_, rfl, rfl, ?_⟩, ⟨_, rfl, rfl, ?_⟩, trivial⟩
 ·refine W.ok (ok_loadB (i := 2) (vs := [.slice _ _ _]) ty41 rfl rfl rfl rfl (by simp)) (W.nil ⟨Le.rfl, (((List.nil_sublist _).cons _).cons_cons _).cons_cons _, _, (((List.nil_sublist _).cons _).cons_cons _).cons_cons _, List.Sublist.refl _, (WD.any [7] (by kernel_rfl) rfl ⟨⟨_, rfl, rfl, (W.call (Mp := []) (mview_fc hr_a x.s.lo x.s.hi x.s.opn h_ms (t.rows hx) (by omega) (fun m hm => msgR_key (hft.2 m hm)) (by have := hft.1.1; omega)) rfl (List.Perm.refl _) ?_)⟩, trivial⟩)⟩)
  intro _ G3 _ hG3 q5
  refine match q5 with | ⟨e_6, _, e_7, hv4⟩ => ?_
  subst e_6
  subst e_7
  have hc8 := SlR.cast hv4 (l' := viewS x) (rfl)
  have q10 := hc8.form
  refine match q10 with | ⟨sa_hc8, sc_hc8, e_9⟩ => ?_
  subst e_9
  refine W.nil ⟨hG3, (((List.nil_sublist _).cons _).cons_cons _).cons_cons _, _, (((List.nil_sublist _).cons _).cons_cons _).cons_cons _, List.Sublist.refl _, (WD.any [8] (by kernel_rfl) rfl ⟨⟨_, rfl, rfl, (W.app (e := ePair) sl41 ty69 zr69 rfl by69 rfl rfl ((h_out.mono hG3)) (hc8) (pmC (pmC (pmC (List.Perm.refl _)))) (by show (List.length _ + List.length _) * 32 ≤ _; omega) (fun v11 Ms12 ho13 => (W.perm (pmC (pmC (pmC (List.Perm.refl _)))).symm ?_)))⟩, trivial⟩)⟩
  have q17 := ho13.form
  refine match q17 with | ⟨sa14, sc15, e_16⟩ => ?_
  subst e_16
  refine W.nil ⟨Le.rfl, (((List.nil_sublist _).cons _).cons_cons _).cons_cons _, _, (((List.nil_sublist _).cons _).cons_cons _).cons_cons _, List.Sublist.refl _, (WD.any [9] (by kernel_rfl) rfl ⟨⟨_, rfl, rfl, (W.store (i := 2) (vs := [.slice _ _ _]) (L' := [.slice _ _ _]) ty41 rfl rfl rfl rfl rfl rfl rfl rfl (W.nil ⟨Le.rfl, (((List.nil_sublist _).cons _).cons_cons _).cons_cons _, _, (((List.nil_sublist _).cons _).cons_cons _).cons_cons _, List.Sublist.refl _, (WD.done (by kernel_rfl) ?_)⟩))⟩, trivial⟩)⟩
  refine ⟨.inl rfl, [], trivial, ((b_o, .cells (List.toArray [.slice sa14 ((out ++ viewS x)).length sc15]) 41 (0, 0)) :: (Ms12 ++ [])), (((List.Sublist.refl _).cons_cons _).cons _).cons _, ?_⟩
  exact ⟨rfl, _, _, congrArg _ (List.append_nil _), ho13⟩
 ·refine W.call (Mp := []) (mview_fc hr_a x.s.lo x.s.hi x.s.opn h_ms (t.rows hx) (by omega) (fun m hm => msgR_key (hft.2 m hm)) (by have := hft.1.1; omega)) rfl (List.Perm.refl _) ?_
  intro _ G18 _ hG18 q20
  refine match q20 with | ⟨e_21, _, e_22, hv19⟩ => ?_
  subst e_21
  subst e_22
  have hc23 := SlR.cast hv19 (l' := viewS x) (rfl)
  have q25 := hc23.form
  refine match q25 with | ⟨sa_hc23, sc_hc23, e_24⟩ => ?_
  subst e_24
  refine W.nil ⟨hG18, (((List.nil_sublist _).cons _).cons_cons _).cons_cons _, _, (((List.nil_sublist _).cons _).cons_cons _).cons_cons _, List.Sublist.refl _, (WD.any [0] (by kernel_rfl) rfl ⟨⟨_, rfl, rfl, (W.ok (ok_loadB (i := 2) (vs := [.slice _ _ _]) ty41 rfl rfl rfl rfl (by simp)) (W.nil ⟨Le.rfl, (((List.nil_sublist _).cons _).cons_cons _).cons_cons _, _, (((List.nil_sublist _).cons _).cons_cons _).cons_cons _, List.Sublist.refl _, (WD.any [8] (by kernel_rfl) rfl ⟨⟨_, rfl, rfl, (W.app (e := ePair) sl41 ty69 zr69 rfl by69 rfl rfl ((h_out.mono hG18)) (hc23) (pmC (pmC (pmC (List.Perm.refl _)))) (by show (List.length _ + List.length _) * 32 ≤ _; omega) (fun v26 Ms27 ho28 => (W.perm (pmC (pmC (pmC (List.Perm.refl _)))).symm ?_)))⟩, trivial⟩)⟩))⟩, trivial⟩)⟩
  have q32 := ho28.form
  refine match q32 with | ⟨sa29, sc30, e_31⟩ => ?_
  subst e_31
  refine W.nil ⟨Le.rfl, (((List.nil_sublist _).cons _).cons_cons _).cons_cons _, _, (((List.nil_sublist _).cons _).cons_cons _).cons_cons _, List.Sublist.refl _, (WD.any [9] (by kernel_rfl) rfl ⟨⟨_, rfl, rfl, (W.store (i := 2) (vs := [.slice _ _ _]) (L' := [.slice _ _ _]) ty41 rfl rfl rfl rfl rfl rfl rfl rfl (W.nil ⟨Le.rfl, (((List.nil_sublist _).cons _).cons_cons _).cons_cons _, _, (((List.nil_sublist _).cons _).cons_cons _).cons_cons _, List.Sublist.refl _, (WD.done (by kernel_rfl) ?_)⟩))⟩, trivial⟩)⟩
  refine ⟨.inl rfl, [], trivial, ((b_o, .cells (List.toArray [.slice sa29 ((out ++ viewS x)).length sc30]) 41 (0, 0)) :: (Ms27 ++ [])), (((List.Sublist.refl _).cons_cons _).cons _).cons _, ?_⟩
  exact ⟨rfl, _, _, congrArg _ (List.append_nil _), ho28⟩

def AbsW (l : List Nd) (ss : List Seat) (n : Nat) : Prop := ∀ {G : GH} {bk bo : Nat} {m : List (Int × Nd)} {mt : List (Int × Bool)} {out : List Pair} {Ms_k : MH} (h_k : WkR 88 146 41 69 bk bo m G (mt, out) Ms_k) {x : Seat} (hx : x ∈ ss) (hn : x.n.level.toNat = n) (hm : ∀ y ∈ ss, getM m y.n.slot = some y.n) (hf : Free l n x mt) (hol : out.length + (viewsF l n x).length ≤ 100000000) {v_ms : Value} (h_ms : SlR eMsg G v_ms x.ms), Fc Tryz.prog 90 [.pointer (some ⟨bk, 0, none⟩), .int .i64 x.n.slot, .agg #[.string x.s.lo.b, .string x.s.hi.b, .bool x.s.opn, v_ms]] G Ms_k (fun v G' M' => v = .tuple #[] ∧ ∃ mt', Same9 l n x mt mt' ∧ WkR 88 146 41 69 bk bo m G' (mt', out ++ viewsF l n x) M')
theorem absw_step {G : GH} {bk bo : Nat} {m : List (Int × Nd)} {mt : List (Int × Bool)} {out : List Pair} {Ms_k : MH} (h_k : WkR 88 146 41 69 bk bo m G (mt, out) Ms_k) {c2 : Cfg} {l : List Nd} {ss : List Seat} (t : Tree c2 l ss) {x : Seat} {n : Nat} (hx : x ∈ ss) (hn : x.n.level.toNat = n) (hm : ∀ y ∈ ss, getM m y.n.slot = some y.n) (hf : Free l n x mt) (hol : out.length + (viewsF l n x).length ≤ 100000000) (ih : ∀ q, q + 1 = n → AbsW l ss q)  {v_ms : Value} (h_ms : SlR eMsg G v_ms x.ms) :
    Fc Tryz.prog 90 [.pointer (some ⟨bk, 0, none⟩), .int .i64 x.n.slot, .agg #[.string x.s.lo.b, .string x.s.hi.b, .bool x.s.opn, v_ms]] G Ms_k (fun v G' M' => v = .tuple #[] ∧ ∃ mt', Same9 l n x mt mt' ∧ WkR 88 146 41 69 bk bo m G' (mt', out ++ viewsF l n x) M') := by
 obtain ⟨sa_ms, sc_ms, rfl⟩ := h_ms.form
 refine Fc.intro (rs := []) cl90 Tryz.func90 rfl Tryz.ntmps90 rfl rfl (fun w0 => ?_)
 refine WC.perm (M' := (Ms_k ++ [])) (by simp) (WC.seq (WC.region (W.box (L := [.string _, .string _, .bool _, .slice _ _ _]) rfl rfl (fun b33 => (W.nil (thn_n (WC.seq ?_)))))))
 obtain ⟨vat, bm, vo, Mm, Mo, eM, hat, hmt, ho⟩ := h_k
 subst eM
 obtain ⟨ba, rfl⟩ := hat.form
 obtain ⟨sa_o, sc_o, rfl⟩ := ho.form
 dsimp only at hmt ho
 refine WC.perm (M' := ((b33, .cells (List.toArray [.string (x.s).lo.b, .string (x.s).hi.b, .bool (x.s).opn, .slice sa_ms x.ms.length sc_ms]) 137 (0, 0)) :: ((bk, .cells (List.toArray [.map (some ba), .map (some bm), .func (.func 88) #[] #[.pointer (some ⟨bo, 0, none⟩)]]) 146 (0, 0)) :: ((bo, .cells (List.toArray [.slice sa_o out.length sc_o]) 41 (0, 0)) :: (Mm ++ (Mo ++ [])))))) (by simp) (WC.region (W.mv (W.ok (ok_nilP rfl) (W.ok (ok_fieldB fd146_0 rfl) (W.ok (ok_loadB (i := 1) (vs := [.map _]) ty125 rfl rfl rfl rfl (by simp)) (W.mv (W.lookG (V := vNode) mk125 mz47 ⟨_, rfl, ⟨_, _, _, _, _, _, _, _, rfl, SlR.nil, SlR.nil, SlR.nil, SlR.nil, Nd.zero_ok⟩⟩ hat rfl rfl (fun v34 hv35 => ?_))))))))
 have hin := hm x hx
 rw [hin] at hv35
 replace hv35 : vNode.R _ _ x.n := hv35
 refine match hv35 with | ⟨_, e_37, ⟨pa_mn36, pc_mn36, ka_mn36, kc_mn36, ma_mn36, mc_mn36, ra_mn36, rc_mn36, e_38, hp_mn36, hk_mn36, hm_mn36, hr_mn36, hok_mn36⟩⟩ => ?_
 subst e_37
 subst e_38
 refine W.mv (W.ok (ok_extract rfl rfl) (W.ok (ok_extract rfl rfl) (W.alloc zr47 (fun b39 => (W.store (i := 0) (vs := [.int .i64 _, .int .i64 _, .slice _ _ _, .slice _ _ _, .string _, .bool _, .int .i64 _, .int .i64 _, .slice _ _ _, .slice _ _ _]) (L' := [.int .i64 _, .int .i64 _, .slice _ _ _, .slice _ _ _, .string _, .bool _, .int .i64 _, .int .i64 _, .slice _ _ _, .slice _ _ _]) ty47 rfl rfl rfl rfl rfl rfl rfl rfl (W.as (W.nil (thn_n (WC.seq ?_)))))))))
 refine WC.seq (WC.region (W.mv (W.ok (ok_not rfl) (W.mv (W.yes (dj := 23) rfl rfl (congrArg not (show (getM m x.n.slot).isSome = true from congrArg Option.isSome hin)) (W.mv (W.yes (dj := 23) rfl rfl (congrArg not (show (getM m x.n.slot).isSome = true from congrArg Option.isSome hin)) ?_)))))))
 refine W.ok (ok_nilP rfl) (W.yes (dj := 23) rfl rfl (congrArg not (show (getM m x.n.slot).isSome = true from congrArg Option.isSome hin)) (W.ok (ok_fieldB fd146_1 rfl) (W.yes (dj := 23) rfl rfl (congrArg not (show (getM m x.n.slot).isSome = true from congrArg Option.isSome hin)) (W.ok (ok_loadB (i := 2) (vs := [.map _]) ty142 rfl rfl rfl rfl (by simp)) (W.yes (dj := 23) rfl rfl (congrArg not (show (getM m x.n.slot).isSome = true from congrArg Option.isSome hin)) (W.mv (W.yes (dj := 23) rfl rfl (congrArg not (show (getM m x.n.slot).isSome = true from congrArg Option.isSome hin)) ?_)))))))
 refine W.lookO (V := vBool) mk142 mz4 rfl rfl rfl hmt (pmC (pmC (pmC (pmC (List.Perm.refl _))))) (fun v40 hv41 => ?_)
 rw [hf.self] at hv41
 have ehv41 := hv41
 subst ehv41
 refine W.ok (ok_pick_f rfl (congrArg not (show (getM m x.n.slot).isSome = true from congrArg Option.isSome hin))) (W.nil (thn_n (WC.cond_f rfl rfl (WC.skip (thn_n (WC.seq (WC.region (W.mv (W.ok (ok_nilP rfl) ?_)))))))))
 refine W.ok (ok_fieldB fd146_1 rfl) (W.ok (ok_loadB (i := 2) (vs := [.map _]) ty142 rfl rfl rfl rfl (by simp)) (W.mv (W.mapUp (V := vBool) (k := x.n.slot) mk142 rfl rfl rfl hmt (pmC (pmC (pmC (pmC (List.Perm.refl _))))) rfl (fun Ms42 hm43 => (W.perm (pmC (pmC (pmC (pmC (List.Perm.refl _))))).symm (W.nil (thn_n (WC.seq (WC.seq ?_)))))))))
 refine WC.region (W.ok (ok_fieldB fd47_1 rfl) (W.ok (ok_loadB (i := 0) (vs := [.int .i64 _]) ty3 rfl rfl rfl rfl (by simp)) (W.ok (ok_eql rfl rfl) (W.nil (thn_n ?_)))))
 refine WC.cond (b := _) rfl (fun h38 => ?_) (fun h38 => ?_)
 ·have p38 := of_decide_eq_true h38
  try dsimp only at p38
  have hn0 : n = 0 := by omega
  subst hn0
  rw [views_0] at hol
  refine WC.seq (WC.drawW _ (((((List.nil_sublist _).cons _).cons_cons _).cons_cons _).cons_cons _) mix (by rintro _ _ _ _ ⟨h | h, _⟩ <;> cases h) (WD.take 0 rfl rfl rfl (by kernel_rfl) (by kernel_rfl) (by kernel_rfl) (ok_mv) (WD.take 1 rfl rfl rfl (by kernel_rfl) (by kernel_rfl) (by kernel_rfl) (ok_nilP rfl) (WD.take 2 rfl rfl rfl (by kernel_rfl) (by kernel_rfl) (by kernel_rfl) (ok_fieldB fd146_2 rfl) (WD.take 3 rfl rfl rfl (by kernel_rfl) (by kernel_rfl) (by kernel_rfl) (ok_loadB (i := 2) (vs := [_]) ty144 rfl rfl rfl rfl (by simp)) (WD.take 4 rfl rfl rfl (by kernel_rfl) (by kernel_rfl) (by kernel_rfl) (ok_loadB (i := 0) (vs := [.int .i64 _, .int .i64 _, .slice _ _ _, .slice _ _ _, .string _, .bool _, .int .i64 _, .int .i64 _, .slice _ _ _, .slice _ _ _]) ty47 rfl rfl rfl rfl (by simp)) (WD.take 5 rfl rfl rfl (by kernel_rfl) (by kernel_rfl) (by kernel_rfl) (ok_loadB (i := 1) (vs := [.string _, .string _, .bool _, .slice _ _ _]) ty137 rfl rfl rfl rfl (by simp)) ?_)))))))
  refine WD.any [6] (by kernel_rfl) rfl ⟨⟨_, rfl, rfl, (W.callV (fst := []) (caps := [.pointer (some ⟨bo, 0, none⟩)]) (Mp := ((bo, .cells (List.toArray [.slice sa_o out.length sc_o]) 41 (0, 0)) :: Mo)) (Mr := ((b39, .cells (List.toArray [.int .i64 x.n.slot, .int .i64 x.n.level, .slice pa_mn36 (x.n.pivots).length pc_mn36, .slice ka_mn36 (x.n.kids).length kc_mn36, .string x.n.high.b, .bool x.n.top, .int .i64 x.n.right, .int .i64 x.n.seen, .slice ma_mn36 (x.n.msgs).length mc_mn36, .slice ra_mn36 (x.n.rows).length rc_mn36]) 47 (0, 0)) :: ((b33, .cells (List.toArray [.string (x.s).lo.b, .string (x.s).hi.b, .bool (x.s).opn, .slice sa_ms x.ms.length sc_ms]) 137 (0, 0)) :: ((bk, .cells (List.toArray [.map (some ba), .map (some bm), .func (.func 88) #[] #[.pointer (some ⟨bo, 0, none⟩)]]) 146 (0, 0)) :: (Ms42 ++ []))))) rfl (absleaf_fc t hx ⟨_, _, _, _, _, _, _, _, rfl, hp_mn36, hk_mn36, hm_mn36, hr_mn36, hok_mn36⟩ h_ms ho (by omega)) rfl (((pmC (pmC (pmC (pmA (List.Perm.refl _))))).cons _).trans ((List.Perm.swap _ _ _).trans (((List.Perm.swap _ _ _).trans (((List.Perm.swap _ _ _).trans ((List.Perm.refl _).cons _)).cons _)).cons _))) ?_)⟩, trivial⟩
  intro v45 G46 Ms47 hG46 q44
  refine match q44 with | ⟨e_49, vo9, Mo9, e_50, ho48⟩ => ?_
  subst e_49
  subst e_50
  have q52 := ho48.form
  refine match q52 with | ⟨sa9, sc9, e_51⟩ => ?_
  subst e_51
  refine W.perm (M' := ((bo, .cells (List.toArray [.slice sa9 (out ++ viewS x).length sc9]) 41 (0, 0)) :: ((b39, .cells (List.toArray [.int .i64 x.n.slot, .int .i64 x.n.level, .slice pa_mn36 (x.n.pivots).length pc_mn36, .slice ka_mn36 (x.n.kids).length kc_mn36, .string x.n.high.b, .bool x.n.top, .int .i64 x.n.right, .int .i64 x.n.seen, .slice ma_mn36 (x.n.msgs).length mc_mn36, .slice ra_mn36 (x.n.rows).length rc_mn36]) 47 (0, 0)) :: ((b33, .cells (List.toArray [.string (x.s).lo.b, .string (x.s).hi.b, .bool (x.s).opn, .slice sa_ms x.ms.length sc_ms]) 137 (0, 0)) :: ((bk, .cells (List.toArray [.map (some ba), .map (some bm), .func (.func 88) #[] #[.pointer (some ⟨bo, 0, none⟩)]]) 146 (0, 0)) :: (Mo9 ++ (Ms42 ++ []))))))) (((pmC (pmC (pmC (List.Perm.refl _)))).cons _).trans (List.Perm.refl _)).symm (W.nil ⟨hG46, ((((List.nil_sublist _).cons_cons _).cons_cons _).cons_cons _).cons _, _, ((((List.nil_sublist _).cons_cons _).cons_cons _).cons_cons _).cons _, List.Sublist.refl _, (WD.done (by kernel_rfl) (thn_n (WC.perm (M' := ((bk, .cells (List.toArray [.map (some ba), .map (some bm), .func (.func 88) #[] #[.pointer (some ⟨bo, 0, none⟩)]]) 146 (0, 0)) :: ((bo, .cells (List.toArray [.slice sa9 (out ++ viewS x).length sc9]) 41 (0, 0)) :: (Ms42 ++ Mo9))) ++ ((b39, .cells (List.toArray [.int .i64 x.n.slot, .int .i64 x.n.level, .slice pa_mn36 (x.n.pivots).length pc_mn36, .slice ka_mn36 (x.n.kids).length kc_mn36, .string x.n.high.b, .bool x.n.top, .int .i64 x.n.right, .int .i64 x.n.seen, .slice ma_mn36 (x.n.msgs).length mc_mn36, .slice ra_mn36 (x.n.rows).length rc_mn36]) 47 (0, 0)) :: ((b33, .cells (List.toArray [.string (x.s).lo.b, .string (x.s).hi.b, .bool (x.s).opn, .slice sa_ms x.ms.length sc_ms]) 137 (0, 0)) :: []))) (((((pmC (pmC ((pmF (List.Perm.refl _)).trans (pmA (List.Perm.refl _))))).cons _).trans (List.Perm.refl _)).cons _).trans ((List.Perm.swap _ _ _).trans (((List.Perm.swap _ _ _).trans (((List.Perm.swap _ _ _).trans ((List.Perm.refl _).cons _)).cons _)).cons _))) (WC.ret (thn_r ?_)))))⟩)
  refine ⟨.inr rfl, [], trivial, ((bk, .cells (List.toArray [.map (some ba), .map (some bm), .func (.func 88) #[] #[.pointer (some ⟨bo, 0, none⟩)]]) 146 (0, 0)) :: ((bo, .cells (List.toArray [.slice sa9 (out ++ viewS x).length sc9]) 41 (0, 0)) :: (Ms42 ++ Mo9))), List.sublist_append_left _ _, ?_⟩
  exact ⟨rfl, _, same9_leaf, WkR.cast ⟨_, _, _, _, _, rfl, (hat.mono hG46), (MpR.mono hG46 hm43), ho48⟩ (by rw [views_0])⟩
 ·have p38 := of_decide_eq_false h38
  try dsimp only at p38
  have hl9 := t.lvl hx
  obtain ⟨q, rfl⟩ : ∃ q, n = q + 1 := ⟨n - 1, by omega⟩
  have hkd := t.kidsD_at hx p38
  have hnk : x.n.kids.length ≤ 4000 := (t.sml.at (.inr (t.nd hx).2.2)).1
  have hk1 : ∀ m ∈ x.n.msgs, m.key.b.size < 140737488355328 := fun m hm => by have := (msgR_key ((t.msgs hx).2.1 m hm)).1; omega
  have hk2 : ∀ m ∈ x.ms, m.key.b.size < 140737488355328 := fun m hm => by have := (msgR_key ((t.fits x hx).2 m hm)).1; omega
  have hms1 := t.msgs_len hx
  have hms2 := (t.ms_len x hx).1
  refine WC.skip (thn_n (WC.seq ?_))
  have hR53 : WkR 88 146 41 69 bk bo m G ((putM mt (x.n.slot) true), out) ((bk, .cells (List.toArray [.map (some ba), .map (some bm), .func (.func 88) #[] #[.pointer (some ⟨bo, 0, none⟩)]]) 146 (0, 0)) :: ((bo, .cells (List.toArray [.slice sa_o out.length sc_o]) 41 (0, 0)) :: (Ms42 ++ Mo))) := ⟨_, _, _, _, _, rfl, hat, hm43, ho⟩
  refine WC.perm (M' := ((b39, .cells (List.toArray [.int .i64 x.n.slot, .int .i64 x.n.level, .slice pa_mn36 (x.n.pivots).length pc_mn36, .slice ka_mn36 (x.n.kids).length kc_mn36, .string x.n.high.b, .bool x.n.top, .int .i64 x.n.right, .int .i64 x.n.seen, .slice ma_mn36 (x.n.msgs).length mc_mn36, .slice ra_mn36 (x.n.rows).length rc_mn36]) 47 (0, 0)) :: ((b33, .cells (List.toArray [.string (x.s).lo.b, .string (x.s).hi.b, .bool (x.s).opn, .slice sa_ms x.ms.length sc_ms]) 137 (0, 0)) :: (((bk, .cells (List.toArray [.map (some ba), .map (some bm), .func (.func 88) #[] #[.pointer (some ⟨bo, 0, none⟩)]]) 146 (0, 0)) :: ((bo, .cells (List.toArray [.slice sa_o out.length sc_o]) 41 (0, 0)) :: (Ms42 ++ Mo))) ++ [])))) ((pmC (pmC (List.Perm.refl _))).symm.trans (((((pmC (pmC ((pmF (List.Perm.refl _)).trans (List.Perm.refl _)))).cons _).trans ((List.Perm.swap _ _ _).trans (((List.Perm.swap _ _ _).trans ((List.Perm.refl _).cons _)).cons _))).cons _).trans ((List.Perm.swap _ _ _).trans (((List.Perm.swap _ _ _).trans ((List.Perm.refl _).cons _)).cons _)))) (WC.region (W.ok (ok_fieldB fd47_3 rfl) (W.ok (ok_loadB (i := 0) (vs := [.slice _ _ _]) ty44 rfl rfl rfl rfl (by simp)) (W.ok (ok_len sl44 hk_mn36 rfl) (W.mv (W.nil (thn_n (WC.block ?_))))))))
  refine WC.loop (X := (Nat × List (Int × Bool)) × MH) (fun y => [(49, .int .i64 ((y.1.1 : Nat) : Int)), (5, .pointer (some ⟨b33, 0, none⟩)), (6, .pointer (some ⟨b39, 0, none⟩)), (47, .slice ka_mn36 (x.n.kids).length kc_mn36), (48, .int .i64 (((x.n.kids).length : Nat) : Int)), (0, .pointer (some ⟨bk, 0, none⟩))]) (fun y G Ml => Ml = ((b39, .cells (List.toArray [.int .i64 x.n.slot, .int .i64 x.n.level, .slice pa_mn36 (x.n.pivots).length pc_mn36, .slice ka_mn36 (x.n.kids).length kc_mn36, .string x.n.high.b, .bool x.n.top, .int .i64 x.n.right, .int .i64 x.n.seen, .slice ma_mn36 (x.n.msgs).length mc_mn36, .slice ra_mn36 (x.n.rows).length rc_mn36]) 47 (0, 0)) :: ((b33, .cells (List.toArray [.string (x.s).lo.b, .string (x.s).hi.b, .bool (x.s).opn, .slice sa_ms x.ms.length sc_ms]) 137 (0, 0)) :: (y.2 ++ []))) ∧ WkR 88 146 41 69 bk bo m G ((y.1.2, out ++ viewsK l q x y.1.1)) y.2 ∧ y.1.1 ≤ x.n.kids.length ∧ SameK l q x y.1.1 mt y.1.2 ∧ FreeK l q x y.1.1 y.1.2) (fun y => x.n.kids.length - y.1.1) (((0, putM mt x.n.slot true) : Nat × List (Int × Bool)), ((bk, .cells (List.toArray [.map (some ba), .map (some bm), .func (.func 88) #[] #[.pointer (some ⟨bo, 0, none⟩)]]) 146 (0, 0)) :: ((bo, .cells (List.toArray [.slice sa_o out.length sc_o]) 41 (0, 0)) :: (Ms42 ++ Mo)))) ⟨eqv, eqv, eqv, eqv, eqv, eqv, trivial⟩ ?_ ?_
  ·exact ⟨rfl, (by exact WkR.cast hR53 (by simp [viewsK])), Nat.zero_le _, SameK.zero, hf.kids⟩
  ·rintro ⟨⟨j, mt2⟩, M_0⟩ gG54 G54 _ hG54 ⟨rfl, ho_0, hj, hsk, hfk⟩
   try dsimp only at ho_0 hj hsk hfk
   refine WC.fr (f := setL gG54 [(49, .int .i64 ((j : Nat) : Int)), (5, .pointer (some ⟨b33, 0, none⟩)), (6, .pointer (some ⟨b39, 0, none⟩)), (47, .slice ka_mn36 (x.n.kids).length kc_mn36), (48, .int .i64 (((x.n.kids).length : Nat) : Int)), (0, .pointer (some ⟨bk, 0, none⟩))]) rfl (WC.seq (WC.region (W.ok (ok_lss rfl rfl) (W.nil (thn_n (WC.seq ?_))))))
   refine WC.cond (b := _) rfl (fun h50 => ?_) (fun h50 => ?_)
   ·have p50 := of_decide_eq_true h50
    try dsimp only at p50
    refine WC.skip (thn_n (WC.seq (WC.block (WC.seq (WC.region (W.mv ?_))))))
    have q58 := (hk_mn36.mono hG54).at (i := j) (by omega)
    refine match q58 with | ⟨_, he55, ⟨e_57, hi56⟩⟩ => ?_
    subst e_57
    refine W.ok (ok_indexAddr (i := j) sl44 ty3 (hk_mn36.mono hG54) rfl rfl ⟨by omega, by omega⟩) (W.ok (ok_loadE (vs := [.int .i64 _]) ty3 he55 rfl rfl rfl (by simp)) (W.as (W.as (W.nil (thn_n ?_)))))
    refine WC.join (X := (Unit) × Nat) (fun u10 => [(0, .pointer (some ⟨bk, 0, none⟩)), (9, .int .i64 (x.n.kids[j]'(by omega))), (5, .pointer (some ⟨b33, 0, none⟩)), (6, .pointer (some ⟨b39, 0, none⟩)), (47, .slice ka_mn36 (x.n.kids).length kc_mn36), (48, .int .i64 (((x.n.kids).length : Nat) : Int)), (49, .int .i64 ((j : Nat) : Int)), (10, .pointer (some ⟨u10.2, 0, none⟩))]) (fun u10 G Ml => Ml = ((u10.2, .cells (List.toArray [.string ((x.s.meet (rangeN x.n.pivots (j : Int)))).lo.b, .string ((x.s.meet (rangeN x.n.pivots (j : Int)))).hi.b, .bool ((x.s.meet (rangeN x.n.pivots (j : Int)))).opn]) 52 (0, 0)) :: ((b39, .cells (List.toArray [.int .i64 x.n.slot, .int .i64 x.n.level, .slice pa_mn36 (x.n.pivots).length pc_mn36, .slice ka_mn36 (x.n.kids).length kc_mn36, .string x.n.high.b, .bool x.n.top, .int .i64 x.n.right, .int .i64 x.n.seen, .slice ma_mn36 (x.n.msgs).length mc_mn36, .slice ra_mn36 (x.n.rows).length rc_mn36]) 47 (0, 0)) :: ((b33, .cells (List.toArray [.string (x.s).lo.b, .string (x.s).hi.b, .bool (x.s).opn, .slice sa_ms x.ms.length sc_ms]) 137 (0, 0)) :: (M_0 ++ []))))) ?_ ?_
    ·refine WC.drawW _ (((List.Sublist.refl _).cons_cons _).cons_cons _) mix (by rintro _ _ _ _ ⟨h | h, _⟩ <;> cases h) (WD.take 0 rfl rfl rfl (by kernel_rfl) (by kernel_rfl) (by kernel_rfl) (ok_fieldB fd137_0 rfl) (WD.take 1 rfl rfl rfl (by kernel_rfl) (by kernel_rfl) (by kernel_rfl) (ok_loadB (i := 1) (vs := [.string _, .string _, .bool _]) ty52 rfl rfl rfl rfl (by simp)) (WD.take 2 rfl rfl rfl (by kernel_rfl) (by kernel_rfl) (by kernel_rfl) (ok_fieldB fd47_2 rfl) (WD.take 3 rfl rfl rfl (by kernel_rfl) (by kernel_rfl) (by kernel_rfl) (ok_loadB (i := 0) (vs := [.slice _ _ _]) ty43 rfl rfl rfl rfl (by simp)) (WD.take 4 rfl rfl rfl (by kernel_rfl) (by kernel_rfl) (by kernel_rfl) (ok_mv) ?_)))))
     refine WD.any [5, 7] (by kernel_rfl) rfl ⟨⟨_, rfl, rfl, ?_⟩, ⟨_, rfl, rfl, ?_⟩, trivial⟩
     ·refine W.qcall (brange_fc (hp_mn36.mono hG54) _ ⟨by omega, by omega⟩) rfl (W.nil ⟨Le.rfl, ((List.Sublist.refl _).cons_cons _).cons_cons _, _, ((List.Sublist.refl _).cons_cons _).cons_cons _, List.Sublist.refl _, ?_⟩)
      refine WD.any [6, 7] (by kernel_rfl) rfl ⟨⟨_, rfl, rfl, ?_⟩, ⟨_, rfl, rfl, ?_⟩, trivial⟩
      ·refine W.qcall (smeet_fc _ _ _ _ _ _) rfl (W.nil ⟨Le.rfl, ((List.Sublist.refl _).cons_cons _).cons_cons _, _, ((List.Sublist.refl _).cons_cons _).cons_cons _, List.Sublist.refl _, (WD.any [7] (by kernel_rfl) rfl ⟨⟨_, rfl, rfl, (W.alloc zr52 (fun b59 => (W.nil ⟨Le.rfl, (((List.Sublist.refl _).cons_cons _).cons_cons _).cons _, _, (((List.Sublist.refl _).cons_cons _).cons_cons _).cons _, List.Sublist.refl _, (WD.any [8] (by kernel_rfl) rfl ⟨⟨_, rfl, rfl, (W.store (i := 0) (vs := [.string _, .string _, .bool _]) (L' := [.string _, .string _, .bool _]) ty52 rfl rfl rfl rfl rfl rfl rfl rfl (W.nil ⟨Le.rfl, (((List.Sublist.refl _).cons_cons _).cons_cons _).cons _, _, (((List.Sublist.refl _).cons_cons _).cons_cons _).cons _, List.Sublist.refl _, ?_⟩))⟩, trivial⟩)⟩)))⟩, trivial⟩)⟩)
       refine WD.done (by kernel_rfl) (thn_n ?_)
       exact ⟨Le.rfl, ((), b59), ⟨eqv, eqv, eqv, eqv, eqv, eqv, eqv, eqv, trivial⟩, rfl⟩
      ·refine W.alloc zr52 (fun b60 => (W.nil ⟨Le.rfl, (((List.Sublist.refl _).cons_cons _).cons_cons _).cons _, _, (((List.Sublist.refl _).cons_cons _).cons_cons _).cons _, List.Sublist.refl _, (WD.any [6] (by kernel_rfl) rfl ⟨⟨_, rfl, rfl, (W.qcall (smeet_fc _ _ _ _ _ _) rfl (W.nil ⟨Le.rfl, (((List.Sublist.refl _).cons_cons _).cons_cons _).cons _, _, (((List.Sublist.refl _).cons_cons _).cons_cons _).cons _, List.Sublist.refl _, (WD.any [8] (by kernel_rfl) rfl ⟨⟨_, rfl, rfl, (W.store (i := 0) (vs := [.string _, .string _, .bool _]) (L' := [.string _, .string _, .bool _]) ty52 rfl rfl rfl rfl rfl rfl rfl rfl (W.nil ⟨Le.rfl, (((List.Sublist.refl _).cons_cons _).cons_cons _).cons _, _, (((List.Sublist.refl _).cons_cons _).cons_cons _).cons _, List.Sublist.refl _, ?_⟩))⟩, trivial⟩)⟩))⟩, trivial⟩)⟩))
       refine WD.done (by kernel_rfl) (thn_n ?_)
       exact ⟨Le.rfl, ((), b60), ⟨eqv, eqv, eqv, eqv, eqv, eqv, eqv, eqv, trivial⟩, rfl⟩
     ·refine W.alloc zr52 (fun b61 => (W.nil ⟨Le.rfl, (((List.Sublist.refl _).cons_cons _).cons_cons _).cons _, _, (((List.Sublist.refl _).cons_cons _).cons_cons _).cons _, List.Sublist.refl _, (WD.any [5] (by kernel_rfl) rfl ⟨⟨_, rfl, rfl, (W.qcall (brange_fc (hp_mn36.mono hG54) _ ⟨by omega, by omega⟩) rfl (W.nil ⟨Le.rfl, (((List.Sublist.refl _).cons_cons _).cons_cons _).cons _, _, (((List.Sublist.refl _).cons_cons _).cons_cons _).cons _, List.Sublist.refl _, (WD.any [6] (by kernel_rfl) rfl ⟨⟨_, rfl, rfl, (W.qcall (smeet_fc _ _ _ _ _ _) rfl (W.nil ⟨Le.rfl, (((List.Sublist.refl _).cons_cons _).cons_cons _).cons _, _, (((List.Sublist.refl _).cons_cons _).cons_cons _).cons _, List.Sublist.refl _, ?_⟩))⟩, trivial⟩)⟩))⟩, trivial⟩)⟩))
      refine WD.any [8] (by kernel_rfl) rfl ⟨⟨_, rfl, rfl, (W.store (i := 0) (vs := [.string _, .string _, .bool _]) (L' := [.string _, .string _, .bool _]) ty52 rfl rfl rfl rfl rfl rfl rfl rfl (W.nil ⟨Le.rfl, (((List.Sublist.refl _).cons_cons _).cons_cons _).cons _, _, (((List.Sublist.refl _).cons_cons _).cons_cons _).cons _, List.Sublist.refl _, (WD.done (by kernel_rfl) (thn_n ?_))⟩))⟩, trivial⟩
      exact ⟨Le.rfl, ((), b61), ⟨eqv, eqv, eqv, eqv, eqv, eqv, eqv, eqv, trivial⟩, rfl⟩
    ·rintro ⟨u10, B_10⟩ gG62 G62 _ hG62 rfl
     refine WC.fr (f := setL gG62 [(0, .pointer (some ⟨bk, 0, none⟩)), (9, .int .i64 (x.n.kids[j]'(by omega))), (5, .pointer (some ⟨b33, 0, none⟩)), (6, .pointer (some ⟨b39, 0, none⟩)), (47, .slice ka_mn36 (x.n.kids).length kc_mn36), (48, .int .i64 (((x.n.kids).length : Nat) : Int)), (49, .int .i64 ((j : Nat) : Int)), (10, .pointer (some ⟨B_10, 0, none⟩))]) rfl (WC.seq (WC.drawW _ ((((List.nil_sublist _).cons_cons _).cons_cons _).cons_cons _) mix (by rintro _ _ _ _ ⟨h | h, _⟩ <;> cases h) (WD.take 0 rfl rfl rfl (by kernel_rfl) (by kernel_rfl) (by kernel_rfl) (ok_fieldB fd47_8 rfl) (WD.take 1 rfl rfl rfl (by kernel_rfl) (by kernel_rfl) (by kernel_rfl) (ok_loadB (i := 1) (vs := [.slice _ _ _]) ty45 rfl rfl rfl rfl (by simp)) (WD.take 2 rfl rfl rfl (by kernel_rfl) (by kernel_rfl) (by kernel_rfl) (ok_loadB (i := 0) (vs := [.string _, .string _, .bool _]) ty52 rfl rfl rfl rfl (by simp)) (WD.take 4 rfl rfl rfl (by kernel_rfl) (by kernel_rfl) (by kernel_rfl) (ok_fieldB fd137_1 rfl) (WD.take 5 rfl rfl rfl (by kernel_rfl) (by kernel_rfl) (by kernel_rfl) (ok_loadB (i := 2) (vs := [.slice _ _ _]) ty45 rfl rfl rfl rfl (by simp)) ?_)))))))
     refine WD.take 6 rfl rfl rfl (by kernel_rfl) (by kernel_rfl) (by kernel_rfl) (ok_loadB (i := 0) (vs := [.string _, .string _, .bool _]) ty52 rfl rfl rfl rfl (by simp)) (WD.any [3] (by kernel_rfl) rfl ⟨⟨_, rfl, rfl, (W.call (Mp := []) (bclips_fc (hm_mn36.mono (hG54.trans hG62)) _ _ _ hk1) rfl (List.Perm.refl _) ?_)⟩, trivial⟩)
     intro _ G63 _ hG63 q65
     refine match q65 with | ⟨e_66, _, e_67, hv64⟩ => ?_
     subst e_66
     subst e_67
     have q69 := hv64.form
     refine match q69 with | ⟨sa_hv64, sc_hv64, e_68⟩ => ?_
     subst e_68
     refine W.nil ⟨hG63, (((List.nil_sublist _).cons_cons _).cons_cons _).cons_cons _, _, (((List.nil_sublist _).cons_cons _).cons_cons _).cons_cons _, List.Sublist.refl _, (WD.any [7] (by kernel_rfl) rfl ⟨⟨_, rfl, rfl, (W.call (Mp := []) (bclips_fc (h_ms.mono ((hG54.trans hG62).trans hG63)) _ _ _ hk2) rfl (List.Perm.refl _) ?_)⟩, trivial⟩)⟩
     intro _ G70 _ hG70 q72
     refine match q72 with | ⟨e_73, _, e_74, hv71⟩ => ?_
     subst e_73
     subst e_74
     have q76 := hv71.form
     refine match q76 with | ⟨sa_hv71, sc_hv71, e_75⟩ => ?_
     subst e_75
     refine W.nil ⟨hG70, (((List.nil_sublist _).cons_cons _).cons_cons _).cons_cons _, _, (((List.nil_sublist _).cons_cons _).cons_cons _).cons_cons _, List.Sublist.refl _, (WD.any [8] (by kernel_rfl) rfl ⟨⟨_, rfl, rfl, (W.lit (e := (eSl eMsg)) (l := [(clips (x.s.meet (rangeN x.n.pivots (j : Int))) x.n.msgs), (clips (x.s.meet (rangeN x.n.pivots (j : Int))) x.ms)]) (css := [[.slice _ _ _], [.slice _ _ _]]) sl187 ty45 zr45 rfl rfl rfl rfl rfl rfl ⟨⟨_, rfl, (hv64.mono hG70)⟩, ⟨_, rfl, hv71⟩, trivial⟩ (fun bl77 G77 hG77 hv77 => (W.nil ⟨hG77, (((List.nil_sublist _).cons_cons _).cons_cons _).cons_cons _, _, (((List.nil_sublist _).cons_cons _).cons_cons _).cons_cons _, List.Sublist.refl _, (WD.any [9] (by kernel_rfl) rfl ⟨⟨_, rfl, rfl, (W.call (Mp := []) (mlists_fc hv77 (by have := clips_le (s := (x.s.meet (rangeN x.n.pivots (j : Int)))) (l := x.n.msgs); have := clips_le (s := (x.s.meet (rangeN x.n.pivots (j : Int)))) (l := x.ms); have h9 : totN [] = 0 := rfl; rw [totN_cons, totN_cons, h9]; omega) (by show 2 ≤ 100000; omega)) rfl (List.Perm.refl _) ?_)⟩, trivial⟩)⟩)))⟩, trivial⟩)⟩
     intro _ G78 _ hG78 q80
     refine match q80 with | ⟨e_81, _, e_82, hv79⟩ => ?_
     subst e_81
     subst e_82
     have q84 := hv79.form
     refine match q84 with | ⟨sa_hv79, sc_hv79, e_83⟩ => ?_
     subst e_83
     refine W.nil ⟨hG78, (((List.nil_sublist _).cons_cons _).cons_cons _).cons_cons _, _, (((List.nil_sublist _).cons_cons _).cons_cons _).cons_cons _, List.Sublist.refl _, (WD.take 10 rfl rfl rfl (by kernel_rfl) (by kernel_rfl) (by kernel_rfl) (ok_as) (WD.done (by kernel_rfl) (thn_n (WC.region (W.mv (W.mv (W.ok (ok_loadB (i := 0) (vs := [.string _, .string _, .bool _]) ty52 rfl rfl rfl rfl (by simp)) (W.mv ?_))))))))⟩
     refine W.ok (ok_build (L := [.string _, .string _, .bool _, .slice _ _ _]) pl137 zr137 rfl rfl rfl) ?_
     have hkl9 : j < (kidsD l x).length := by omega
     have hke := hkd.2 j hkl9
     have hkv := viewsK_le (n := q) hkl9
     rw [hke] at hkv
     have hat9 := t.at hx p38 (j := j) (by omega)
     have hsl9 : (x.n.kids[j]'(by omega)) = (kidSt l x j).n.slot := by rw [hat9.2.2.1]; exact (getL_slot t.slot hat9.2.1).1.symm
     have hfh := hfk.head hkl9
     rw [hke] at hfh
     refine W.call (Mp := M_0) ((ih q rfl) (WkR.mono ((((hG62.trans hG63).trans hG70).trans hG77).trans hG78) ho_0) (x := (kidSt l x j)) hat9.1 (by have := hat9.2.2.2; omega) hm hfh (by rw [List.length_append]; omega) hv79) (congrArg (fun k : Int => [_, Value.int .i64 k, _]) hsl9) (pmC (pmC (pmC (List.Perm.refl _)))) ?_
     intro v88 G85 Ms87 hG85 q86
     refine match q86 with | ⟨e_90, mt3, hs3, hR89⟩ => ?_
     subst e_90
     refine W.perm (pmC (pmC (pmC (List.Perm.refl _)))).symm (W.nil (blk_n (thn_n (WC.region (W.ok (ok_add rfl rfl (by omega)) (W.mv (W.sub ((List.Sublist.refl _).cons _) (W.nil (thn_n ?_)))))))))
     exact ⟨(((((hG62.trans hG63).trans hG70).trans hG77).trans hG78).trans hG85), (((j + 1, mt3) : Nat × List (Int × Bool)), Ms87), ⟨eqv, eqv, eqv, eqv, eqv, eqv, trivial⟩, ⟨rfl, (by exact WkR.cast hR89 (by rw [viewsK_succ hkl9, hke, List.append_assoc])), by dsimp only; omega, hsk.succ hkl9 (by rw [hke]; exact hs3), hfk.tail hkl9 (by rw [hke]; exact hs3)⟩, by dsimp only; omega⟩
   ·have p50 := of_decide_eq_false h50
    try dsimp only at p50
    refine WC.exit (thn_x (thn_x (blk_h ?_)))
    refine ⟨.inl rfl, [], trivial, M_0, ((List.sublist_append_left _ _).cons _).cons _, ?_⟩
    exact ⟨rfl, _, hsk.all (by omega), WkR.cast ho_0 (by rw [viewsK_all (by omega)])⟩

theorem absw_all {c2 : Cfg} {l : List Nd} {ss : List Seat} (t : Tree c2 l ss) : ∀ n, AbsW l ss n := by
  intro n
  induction n with
  | zero => intro G bk bo m mt out Ms_k h_k x hx hn hm hf hol v_ms h_ms; exact absw_step h_k t hx hn hm hf hol (fun q hq => by omega) h_ms
  | succ n ih => intro G bk bo m mt out Ms_k h_k x hx hn hm hf hol v_ms h_ms; exact absw_step h_k t hx hn hm hf hol (fun q hq => by have e : q = n := (by omega); subst e; exact @ih) h_ms
end Go.Proofs.YtebkfinhhpelbaaGreat
