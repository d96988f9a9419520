/- The walk of grow.Lift. -/
import Derived.Test.YtebkfinhhpelbaaGreatQzNz
import Derived.Test.YtebkfinhhpelbaaGreatQzUc
set_option maxRecDepth 100000
set_option maxHeartbeats 1600000
set_option linter.unusedVariables false
set_option linter.unusedSimpArgs false
set_option linter.unnecessarySimpa false
namespace Go.Proofs.YtebkfinhhpelbaaGreat
open Go Go.Fw Go.RowKit
theorem ptake_at {G : GH} {b : Nat} {c : Cfg} {l : List Nd} {M : MH} (h : StR 47 4 3 182 103 b c G l M) (hr : l.length < c.slots.toNat) {cs : List Value} {x : Nd} (hx : NodeC G cs x) (k : Int) (hk : k = l.length) : Fc Tryz.prog 57 [.pointer (some ⟨b, 0, none⟩), .agg (List.toArray cs)] G M (fun v G' M' => v = .tuple #[.int .i64 k, .int .i64 0] ∧ StR 47 4 3 182 103 b c G' (tk l x) M') :=
  (ptake_fc h hx).mono fun v G' M' _ ⟨e1, e2⟩ => by rw [take_tk hr] at e1 e2; exact ⟨by rw [e1, hk], e2⟩
theorem pset_at {G : GH} {b : Nat} {c : Cfg} {l : List Nd} {M : MH} (h : StR 47 4 3 182 103 b c G l M) {cs : List Value} {x : Nd} (hs : 0 ≤ x.slot ∧ x.slot < l.length) (hx : NodeC G cs x) : Fc Tryz.prog 58 [.pointer (some ⟨b, 0, none⟩), .agg (List.toArray cs)] G M (fun v G' M' => v = .int .i64 0 ∧ StR 47 4 3 182 103 b c G' (l.set x.slot.toNat x) M') :=
  (pset_fc h hx).mono fun v G' M' _ ⟨e1, e2⟩ => by rw [putL_t hs] at e1 e2; exact ⟨e1, e2⟩
theorem StR.to {b : Nat} {c : Cfg} {G : GH} {l l' : List Nd} {M : MH} (h : StR 47 4 3 182 103 b c G l M) (e : l = l') : StR 47 4 3 182 103 b c G l' M := e ▸ h
theorem glift_fc {G : GH} {b_s : Nat} {c c2 : Cfg} {l : List Nd} {ss : List Seat} {Ms_s : MH} (h_s : StR 47 4 3 182 103 b_s c G l Ms_s) (t : Tree c2 l ss) :
    Fc Tryz.prog 15 [.pointer (some ⟨b_s, 0, none⟩)] G Ms_s (fun v G' M' => v = .int .i64 (liftS c l).1 ∧ StR 47 4 3 182 103 b_s c G' (liftS c l).2 M') := by
 have hp0 := t.pos
 have hl100 := t.sml.1
 have hrn := t.rootn
 have hn0 : (getL l 0).slot = 0 := by rw [← hrn]; exact t.root0
 have hlvl := t.height
 rw [hrn] at hlvl
 have hlv0 := t.lvl t.root
 rw [hrn] at hlv0
 have hz0 : i64 0 := ⟨by decide, by decide⟩
 have hlv : i64 ((getL l 0).level + 1) := ⟨by omega, by omega⟩
 have hks : ∀ m ∈ (getL l 0).msgs, m.key.b.size < 140737488355328 := fun m hm => by rw [← hrn] at hm; have := (msgR_key ((t.msgs t.root).2.1 m hm)).1; omega
 have hxi : i64 (l.length : Int) := ⟨by omega, by omega⟩
 have hyi : i64 ((l.length : Int) + 1) := ⟨by omega, by omega⟩
 refine Fc.intro (rs := [.tmp 2]) cl15 Tryz.func15 rfl Tryz.ntmps15 rfl rfl (fun w0 => ?_)
 refine WC.perm (M' := (Ms_s ++ [])) (by simp) (WC.seq (WC.region (W.as (W.nil (thn_n (WC.seq (WC.region (W.mv (W.call (Mp := Ms_s) (pnode_fc h_s _) rfl pr9 ?_)))))))))
 intro v11 G8 Ms10 hG8 q9
 refine match q9 with | ⟨⟨_, e_13, ⟨_, _, _, _, _, _, _, _, e_14, hp_hR12, hk_hR12, hm_hR12, hr_hR12, hok_hR12⟩⟩, eeq9⟩ => ?_
 subst e_13
 subst e_14
 have eeq9 := eeq9.symm
 subst eeq9
 refine W.mv (W.ok (ok_extract rfl rfl) (W.ok (ok_extract rfl rfl) (W.alloc zr47 (fun b15 => (W.store (i := 0) (vs := (nd9 _ _ _ _ _ _ _ _ _ _ _ _ _ _ _ _ _ _)) (L' := (nd9 _ _ _ _ _ _ _ _ _ _ _ _ _ _ _ _ _ _)) ty47 rfl rfl rfl rfl rfl rfl rfl rfl (W.as (W.nil (thn_n (WC.seq (WC.seq (WC.region (W.mv (W.ok (ok_not rfl) (W.nil (thn_n ?_)))))))))))))))
 refine WC.cond (b := _) rfl (fun h23 => ?_) (fun h23 => ?_)
 ·have p23 := nd_t h23
  try dsimp only at p23
  exfalso; omega
 have p23 := nd_f h23
 try dsimp only at p23
 refine WC.skip (thn_n (WC.seq (WC.seq (WC.region (W.ok (ok_loadB (i := 0) (vs := (nd9 _ _ _ _ _ _ _ _ _ _ _ _ _ _ _ _ _ _)) ty47 rfl rfl rfl rfl (by simp)) (W.call (Mp := []) (clift_fc ⟨_, _, _, _, _, _, _, _, rfl, hp_hR12, hk_hR12, hm_hR12, hr_hR12, hok_hR12⟩ 0 0 (by assumption) (by assumption) hlv hks) rfl pr9 ?_))))))
 intro _ G16 _ hG16 q20
 refine match q20 with | ⟨e_21, _, e_22, _, _, _, e_23, hv17, hv18, hv19⟩ => ?_
 subst e_21
 subst e_22
 subst e_23
 refine match hv17 with | ⟨pa_hv17, pc_hv17, ka_hv17, kc_hv17, ma_hv17, mc_hv17, ra_hv17, rc_hv17, e_24, hp_hv17, hk_hv17, hm_hv17, hr_hv17, hok_hv17⟩ => ?_
 subst e_24
 refine match hv18 with | ⟨pa_hv18, pc_hv18, ka_hv18, kc_hv18, ma_hv18, mc_hv18, ra_hv18, rc_hv18, e_25, hp_hv18, hk_hv18, hm_hv18, hr_hv18, hok_hv18⟩ => ?_
 subst e_25
 refine match hv19 with | ⟨pa_hv19, pc_hv19, ka_hv19, kc_hv19, ma_hv19, mc_hv19, ra_hv19, rc_hv19, e_26, hp_hv19, hk_hv19, hm_hv19, hr_hv19, hok_hv19⟩ => ?_
 subst e_26
 refine W.mv (W.ok (ok_extract rfl rfl) (W.ok (ok_extract rfl rfl) (W.ok (ok_extract rfl rfl) (W.ok (ok_extract rfl rfl) (W.alloc zr47 (fun b27 => (W.alloc zr47 (fun b28 => (W.alloc zr47 (fun b29 => (W.store (i := 2) (vs := (nd9 _ _ _ _ _ _ _ _ _ _ _ _ _ _ _ _ _ _)) (L' := (nd9 _ _ _ _ _ _ _ _ _ _ _ _ _ _ _ _ _ _)) ty47 rfl rfl rfl rfl rfl rfl rfl rfl (W.store (i := 1) (vs := (nd9 _ _ _ _ _ _ _ _ _ _ _ _ _ _ _ _ _ _)) (L' := (nd9 _ _ _ _ _ _ _ _ _ _ _ _ _ _ _ _ _ _)) ty47 rfl rfl rfl rfl rfl rfl rfl rfl (W.store (i := 0) (vs := (nd9 _ _ _ _ _ _ _ _ _ _ _ _ _ _ _ _ _ _)) (L' := (nd9 _ _ _ _ _ _ _ _ _ _ _ _ _ _ _ _ _ _)) ty47 rfl rfl rfl rfl rfl rfl rfl rfl (W.as (W.nil (thn_n (WC.seq ?_)))))))))))))))))
 refine WC.region (W.mv (W.ok (ok_not rfl) (W.nil (thn_n ?_))))
 refine WC.cond (b := _) rfl (fun h32 => ?_) (fun h32 => ?_)
 ·refine WC.seq (WC.region (W.as (W.nil (thn_n (WC.ret (thn_r ?_))))))
  refine ⟨.inr rfl, [_], ⟨rfl, trivial⟩, Ms_s, ((((List.sublist_append_left _ _).cons _).cons _).cons _).cons _, ?_⟩
  exact ⟨congrArg (fun p : Int × List Nd => Value.int .i64 p.1) (liftS_6 (by simpa using h32)).symm, StR.to (StR.mono (hG8.trans hG16) h_s) (congrArg Prod.snd (liftS_6 (by simpa using h32))).symm⟩
 have hok : (liftN (getL l 0) 0 0).2.2.2 = true := by simpa using h32
 obtain ⟨hs1, hs2, hs3⟩ := liftN_slots (x := (l.length : Int)) (y := (l.length : Int) + 1) hok
 rw [hn0] at hs1
 refine WC.skip (thn_n (WC.seq (WC.seq (WC.region (W.mv (W.call (Mp := Ms_s) (proom_fc (StR.mono (hG8.trans hG16) h_s)) rfl (pmC (pmC (pmC (pmC pr9)))) ?_))))))
 intro v33 G30 Ms32 hG30 q31
 refine match q31 with | ⟨e_35, eeq31⟩ => ?_
 subst e_35
 have eeq31 := eeq31.symm
 subst eeq31
 refine W.perm (pmC (pmC (pmC (pmC pr9)))).symm (W.ok (ok_lss rfl rfl) (W.nil (thn_n ?_)))
 refine WC.cond (b := _) rfl (fun h35 => ?_) (fun h35 => ?_)
 ·have p35 := of_decide_eq_true h35
  try dsimp only at p35
  refine WC.seq (WC.region (W.as (W.nil (thn_n (WC.ret (thn_r ?_))))))
  refine ⟨.inr rfl, [_], ⟨rfl, trivial⟩, Ms_s, ((((List.sublist_append_left _ _).cons _).cons _).cons _).cons _, ?_⟩
  exact ⟨congrArg (fun p : Int × List Nd => Value.int .i64 p.1) (liftS_4 hok (by omega)).symm, StR.to (StR.mono ((hG8.trans hG16).trans hG30) h_s) (congrArg Prod.snd (liftS_4 hok (by omega))).symm⟩
 have p35 := of_decide_eq_false h35
 try dsimp only at p35
 refine WC.skip (thn_n (WC.seq (WC.region (W.mv (W.ok (ok_loadB (i := 3) (vs := (nd9 _ _ _ _ _ _ _ _ _ _ _ _ _ _ _ _ _ _)) ty47 rfl rfl rfl rfl (by simp)) (W.call (Mp := Ms_s) (ptake_at (StR.mono ((hG8.trans hG16).trans hG30) h_s) (by omega) ⟨_, _, _, _, _, _, _, _, rfl, (hp_hR12.mono (hG16.trans hG30)), (hk_hR12.mono (hG16.trans hG30)), (hm_hR12.mono (hG16.trans hG30)), (hr_hR12.mono (hG16.trans hG30)), hok_hR12⟩ (l.length : Int) (by rfl)) rfl (pmC (pmC (pmC (pmC pr9)))) ?_))))))
 intro v39 G36 Ms38 hG36 q37
 refine match q37 with | ⟨e_41, hR40⟩ => ?_
 subst e_41
 refine W.perm (pmC (pmC (pmC (pmC pr9)))).symm (W.mv (W.ok (ok_extract rfl rfl) (W.ok (ok_extract rfl rfl) (W.as (W.as (W.nil (thn_n (WC.seq (WC.region (W.mv (W.ok (ok_loadB (i := 3) (vs := (nd9 _ _ _ _ _ _ _ _ _ _ _ _ _ _ _ _ _ _)) ty47 rfl rfl rfl rfl (by simp)) (W.call (Mp := Ms38) (ptake_at hR40 (by rw [tk_len]; omega) ⟨_, _, _, _, _, _, _, _, rfl, (hp_hR12.mono ((hG16.trans hG30).trans hG36)), (hk_hR12.mono ((hG16.trans hG30).trans hG36)), (hm_hR12.mono ((hG16.trans hG30).trans hG36)), (hr_hR12.mono ((hG16.trans hG30).trans hG36)), hok_hR12⟩ ((l.length : Int) + 1) (by rw [tk_len]; omega)) rfl (pmC (pmC (pmC (pmC pr9)))) ?_))))))))))))
 intro v45 G42 Ms44 hG42 q43
 refine match q43 with | ⟨e_47, hR46⟩ => ?_
 subst e_47
 refine W.perm (pmC (pmC (pmC (pmC pr9)))).symm (W.mv (W.ok (ok_extract rfl rfl) (W.ok (ok_extract rfl rfl) (W.as (W.as (W.nil (thn_n (WC.seq (WC.region (W.ok (ok_loadB (i := 3) (vs := (nd9 _ _ _ _ _ _ _ _ _ _ _ _ _ _ _ _ _ _)) ty47 rfl rfl rfl rfl (by simp)) (W.mv (W.mv (W.call (Mp := []) (clift_fc ⟨_, _, _, _, _, _, _, _, rfl, (hp_hR12.mono (((hG16.trans hG30).trans hG36).trans hG42)), (hk_hR12.mono (((hG16.trans hG30).trans hG36).trans hG42)), (hm_hR12.mono (((hG16.trans hG30).trans hG36).trans hG42)), (hr_hR12.mono (((hG16.trans hG30).trans hG36).trans hG42)), hok_hR12⟩ _ _ (by assumption) (by assumption) hlv hks) rfl pr9 ?_)))))))))))))
 intro _ G48 _ hG48 q52
 refine match q52 with | ⟨e_53, _, e_54, _, _, _, e_55, hv49, hv50, hv51⟩ => ?_
 subst e_53
 subst e_54
 subst e_55
 refine match hv49 with | ⟨pa_hv49, pc_hv49, ka_hv49, kc_hv49, ma_hv49, mc_hv49, ra_hv49, rc_hv49, e_56, hp_hv49, hk_hv49, hm_hv49, hr_hv49, hok_hv49⟩ => ?_
 subst e_56
 refine match hv50 with | ⟨pa_hv50, pc_hv50, ka_hv50, kc_hv50, ma_hv50, mc_hv50, ra_hv50, rc_hv50, e_57, hp_hv50, hk_hv50, hm_hv50, hr_hv50, hok_hv50⟩ => ?_
 subst e_57
 refine match hv51 with | ⟨pa_hv51, pc_hv51, ka_hv51, kc_hv51, ma_hv51, mc_hv51, ra_hv51, rc_hv51, e_58, hp_hv51, hk_hv51, hm_hv51, hr_hv51, hok_hv51⟩ => ?_
 subst e_58
 refine W.mv (W.ok (ok_extract rfl rfl) (W.ok (ok_extract rfl rfl) (W.ok (ok_extract rfl rfl) (W.ok (ok_extract rfl rfl) (W.alloc zr47 (fun b59 => (W.alloc zr47 (fun b60 => (W.alloc zr47 (fun b61 => (W.store (i := 2) (vs := (nd9 _ _ _ _ _ _ _ _ _ _ _ _ _ _ _ _ _ _)) (L' := (nd9 _ _ _ _ _ _ _ _ _ _ _ _ _ _ _ _ _ _)) ty47 rfl rfl rfl rfl rfl rfl rfl rfl (W.store (i := 1) (vs := (nd9 _ _ _ _ _ _ _ _ _ _ _ _ _ _ _ _ _ _)) (L' := (nd9 _ _ _ _ _ _ _ _ _ _ _ _ _ _ _ _ _ _)) ty47 rfl rfl rfl rfl rfl rfl rfl rfl (W.store (i := 0) (vs := (nd9 _ _ _ _ _ _ _ _ _ _ _ _ _ _ _ _ _ _)) (L' := (nd9 _ _ _ _ _ _ _ _ _ _ _ _ _ _ _ _ _ _)) ty47 rfl rfl rfl rfl rfl rfl rfl rfl (W.as (W.nil (thn_n (WC.seq ?_)))))))))))))))))
 refine WC.region (W.mv (W.ok (ok_loadB (i := 2) (vs := (nd9 _ _ _ _ _ _ _ _ _ _ _ _ _ _ _ _ _ _)) ty47 rfl rfl rfl rfl (by simp)) (W.call (Mp := Ms44) (pset_at (StR.mono hG48 hR46) (by simp only [List.length_set, tk_len]; omega) ⟨_, _, _, _, _, _, _, _, rfl, hp_hv49, hk_hv49, hm_hv49, hr_hv49, hok_hv49⟩) rfl (pmC (pmC (pmC (pmC (pmC (pmC (pmC pr9))))))) ?_)))
 intro v65 G62 Ms64 hG62 q63
 refine match q63 with | ⟨e_67, hR66⟩ => ?_
 subst e_67
 refine W.perm (pmC (pmC (pmC (pmC (pmC (pmC (pmC pr9))))))).symm (W.nil (thn_n (WC.seq (WC.region (W.mv (W.ok (ok_loadB (i := 1) (vs := (nd9 _ _ _ _ _ _ _ _ _ _ _ _ _ _ _ _ _ _)) ty47 rfl rfl rfl rfl (by simp)) (W.call (Mp := Ms64) (pset_at hR66 (by simp only [List.length_set, tk_len]; omega) ⟨_, _, _, _, _, _, _, _, rfl, (hp_hv50.mono hG62), (hk_hv50.mono hG62), (hm_hv50.mono hG62), (hr_hv50.mono hG62), hok_hv50⟩) rfl (pmC (pmC (pmC (pmC (pmC (pmC (pmC pr9))))))) ?_)))))))
 intro v71 G68 Ms70 hG68 q69
 refine match q69 with | ⟨e_73, hR72⟩ => ?_
 subst e_73
 refine W.perm (pmC (pmC (pmC (pmC (pmC (pmC (pmC pr9))))))).symm (W.nil (thn_n (WC.seq (WC.region (W.mv (W.ok (ok_loadB (i := 0) (vs := (nd9 _ _ _ _ _ _ _ _ _ _ _ _ _ _ _ _ _ _)) ty47 rfl rfl rfl rfl (by simp)) (W.call (Mp := Ms70) (pset_at hR72 (by simp only [List.length_set, tk_len]; omega) ⟨_, _, _, _, _, _, _, _, rfl, (hp_hv51.mono (hG62.trans hG68)), (hk_hv51.mono (hG62.trans hG68)), (hm_hv51.mono (hG62.trans hG68)), (hr_hv51.mono (hG62.trans hG68)), hok_hv51⟩) rfl (pmC (pmC (pmC (pmC (pmC (pmC (pmC pr9))))))) ?_)))))))
 intro v77 G74 Ms76 hG74 q75
 refine match q75 with | ⟨e_79, hR78⟩ => ?_
 subst e_79
 refine W.perm (pmC (pmC (pmC (pmC (pmC (pmC (pmC pr9))))))).symm (W.as (W.nil (thn_n (WC.ret ?_))))
 refine ⟨.inr rfl, [_], ⟨rfl, trivial⟩, Ms76, (((((((List.sublist_append_left _ _).cons _).cons _).cons _).cons _).cons _).cons _).cons _, ?_⟩
 exact ⟨congrArg (fun p : Int × List Nd => Value.int .i64 p.1) (liftS_0 hok (by omega)).symm, StR.to hR78 ((lift_list (by omega) hs2 hs3 t.pos).trans (congrArg Prod.snd (liftS_0 hok (by omega))).symm)⟩

end Go.Proofs.YtebkfinhhpelbaaGreat

namespace Go.Fw
open Go Go.RowKit
def RfR (te Tb : TypeId) (b : Nat) (c : Cfg) (G : GH) (l : List Nd) (M : MH) : Prop :=
 ∃ (v : Value) (Mo : MH), M = (b, .cells (List.toArray [.int .i64 c.fan, .int .i64 c.leaf, .int .i64 c.bud, .int .i64 c.slots, .int .i64 c.rest, v]) Tb (0, 0)) :: Mo ∧ OwnR eNode te G v l Mo
theorem RfR.mono {te Tb b : Nat} {c : Cfg} {G G' : GH} {l : List Nd} {M : MH} (hl : Le G G') (h : RfR te Tb b c G l M) : RfR te Tb b c G' l M := by
 obtain ⟨v, Mo, h1, h2⟩ := h
 exact ⟨v, Mo, h1, h2.mono hl⟩
theorem RfR.to {te Tb b : Nat} {c : Cfg} {G : GH} {l l' : List Nd} {M : MH} (h : RfR te Tb b c G l M) (e : l = l') : RfR te Tb b c G l' M := e ▸ h
theorem getL_nat {l : List Nd} {p : Int} (h : 0 ≤ p ∧ p < l.length) : getL l p = l[p.toNat]'(by omega) := by
 have := getL_at (l := l) (k := p.toNat) (by omega)
 rwa [show ((p.toNat : Nat) : Int) = p by omega] at this
end Go.Fw
namespace Go.Proofs.YtebkfinhhpelbaaGreat
open Go Go.Fw Go.RowKit
theorem rof_fc {G : GH} (cfan : Int) (cleaf : Int) (cbud : Int) (cslots : Int) (crest : Int) {v_l : Value} {l : List Nd} (h_l : SlR eNode G v_l l) :
    Fc Tryz.prog 14 [.agg #[.int .i64 cfan, .int .i64 cleaf, .int .i64 cbud, .int .i64 cslots, .int .i64 crest], v_l] G [] (fun v G' M' => ∃ b, v = .pointer (some ⟨b, 0, none⟩) ∧ RfR 47 38 b (⟨cfan, cleaf, cbud, cslots, crest⟩ : Cfg) G' l M') := by
 obtain ⟨sa_l, sc_l, rfl⟩ := h_l.form
 have hl := h_l.len47
 have hlb : l.length * 152 ≤ 140737488355328 := h_l.bytes
 refine Fc.intro (rs := [.tmp 4]) cl14 Tryz.func14 rfl Tryz.ntmps14 rfl rfl (fun w0 => ?_)
 refine WC.seq (WC.region (W.box (L := [.int .i64 _, .int .i64 _, .int .i64 _, .int .i64 _, .int .i64 _]) rfl rfl (fun b1 => (W.as (W.nil (thn_n (WC.seq (WC.drawW _ sr9.k9 mix (by rintro _ _ _ _ ⟨h | h, _⟩ <;> cases h) (WD.tk 0 rfl (ok_loadB (i := 0) (vs := [.int .i64 _, .int .i64 _, .int .i64 _, .int .i64 _, .int .i64 _]) ty23 rfl rfl rfl rfl (by simp)) (WD.tk 2 rfl (ok_mv) (WD.a1 1 rfl (W.lit0 (e := eNode) sl24 ty47 zr47 rfl (fun v2 Ms3 ho4 => (W.perm (pmC pr9).symm ?_))))))))))))))
 have q8 := ho4.form
 refine match q8 with | ⟨sa5, sc6, e_7⟩ => ?_
 subst e_7
 refine W.nil (WD.n9 Le.rfl sn9.k9 (WD.a1 3 rfl (W.app (e := eNode) sl24 ty47 zr47 rfl by47 rfl rfl (ho4) (h_l) (pmC pr9) (by show (List.length _ + List.length _) * 152 ≤ _; simp; omega) (fun v9 Ms10 ho11 => (W.perm (pmC pr9).symm ?_)))))
 have q15 := ho11.form
 refine match q15 with | ⟨sa12, sc13, e_14⟩ => ?_
 subst e_14
 refine W.nil (WD.n9 Le.rfl sn9.k9 (WD.tk 4 rfl (ok_build (L := [.int .i64 _, .int .i64 _, .int .i64 _, .int .i64 _, .int .i64 _, .slice _ _ _]) pl38 zr38 rfl rfl rfl) (WD.a1 5 rfl (W.box (L := [.int .i64 _, .int .i64 _, .int .i64 _, .int .i64 _, .int .i64 _, .slice _ _ _]) rfl rfl (fun b16 => (W.nil (WD.n9 Le.rfl (sn9.k9.cons _) (WD.tk 6 rfl (ok_as) (WD.done (by kernel_rfl) (thn_n (WC.ret ?_)))))))))))
 refine ⟨.inr rfl, [_], ⟨rfl, trivial⟩, ((b16, .cells (List.toArray [.int .i64 cfan, .int .i64 cleaf, .int .i64 cbud, .int .i64 cslots, .int .i64 crest, .slice sa12 (([] ++ l)).length sc13]) 38 (0, 0)) :: (Ms10 ++ [])), (sr9.cons _).k9, ?_⟩
 exact ⟨_, rfl, ⟨_, _, congrArg _ (List.append_nil _), ho11⟩⟩

end Go.Proofs.YtebkfinhhpelbaaGreat

namespace Go.Fw
open Go Go.RowKit
theorem cleave_key (n : Nd) (i j : Int) : (cleaveN n i).2.2.1 = (cleaveN n j).2.2.1 := by
 cases h : (halvesN n).2.2.2
 ·rw [cleaveN_f h, cleaveN_f h]
 ·rw [cleaveN_t h, cleaveN_t h]
theorem cleave_okS (n : Nd) (i j : Int) : (cleaveN n i).2.2.2 = (cleaveN n j).2.2.2 := by rw [cleave_ok, cleave_ok]
theorem bins_okS (p : List Str) (c : List Int) (i : Nat) (k : Str) (v w : Int) : (binsN p c i k v).2.length = (binsN p c i k w).2.length := by
 unfold binsN
 split
 ·rfl
 ·simp
theorem adopt_okS (n : Nd) (i : Nat) (k : Str) (v w : Int) : (adoptN n i k v).2 = (adoptN n i k w).2 := by
 unfold adoptN
 rw [bins_okS _ _ _ _ v w]
 split <;> rfl
def kdN (l : List Nd) (p : Int) (i : Nat) : Int := (getL l p).kids.getD i 0
def cutP (l : List Nd) (p : Int) (i : Nat) : Nd × Nd × Str × Bool := cleaveN (getL l (kdN l p i)) l.length
def adP (l : List Nd) (p : Int) (i : Nat) : Nd × Bool := adoptN (getL l p) i (cutP l p i).2.2.1 l.length
def lstP (l : List Nd) (p : Int) (i : Nat) : List Nd := ((l.set (cutP l p i).1.slot.toNat (cutP l p i).1).set p.toNat (adP l p i).1) ++ [(cutP l p i).2.1]
def partS (c : Cfg) (l : List Nd) (p : Int) (i : Nat) : Int × List Nd :=
 if ¬ (0 ≤ p ∧ p < l.length) ∨ (getL l p).kids.length ≤ i ∨ ¬ (0 ≤ kdN l p i ∧ kdN l p i < l.length) then (8, l)
 else if fullN c (getL l p) = true then (9, l)
 else if (cutP l p i).2.2.2 = false ∨ (adP l p i).2 = false then (6, l)
 else if ¬ (l.length : Int) < c.slots then (4, l)
 else (0, lstP l p i)
def partI (c : Cfg) (l : List Nd) (p i : Int) : Int × List Nd := if i < 0 then (8, l) else partS c l p i.toNat
theorem partS_8 {c : Cfg} {l : List Nd} {p : Int} {i : Nat} (h : ¬ (0 ≤ p ∧ p < l.length) ∨ (getL l p).kids.length ≤ i ∨ ¬ (0 ≤ kdN l p i ∧ kdN l p i < l.length)) : partS c l p i = (8, l) := if_pos h
theorem partS_9 {c : Cfg} {l : List Nd} {p : Int} {i : Nat} (h1 : 0 ≤ p ∧ p < l.length) (h2 : ¬ (getL l p).kids.length ≤ i) (h3 : 0 ≤ kdN l p i ∧ kdN l p i < l.length) (h : fullN c (getL l p) = true) : partS c l p i = (9, l) := by
 unfold partS; rw [if_neg (by rintro (h | h | h); exact h h1; exact h2 h; exact h h3), if_pos h]
theorem partS_6 {c : Cfg} {l : List Nd} {p : Int} {i : Nat} (h1 : 0 ≤ p ∧ p < l.length) (h2 : ¬ (getL l p).kids.length ≤ i) (h3 : 0 ≤ kdN l p i ∧ kdN l p i < l.length) (h4 : fullN c (getL l p) = false) (h : (cutP l p i).2.2.2 = false ∨ (adP l p i).2 = false) : partS c l p i = (6, l) := by
 unfold partS; rw [if_neg (by rintro (h | h | h); exact h h1; exact h2 h; exact h h3), if_neg (by rw [h4]; simp), if_pos h]
theorem partS_4 {c : Cfg} {l : List Nd} {p : Int} {i : Nat} (h1 : 0 ≤ p ∧ p < l.length) (h2 : ¬ (getL l p).kids.length ≤ i) (h3 : 0 ≤ kdN l p i ∧ kdN l p i < l.length) (h4 : fullN c (getL l p) = false) (h5 : (cutP l p i).2.2.2 = true) (h6 : (adP l p i).2 = true) (h : ¬ (l.length : Int) < c.slots) : partS c l p i = (4, l) := by
 unfold partS; rw [if_neg (by rintro (h | h | h); exact h h1; exact h2 h; exact h h3), if_neg (by rw [h4]; simp), if_neg (by rw [h5, h6]; simp), if_pos h]
theorem partS_0 {c : Cfg} {l : List Nd} {p : Int} {i : Nat} (h1 : 0 ≤ p ∧ p < l.length) (h2 : ¬ (getL l p).kids.length ≤ i) (h3 : 0 ≤ kdN l p i ∧ kdN l p i < l.length) (h4 : fullN c (getL l p) = false) (h5 : (cutP l p i).2.2.2 = true) (h6 : (adP l p i).2 = true) (h : (l.length : Int) < c.slots) : partS c l p i = (0, lstP l p i) := by
 unfold partS; rw [if_neg (by rintro (h | h | h); exact h h1; exact h2 h; exact h h3), if_neg (by rw [h4]; simp), if_neg (by rw [h5, h6]; simp), if_neg (by simpa using h)]
theorem cut_slots {l : List Nd} {p : Int} {i : Nat} (h : (cutP l p i).2.2.2 = true) : (cutP l p i).1.slot = (getL l (kdN l p i)).slot ∧ (cutP l p i).2.1.slot = l.length := by
 have hh : (halvesN (getL l (kdN l p i))).2.2.2 = true := by rw [← cleave_ok _ (l.length : Int)]; exact h
 unfold cutP
 rw [cleaveN_t hh]
 refine ⟨?_, rfl⟩
 show (halvesN (getL l (kdN l p i))).1.slot = _
 by_cases h0 : (getL l (kdN l p i)).level = 0
 ·rw [halvesN_0 h0]
 ·cases h2 : rightN (getL l (kdN l p i)).pivots (getL l (kdN l p i)).kids.length
  ·rw [halvesN_n h0 h2]
  ·rw [halvesN_k h0 h2]
theorem ad_slot {l : List Nd} {p : Int} {i : Nat} (h : (adP l p i).2 = true) : (adP l p i).1.slot = (getL l p).slot := by
 unfold adP adoptN at *
 split
 ·rename_i h2; rw [if_pos h2] at h; cases h
 ·rfl
theorem part_list {l : List Nd} {n a b r : Nd} {p : Int} (ha : 0 ≤ a.slot ∧ a.slot < l.length) (hb : b.slot = l.length) (hr : r.slot = p) (hp : 0 ≤ p ∧ p < l.length) :
  (((tk l n).set a.slot.toNat a).set b.slot.toNat b).set r.slot.toNat r = ((l.set a.slot.toNat a).set p.toNat r) ++ [b] := by
 unfold tk
 rw [List.set_append_left _ _ (by omega), hb, hr]
 have l1 : (l.set a.slot.toNat a).length = l.length := List.length_set
 rw [show ((l.length : Int)).toNat = (l.set a.slot.toNat a).length by rw [l1]; omega, List.set_append_right _ _ (Nat.le_refl _), Nat.sub_self, List.set_append_left _ _ (by omega)]
 rfl
theorem part_all {c : Cfg} {l : List Nd} {ss : List Seat} (t : Tree c l ss) (few : l.length ≤ 60) (p i : Int) : ∃ T, Tree c (partI c l p i).2 T ∧ mapN (partI c l p i).2 = mapN l := by
 unfold partI
 split
 ·exact ⟨ss, t, rfl⟩
 ·generalize i.toNat = j
  by_cases h1 : 0 ≤ p ∧ p < l.length
  ·by_cases h2 : (getL l p).kids.length ≤ j
   ·rw [partS_8 (.inr (.inl h2))]; exact ⟨ss, t, rfl⟩
   ·by_cases h3 : 0 ≤ kdN l p j ∧ kdN l p j < l.length
    ·cases h4 : fullN c (getL l p)
     ·by_cases h5 : (cutP l p j).2.2.2 = true
      ·by_cases h6 : (adP l p j).2 = true
       ·by_cases h7 : (l.length : Int) < c.slots
        ·rw [partS_0 h1 h2 h3 h4 h5 h6 h7]
         obtain ⟨g1, g2⟩ := getL_slot t.slot h1
         obtain ⟨P, hP, eP⟩ := List.mem_map.1 ((t.perm.mem_iff).2 g2)
         have hj : j < P.n.kids.length := by rw [eP]; omega
         have h0 : ¬ P.n.level = 0 := fun h0 => by have := (t.leaf hP h0).1; omega
         have hat := t.at hP h0 hj
         have ek : (kidSt l P j).n = getL l (kdN l p j) := by
          rw [hat.2.2.1]
          unfold kdN
          rw [← eP, List.getD_eq_getElem?_getD, List.getElem?_eq_getElem hj]; rfl
         have hfull : (P.n.kids.length : Int) < c.fan := by
          unfold fullN at h4
          rw [if_neg (by rw [← eP]; exact h0), decide_eq_false_iff_not] at h4
          rw [eP]; omega
         unfold adP cutP at h6
         unfold cutP at h5
         rw [← ek] at h5 h6
         rw [← eP] at h6
         have key := part_of t hP h0 hj hfull h7 (by omega) h5 h6
         obtain ⟨e9, h, q⟩ := key
         have el : lstP l p j = partL l P.n j (cleaveN (kidSt l P j).n l.length).1 (cleaveN (kidSt l P j).n l.length).2.1 (cleaveN (kidSt l P j).n l.length).2.2.1 := by
          unfold lstP adP cutP partL
          rw [← ek, ← eP, e9]
          have : P.n.slot = p := by rw [eP]; exact g1
          rw [this]
         rw [el]
         exact ⟨_, q.tree, q.map⟩
        ·rw [partS_4 h1 h2 h3 h4 h5 h6 h7]; exact ⟨ss, t, rfl⟩
       ·rw [partS_6 h1 h2 h3 h4 (.inr (by simpa using h6))]; exact ⟨ss, t, rfl⟩
      ·rw [partS_6 h1 h2 h3 h4 (.inl (by simpa using h5))]; exact ⟨ss, t, rfl⟩
     ·rw [partS_9 h1 h2 h3 h4]; exact ⟨ss, t, rfl⟩
    ·rw [partS_8 (.inr (.inr h3))]; exact ⟨ss, t, rfl⟩
  ·rw [partS_8 (.inl h1)]; exact ⟨ss, t, rfl⟩
end Go.Fw
