/- The law CleaveAdopts is walked. -/
import Derived.Test.YtipdjeemjiimbaaWk
import Derived.Test.YtipdjeemjiimbaaA22
namespace Go.Proofs.Ytipdjeemjiimbaa
open Go Go.Fw Go.RowKit
set_option maxRecDepth 100000
set_option maxHeartbeats 1600000
set_option linter.unusedVariables false
set_option linter.unusedSimpArgs false
set_option linter.unnecessarySimpa false
theorem caneg_fc {G : GH} {cs_n : List Value} {n : Nd} (h_n : NodeC G cs_n n) (i : Int) (k : Str) (nv : Int) (hi : i64 i) (hv : i64 nv) (hn : i < 0) :
    Fc Try.prog 11 [.agg (List.toArray cs_n), .int .i64 i, .string k.b, .int .i64 nv] G [] (fun v _ _ => v = .bool (true)) := by
  obtain ⟨pa_n, pc_n, ka_n, kc_n, ma_n, mc_n, ra_n, rc_n, rfl, hp_n, hk_n, hm_n, hr_n, hok_n⟩ := h_n
  have h1 := hp_n.len47
  have h2 := hk_n.len47
  have h3 := hm_n.len47
  have h4 := hr_n.len47
  have hk := k.le
  have hv1 := hv.1
  have hv2 := hv.2
  have hi1 := hi.1
  have hi2 := hi.2
  refine Fc.intro (rs := [.tmp 8]) cl11 Try.func11 rfl Try.ntmps11 rfl rfl (fun w0 => ?_)
  refine WC.seq ?_
  refine WC.region ?_
  refine W.box (L := [.int .i64 _, .int .i64 _, .slice _ _ _, .slice _ _ _, .string _, .bool _, .int .i64 _, .int .i64 _, .slice _ _ _, .slice _ _ _]) rfl rfl (fun b1 => ?_)
  refine W.as ?_
  refine W.nil (thn_n ?_)
  refine WC.seq ?_
  refine WC.seq ?_
  refine WC.region ?_
  refine W.ok (ok_loadB (i := 0) (vs := [.int .i64 _, .int .i64 _, .slice _ _ _, .slice _ _ _, .string _, .bool _, .int .i64 _, .int .i64 _, .slice _ _ _, .slice _ _ _]) ty101 rfl rfl rfl rfl (by simp)) ?_
  refine W.qcall (sound22_fc ⟨_, _, _, _, _, _, _, _, rfl, hp_n, hk_n, hm_n, hr_n, hok_n⟩) rfl ?_
  refine W.ok (ok_not rfl) ?_
  refine W.mv ?_
  refine W.sp 16 rfl (fun h15 => ?_) (fun h15 => ?_)
  · refine W.no (dj := 16) rfl rfl h15 ?_
    refine W.no (dj := 16) rfl rfl h15 ?_
    refine W.no (dj := 16) rfl rfl h15 ?_
    refine W.ok (ok_pick_t rfl h15) ?_
    refine W.mv ?_
    refine W.no (dj := 21) rfl rfl rfl ?_
    refine W.no (dj := 21) rfl rfl rfl ?_
    refine W.no (dj := 21) rfl rfl rfl ?_
    refine W.no (dj := 21) rfl rfl rfl ?_
    refine W.nou (dj := 25) rfl rfl ?_
    refine W.nou (dj := 25) rfl rfl ?_
    refine W.nou (dj := 25) rfl rfl ?_
    refine W.nou (dj := 25) rfl rfl ?_
    refine W.nou (dj := 25) rfl rfl ?_
    refine W.nou (dj := 25) rfl rfl ?_
    refine W.no (dj := 21) rfl rfl rfl ?_
    refine W.ok (ok_pick_t rfl rfl) ?_
    refine W.nil (thn_n ?_)
    refine WC.cond_t rfl rfl ?_
    refine WC.seq ?_
    refine WC.region ?_
    refine W.qcall (awake22_fc) rfl ?_
    refine W.as ?_
    refine W.nil (thn_n ?_)
    refine WC.ret (thn_r ?_)
    refine ⟨.inr rfl, [_], ⟨rfl, trivial⟩, [], List.nil_sublist _, ?_⟩
    rfl
  · have hsd : n.sound := by simpa using h15
    have hlg : n.light 2000 := hsd.1.2 0 (by simp)
    have hq2 := longN_len (l := n.pivots) (n := 0) (m := 2000) hlg.2.1
    have hq3 := hlg.2.1
    have hq4 := hlg.2.2.1
    have hz : n.pivots.length ≤ 1000000 ∧ n.kids.length ≤ 1000000 := ⟨by omega, by omega⟩
    refine W.yes (dj := 16) rfl rfl h15 ?_
    refine W.mv ?_
    refine W.yes (dj := 16) rfl rfl h15 ?_
    refine W.ok (ok_lenS st9 rfl) ?_
    refine W.yes (dj := 16) rfl rfl h15 ?_
    refine W.ok (ok_gtr rfl rfl) ?_
    refine W.ok (ok_pick_f rfl h15) ?_
    refine W.mv ?_
    refine W.sp 21 rfl (fun h19 => ?_) (fun h19 => ?_)
    · have p19 := of_decide_eq_true h19
      refine W.no (dj := 21) rfl rfl h19 ?_
      refine W.no (dj := 21) rfl rfl h19 ?_
      refine W.no (dj := 21) rfl rfl h19 ?_
      refine W.no (dj := 21) rfl rfl h19 ?_
      refine W.nou (dj := 25) rfl rfl ?_
      refine W.nou (dj := 25) rfl rfl ?_
      refine W.nou (dj := 25) rfl rfl ?_
      refine W.nou (dj := 25) rfl rfl ?_
      refine W.nou (dj := 25) rfl rfl ?_
      refine W.nou (dj := 25) rfl rfl ?_
      refine W.no (dj := 21) rfl rfl h19 ?_
      refine W.ok (ok_pick_t rfl h19) ?_
      refine W.nil (thn_n ?_)
      refine WC.cond_t rfl rfl ?_
      refine WC.seq ?_
      refine WC.region ?_
      refine W.qcall (awake22_fc) rfl ?_
      refine W.as ?_
      refine W.nil (thn_n ?_)
      refine WC.ret (thn_r ?_)
      refine ⟨.inr rfl, [_], ⟨rfl, trivial⟩, [], List.nil_sublist _, ?_⟩
      rfl
    · have p19 := of_decide_eq_false h19
      refine W.yes (dj := 21) rfl rfl h19 ?_
      refine W.ok (ok_fieldB fd101_1 rfl) ?_
      refine W.yes (dj := 21) rfl rfl h19 ?_
      refine W.ok (ok_loadB (i := 0) (vs := [.int .i64 _]) ty3 rfl rfl rfl rfl (by simp)) ?_
      refine W.yes (dj := 21) rfl rfl h19 ?_
      refine W.ok (ok_neq rfl rfl) ?_
      refine W.yes (dj := 21) rfl rfl h19 ?_
      refine W.mv ?_
      refine W.sp 25 rfl (fun h24 => ?_) (fun h24 => ?_)
      · have p24 := nd_t h24
        refine W.yes (dj := 25) rfl rfl h24 ?_
        refine W.ok (ok_fieldB fd101_2 rfl) ?_
        refine W.yes (dj := 25) rfl rfl h24 ?_
        refine W.ok (ok_loadB (i := 0) (vs := [.slice _ _ _]) ty61 rfl rfl rfl rfl (by simp)) ?_
        refine W.yes (dj := 25) rfl rfl h24 ?_
        refine W.ok (ok_fieldB fd101_3 rfl) ?_
        refine W.yes (dj := 25) rfl rfl h24 ?_
        refine W.ok (ok_loadB (i := 0) (vs := [.slice _ _ _]) ty47 rfl rfl rfl rfl (by simp)) ?_
        refine W.yes (dj := 25) rfl rfl h24 ?_
        refine W.qcall (rright_fc hp_n hk_n) rfl ?_
        refine W.yes (dj := 25) rfl rfl h24 ?_
        refine W.ok (ok_not rfl) ?_
        refine W.yes (dj := 21) rfl rfl h19 ?_
        refine W.ok (ok_pick_t rfl h24) ?_
        refine W.ok (ok_pick_f rfl h19) ?_
        refine W.nil (thn_n ?_)
        refine WC.cond (b := _) rfl (fun h31 => ?_) (fun h31 => ?_)
        · refine WC.seq ?_
          refine WC.region ?_
          refine W.qcall (awake22_fc) rfl ?_
          refine W.as ?_
          refine W.nil (thn_n ?_)
          refine WC.ret (thn_r ?_)
          refine ⟨.inr rfl, [_], ⟨rfl, trivial⟩, [], List.nil_sublist _, ?_⟩
          rfl
        · refine WC.skip (thn_n ?_)
          refine WC.seq ?_
          refine WC.region ?_
          refine W.ok (ok_loadB (i := 0) (vs := [.int .i64 _, .int .i64 _, .slice _ _ _, .slice _ _ _, .string _, .bool _, .int .i64 _, .int .i64 _, .slice _ _ _, .slice _ _ _]) ty101 rfl rfl rfl rfl (by simp)) ?_
          refine W.mv ?_
          refine W.mv ?_
          refine W.mv ?_
          refine W.call (Mp := []) (canegfc ⟨_, _, _, _, _, _, _, _, rfl, hp_n, hk_n, hm_n, hr_n, hok_n⟩ _ _ _ (by assumption) (by first | assumption | exact ⟨by omega, by omega⟩) (by assumption) (by assumption)) rfl (List.Perm.refl _) ?_
          intro _ G2 _ hG2 q4
          refine match q4 with | ⟨e_5, _, e_6, _, e_7, hv3⟩ => ?_
          subst e_5
          subst e_6
          subst e_7
          refine match hv3 with | ⟨_, _, _, _, _, _, _, _, e_8, hp_hv3, hk_hv3, hm_hv3, hr_hv3, hok_hv3⟩ => ?_
          subst e_8
          refine W.mv ?_
          refine W.ok (ok_extract rfl rfl) ?_
          refine W.ok (ok_extract rfl rfl) ?_
          refine W.alloc zr101 (fun b9 => ?_)
          refine W.store (i := 0) (vs := [.int .i64 _, .int .i64 _, .slice _ _ _, .slice _ _ _, .string _, .bool _, .int .i64 _, .int .i64 _, .slice _ _ _, .slice _ _ _]) (L' := [.int .i64 _, .int .i64 _, .slice _ _ _, .slice _ _ _, .string _, .bool _, .int .i64 _, .int .i64 _, .slice _ _ _, .slice _ _ _]) ty101 rfl rfl rfl rfl rfl rfl rfl rfl ?_
          refine W.as ?_
          refine W.nil (thn_n ?_)
          refine WC.seq ?_
          refine WC.region ?_
          refine W.ok (ok_loadB (i := 1) (vs := [.int .i64 _, .int .i64 _, .slice _ _ _, .slice _ _ _, .string _, .bool _, .int .i64 _, .int .i64 _, .slice _ _ _, .slice _ _ _]) ty101 rfl rfl rfl rfl (by simp)) ?_
          refine W.mv ?_
          refine W.mv ?_
          refine W.mv ?_
          refine W.call (Mp := []) (ranegfc ⟨_, _, _, _, _, _, _, _, rfl, (hp_n.mono hG2), (hk_n.mono hG2), (hm_n.mono hG2), (hr_n.mono hG2), hok_n⟩ _ _ _ (by assumption) (by first | assumption | exact ⟨by omega, by omega⟩) (by assumption) (by assumption)) rfl (List.Perm.refl _) ?_
          intro _ G10 _ hG10 q12
          refine match q12 with | ⟨e_13, _, e_14, _, e_15, hv11⟩ => ?_
          subst e_13
          subst e_14
          subst e_15
          refine match hv11 with | ⟨_, _, _, _, _, _, _, _, e_16, hp_hv11, hk_hv11, hm_hv11, hr_hv11, hok_hv11⟩ => ?_
          subst e_16
          refine W.mv ?_
          refine W.ok (ok_extract rfl rfl) ?_
          refine W.ok (ok_extract rfl rfl) ?_
          refine W.alloc zr101 (fun b17 => ?_)
          refine W.store (i := 0) (vs := [.int .i64 _, .int .i64 _, .slice _ _ _, .slice _ _ _, .string _, .bool _, .int .i64 _, .int .i64 _, .slice _ _ _, .slice _ _ _]) (L' := [.int .i64 _, .int .i64 _, .slice _ _ _, .slice _ _ _, .string _, .bool _, .int .i64 _, .int .i64 _, .slice _ _ _, .slice _ _ _]) ty101 rfl rfl rfl rfl rfl rfl rfl rfl ?_
          refine W.as ?_
          refine W.nil (thn_n ?_)
          refine WC.seq ?_
          refine WC.region ?_
          refine W.mv ?_
          refine W.mv ?_
          refine W.ok (ok_eqlB bo4 rfl rfl) ?_
          refine W.mv ?_
          refine W.sp 54 rfl (fun h53 => ?_) (fun h53 => ?_)
          · refine W.yes (dj := 54) rfl rfl h53 ?_
            refine W.ok (ok_loadB (i := 1) (vs := [.int .i64 _, .int .i64 _, .slice _ _ _, .slice _ _ _, .string _, .bool _, .int .i64 _, .int .i64 _, .slice _ _ _, .slice _ _ _]) ty101 rfl rfl rfl rfl (by simp)) ?_
            refine W.yes (dj := 54) rfl rfl h53 ?_
            refine W.ok (ok_loadB (i := 0) (vs := [.int .i64 _, .int .i64 _, .slice _ _ _, .slice _ _ _, .string _, .bool _, .int .i64 _, .int .i64 _, .slice _ _ _, .slice _ _ _]) ty101 rfl rfl rfl rfl (by simp)) ?_
            refine W.yes (dj := 54) rfl rfl h53 ?_
            refine W.qcall (nsame_fc ⟨_, _, _, _, _, _, _, _, rfl, (hp_hv3.mono hG10), (hk_hv3.mono hG10), (hm_hv3.mono hG10), (hr_hv3.mono hG10), hok_hv3⟩ ⟨_, _, _, _, _, _, _, _, rfl, hp_hv11, hk_hv11, hm_hv11, hr_hv11, hok_hv11⟩) rfl ?_
            refine W.ok (ok_pick_t rfl h53) ?_
            refine W.mv ?_
            refine W.sp 59 rfl (fun h57 => ?_) (fun h57 => ?_)
            · refine W.yes (dj := 59) rfl rfl h57 ?_
              refine W.qcall (awake22_fc) rfl ?_
              refine W.ok (ok_pick_t rfl h57) ?_
              refine W.as ?_
              refine W.nil (thn_n ?_)
              refine WC.ret ?_
              refine ⟨.inr rfl, [_], ⟨rfl, trivial⟩, [], List.nil_sublist _, ?_⟩
              rfl
            · simp at h57
          · simp at h53
      · have p24 := nd_f h24
        refine W.no (dj := 25) rfl rfl h24 ?_
        refine W.no (dj := 25) rfl rfl h24 ?_
        refine W.no (dj := 25) rfl rfl h24 ?_
        refine W.no (dj := 25) rfl rfl h24 ?_
        refine W.no (dj := 25) rfl rfl h24 ?_
        refine W.no (dj := 25) rfl rfl h24 ?_
        refine W.yes (dj := 21) rfl rfl h19 ?_
        refine W.ok (ok_pick_f rfl h24) ?_
        refine W.ok (ok_pick_f rfl h19) ?_
        refine W.nil (thn_n ?_)
        refine WC.cond_f rfl rfl ?_
        refine WC.skip (thn_n ?_)
        refine WC.seq ?_
        refine WC.region ?_
        refine W.ok (ok_loadB (i := 0) (vs := [.int .i64 _, .int .i64 _, .slice _ _ _, .slice _ _ _, .string _, .bool _, .int .i64 _, .int .i64 _, .slice _ _ _, .slice _ _ _]) ty101 rfl rfl rfl rfl (by simp)) ?_
        refine W.mv ?_
        refine W.mv ?_
        refine W.mv ?_
        refine W.call (Mp := []) (canegfc ⟨_, _, _, _, _, _, _, _, rfl, hp_n, hk_n, hm_n, hr_n, hok_n⟩ _ _ _ (by assumption) (by first | assumption | exact ⟨by omega, by omega⟩) (by assumption) (by assumption)) rfl (List.Perm.refl _) ?_
        intro _ G18 _ hG18 q20
        refine match q20 with | ⟨e_21, _, e_22, _, e_23, hv19⟩ => ?_
        subst e_21
        subst e_22
        subst e_23
        refine match hv19 with | ⟨_, _, _, _, _, _, _, _, e_24, hp_hv19, hk_hv19, hm_hv19, hr_hv19, hok_hv19⟩ => ?_
        subst e_24
        refine W.mv ?_
        refine W.ok (ok_extract rfl rfl) ?_
        refine W.ok (ok_extract rfl rfl) ?_
        refine W.alloc zr101 (fun b25 => ?_)
        refine W.store (i := 0) (vs := [.int .i64 _, .int .i64 _, .slice _ _ _, .slice _ _ _, .string _, .bool _, .int .i64 _, .int .i64 _, .slice _ _ _, .slice _ _ _]) (L' := [.int .i64 _, .int .i64 _, .slice _ _ _, .slice _ _ _, .string _, .bool _, .int .i64 _, .int .i64 _, .slice _ _ _, .slice _ _ _]) ty101 rfl rfl rfl rfl rfl rfl rfl rfl ?_
        refine W.as ?_
        refine W.nil (thn_n ?_)
        refine WC.seq ?_
        refine WC.region ?_
        refine W.ok (ok_loadB (i := 1) (vs := [.int .i64 _, .int .i64 _, .slice _ _ _, .slice _ _ _, .string _, .bool _, .int .i64 _, .int .i64 _, .slice _ _ _, .slice _ _ _]) ty101 rfl rfl rfl rfl (by simp)) ?_
        refine W.mv ?_
        refine W.mv ?_
        refine W.mv ?_
        refine W.call (Mp := []) (ranegfc ⟨_, _, _, _, _, _, _, _, rfl, (hp_n.mono hG18), (hk_n.mono hG18), (hm_n.mono hG18), (hr_n.mono hG18), hok_n⟩ _ _ _ (by assumption) (by first | assumption | exact ⟨by omega, by omega⟩) (by assumption) (by assumption)) rfl (List.Perm.refl _) ?_
        intro _ G26 _ hG26 q28
        refine match q28 with | ⟨e_29, _, e_30, _, e_31, hv27⟩ => ?_
        subst e_29
        subst e_30
        subst e_31
        refine match hv27 with | ⟨_, _, _, _, _, _, _, _, e_32, hp_hv27, hk_hv27, hm_hv27, hr_hv27, hok_hv27⟩ => ?_
        subst e_32
        refine W.mv ?_
        refine W.ok (ok_extract rfl rfl) ?_
        refine W.ok (ok_extract rfl rfl) ?_
        refine W.alloc zr101 (fun b33 => ?_)
        refine W.store (i := 0) (vs := [.int .i64 _, .int .i64 _, .slice _ _ _, .slice _ _ _, .string _, .bool _, .int .i64 _, .int .i64 _, .slice _ _ _, .slice _ _ _]) (L' := [.int .i64 _, .int .i64 _, .slice _ _ _, .slice _ _ _, .string _, .bool _, .int .i64 _, .int .i64 _, .slice _ _ _, .slice _ _ _]) ty101 rfl rfl rfl rfl rfl rfl rfl rfl ?_
        refine W.as ?_
        refine W.nil (thn_n ?_)
        refine WC.seq ?_
        refine WC.region ?_
        refine W.mv ?_
        refine W.mv ?_
        refine W.ok (ok_eqlB bo4 rfl rfl) ?_
        refine W.mv ?_
        refine W.sp 54 rfl (fun h53 => ?_) (fun h53 => ?_)
        · refine W.yes (dj := 54) rfl rfl h53 ?_
          refine W.ok (ok_loadB (i := 1) (vs := [.int .i64 _, .int .i64 _, .slice _ _ _, .slice _ _ _, .string _, .bool _, .int .i64 _, .int .i64 _, .slice _ _ _, .slice _ _ _]) ty101 rfl rfl rfl rfl (by simp)) ?_
          refine W.yes (dj := 54) rfl rfl h53 ?_
          refine W.ok (ok_loadB (i := 0) (vs := [.int .i64 _, .int .i64 _, .slice _ _ _, .slice _ _ _, .string _, .bool _, .int .i64 _, .int .i64 _, .slice _ _ _, .slice _ _ _]) ty101 rfl rfl rfl rfl (by simp)) ?_
          refine W.yes (dj := 54) rfl rfl h53 ?_
          refine W.qcall (nsame_fc ⟨_, _, _, _, _, _, _, _, rfl, (hp_hv19.mono hG26), (hk_hv19.mono hG26), (hm_hv19.mono hG26), (hr_hv19.mono hG26), hok_hv19⟩ ⟨_, _, _, _, _, _, _, _, rfl, hp_hv27, hk_hv27, hm_hv27, hr_hv27, hok_hv27⟩) rfl ?_
          refine W.ok (ok_pick_t rfl h53) ?_
          refine W.mv ?_
          refine W.sp 59 rfl (fun h57 => ?_) (fun h57 => ?_)
          · refine W.yes (dj := 59) rfl rfl h57 ?_
            refine W.qcall (awake22_fc) rfl ?_
            refine W.ok (ok_pick_t rfl h57) ?_
            refine W.as ?_
            refine W.nil (thn_n ?_)
            refine WC.ret ?_
            refine ⟨.inr rfl, [_], ⟨rfl, trivial⟩, [], List.nil_sublist _, ?_⟩
            rfl
          · simp at h57
        · simp at h53

theorem canatl_fc {G : GH} {cs_n : List Value} {n : Nd} (h_n : NodeC G cs_n n) (i : Nat) (k : Str) (nv : Int) (hi : i64 ((i : Nat) : Int)) (hv : i64 nv) :
    Fc Try.prog 11 [.agg (List.toArray cs_n), .int .i64 ((i : Nat) : Int), .string k.b, .int .i64 nv] G [] (fun v _ _ => v = .bool (true)) := by
  obtain ⟨pa_n, pc_n, ka_n, kc_n, ma_n, mc_n, ra_n, rc_n, rfl, hp_n, hk_n, hm_n, hr_n, hok_n⟩ := h_n
  have h1 := hp_n.len47
  have h2 := hk_n.len47
  have h3 := hm_n.len47
  have h4 := hr_n.len47
  have hk := k.le
  have hv1 := hv.1
  have hv2 := hv.2
  have hi1 := hi.1
  have hi2 := hi.2
  refine Fc.intro (rs := [.tmp 8]) cl11 Try.func11 rfl Try.ntmps11 rfl rfl (fun w0 => ?_)
  refine WC.seq ?_
  refine WC.region ?_
  refine W.box (L := [.int .i64 _, .int .i64 _, .slice _ _ _, .slice _ _ _, .string _, .bool _, .int .i64 _, .int .i64 _, .slice _ _ _, .slice _ _ _]) rfl rfl (fun b34 => ?_)
  refine W.as ?_
  refine W.nil (thn_n ?_)
  refine WC.seq ?_
  refine WC.seq ?_
  refine WC.region ?_
  refine W.ok (ok_loadB (i := 0) (vs := [.int .i64 _, .int .i64 _, .slice _ _ _, .slice _ _ _, .string _, .bool _, .int .i64 _, .int .i64 _, .slice _ _ _, .slice _ _ _]) ty101 rfl rfl rfl rfl (by simp)) ?_
  refine W.qcall (sound22_fc ⟨_, _, _, _, _, _, _, _, rfl, hp_n, hk_n, hm_n, hr_n, hok_n⟩) rfl ?_
  refine W.ok (ok_not rfl) ?_
  refine W.mv ?_
  refine W.sp 16 rfl (fun h15 => ?_) (fun h15 => ?_)
  · refine W.no (dj := 16) rfl rfl h15 ?_
    refine W.no (dj := 16) rfl rfl h15 ?_
    refine W.no (dj := 16) rfl rfl h15 ?_
    refine W.ok (ok_pick_t rfl h15) ?_
    refine W.mv ?_
    refine W.no (dj := 21) rfl rfl rfl ?_
    refine W.no (dj := 21) rfl rfl rfl ?_
    refine W.no (dj := 21) rfl rfl rfl ?_
    refine W.no (dj := 21) rfl rfl rfl ?_
    refine W.nou (dj := 25) rfl rfl ?_
    refine W.nou (dj := 25) rfl rfl ?_
    refine W.nou (dj := 25) rfl rfl ?_
    refine W.nou (dj := 25) rfl rfl ?_
    refine W.nou (dj := 25) rfl rfl ?_
    refine W.nou (dj := 25) rfl rfl ?_
    refine W.no (dj := 21) rfl rfl rfl ?_
    refine W.ok (ok_pick_t rfl rfl) ?_
    refine W.nil (thn_n ?_)
    refine WC.cond_t rfl rfl ?_
    refine WC.seq ?_
    refine WC.region ?_
    refine W.qcall (awake22_fc) rfl ?_
    refine W.as ?_
    refine W.nil (thn_n ?_)
    refine WC.ret (thn_r ?_)
    refine ⟨.inr rfl, [_], ⟨rfl, trivial⟩, [], List.nil_sublist _, ?_⟩
    rfl
  · have hsd : n.sound := by simpa using h15
    have hlg : n.light 2000 := hsd.1.2 0 (by simp)
    have hq2 := longN_len (l := n.pivots) (n := 0) (m := 2000) hlg.2.1
    have hq3 := hlg.2.1
    have hq4 := hlg.2.2.1
    have hz : n.pivots.length ≤ 1000000 ∧ n.kids.length ≤ 1000000 := ⟨by omega, by omega⟩
    refine W.yes (dj := 16) rfl rfl h15 ?_
    refine W.mv ?_
    refine W.yes (dj := 16) rfl rfl h15 ?_
    refine W.ok (ok_lenS st9 rfl) ?_
    refine W.yes (dj := 16) rfl rfl h15 ?_
    refine W.ok (ok_gtr rfl rfl) ?_
    refine W.ok (ok_pick_f rfl h15) ?_
    refine W.mv ?_
    refine W.sp 21 rfl (fun h19 => ?_) (fun h19 => ?_)
    · have p19 := of_decide_eq_true h19
      refine W.no (dj := 21) rfl rfl h19 ?_
      refine W.no (dj := 21) rfl rfl h19 ?_
      refine W.no (dj := 21) rfl rfl h19 ?_
      refine W.no (dj := 21) rfl rfl h19 ?_
      refine W.nou (dj := 25) rfl rfl ?_
      refine W.nou (dj := 25) rfl rfl ?_
      refine W.nou (dj := 25) rfl rfl ?_
      refine W.nou (dj := 25) rfl rfl ?_
      refine W.nou (dj := 25) rfl rfl ?_
      refine W.nou (dj := 25) rfl rfl ?_
      refine W.no (dj := 21) rfl rfl h19 ?_
      refine W.ok (ok_pick_t rfl h19) ?_
      refine W.nil (thn_n ?_)
      refine WC.cond_t rfl rfl ?_
      refine WC.seq ?_
      refine WC.region ?_
      refine W.qcall (awake22_fc) rfl ?_
      refine W.as ?_
      refine W.nil (thn_n ?_)
      refine WC.ret (thn_r ?_)
      refine ⟨.inr rfl, [_], ⟨rfl, trivial⟩, [], List.nil_sublist _, ?_⟩
      rfl
    · have p19 := of_decide_eq_false h19
      refine W.yes (dj := 21) rfl rfl h19 ?_
      refine W.ok (ok_fieldB fd101_1 rfl) ?_
      refine W.yes (dj := 21) rfl rfl h19 ?_
      refine W.ok (ok_loadB (i := 0) (vs := [.int .i64 _]) ty3 rfl rfl rfl rfl (by simp)) ?_
      refine W.yes (dj := 21) rfl rfl h19 ?_
      refine W.ok (ok_neq rfl rfl) ?_
      refine W.yes (dj := 21) rfl rfl h19 ?_
      refine W.mv ?_
      refine W.sp 25 rfl (fun h24 => ?_) (fun h24 => ?_)
      · have p24 := nd_t h24
        refine W.yes (dj := 25) rfl rfl h24 ?_
        refine W.ok (ok_fieldB fd101_2 rfl) ?_
        refine W.yes (dj := 25) rfl rfl h24 ?_
        refine W.ok (ok_loadB (i := 0) (vs := [.slice _ _ _]) ty61 rfl rfl rfl rfl (by simp)) ?_
        refine W.yes (dj := 25) rfl rfl h24 ?_
        refine W.ok (ok_fieldB fd101_3 rfl) ?_
        refine W.yes (dj := 25) rfl rfl h24 ?_
        refine W.ok (ok_loadB (i := 0) (vs := [.slice _ _ _]) ty47 rfl rfl rfl rfl (by simp)) ?_
        refine W.yes (dj := 25) rfl rfl h24 ?_
        refine W.qcall (rright_fc hp_n hk_n) rfl ?_
        refine W.yes (dj := 25) rfl rfl h24 ?_
        refine W.ok (ok_not rfl) ?_
        refine W.yes (dj := 21) rfl rfl h19 ?_
        refine W.ok (ok_pick_t rfl h24) ?_
        refine W.ok (ok_pick_f rfl h19) ?_
        refine W.nil (thn_n ?_)
        refine WC.cond (b := _) rfl (fun h31 => ?_) (fun h31 => ?_)
        · refine WC.seq ?_
          refine WC.region ?_
          refine W.qcall (awake22_fc) rfl ?_
          refine W.as ?_
          refine W.nil (thn_n ?_)
          refine WC.ret (thn_r ?_)
          refine ⟨.inr rfl, [_], ⟨rfl, trivial⟩, [], List.nil_sublist _, ?_⟩
          rfl
        · refine WC.skip (thn_n ?_)
          refine WC.seq ?_
          refine WC.region ?_
          refine W.ok (ok_loadB (i := 0) (vs := [.int .i64 _, .int .i64 _, .slice _ _ _, .slice _ _ _, .string _, .bool _, .int .i64 _, .int .i64 _, .slice _ _ _, .slice _ _ _]) ty101 rfl rfl rfl rfl (by simp)) ?_
          refine W.mv ?_
          refine W.mv ?_
          refine W.mv ?_
          refine W.call (Mp := []) (canat_fc ⟨_, _, _, _, _, _, _, _, rfl, hp_n, hk_n, hm_n, hr_n, hok_n⟩ _ _ _ (by assumption) (by first | assumption | exact ⟨by omega, by omega⟩) (by assumption)) rfl (List.Perm.refl _) ?_
          intro _ G35 _ hG35 q37
          refine match q37 with | ⟨e_38, _, e_39, _, e_40, hv36⟩ => ?_
          subst e_38
          subst e_39
          subst e_40
          refine match hv36 with | ⟨_, _, _, _, _, _, _, _, e_41, hp_hv36, hk_hv36, hm_hv36, hr_hv36, hok_hv36⟩ => ?_
          subst e_41
          refine W.mv ?_
          refine W.ok (ok_extract rfl rfl) ?_
          refine W.ok (ok_extract rfl rfl) ?_
          refine W.alloc zr101 (fun b42 => ?_)
          refine W.store (i := 0) (vs := [.int .i64 _, .int .i64 _, .slice _ _ _, .slice _ _ _, .string _, .bool _, .int .i64 _, .int .i64 _, .slice _ _ _, .slice _ _ _]) (L' := [.int .i64 _, .int .i64 _, .slice _ _ _, .slice _ _ _, .string _, .bool _, .int .i64 _, .int .i64 _, .slice _ _ _, .slice _ _ _]) ty101 rfl rfl rfl rfl rfl rfl rfl rfl ?_
          refine W.as ?_
          refine W.nil (thn_n ?_)
          refine WC.seq ?_
          refine WC.region ?_
          refine W.ok (ok_loadB (i := 1) (vs := [.int .i64 _, .int .i64 _, .slice _ _ _, .slice _ _ _, .string _, .bool _, .int .i64 _, .int .i64 _, .slice _ _ _, .slice _ _ _]) ty101 rfl rfl rfl rfl (by simp)) ?_
          refine W.mv ?_
          refine W.mv ?_
          refine W.mv ?_
          refine W.call (Mp := []) (ranat_fc ⟨_, _, _, _, _, _, _, _, rfl, (hp_n.mono hG35), (hk_n.mono hG35), (hm_n.mono hG35), (hr_n.mono hG35), hok_n⟩ _ _ _ (by assumption) (by first | assumption | exact ⟨by omega, by omega⟩) (by assumption)) rfl (List.Perm.refl _) ?_
          intro _ G43 _ hG43 q45
          refine match q45 with | ⟨e_46, _, e_47, _, e_48, hv44⟩ => ?_
          subst e_46
          subst e_47
          subst e_48
          refine match hv44 with | ⟨_, _, _, _, _, _, _, _, e_49, hp_hv44, hk_hv44, hm_hv44, hr_hv44, hok_hv44⟩ => ?_
          subst e_49
          refine W.mv ?_
          refine W.ok (ok_extract rfl rfl) ?_
          refine W.ok (ok_extract rfl rfl) ?_
          refine W.alloc zr101 (fun b50 => ?_)
          refine W.store (i := 0) (vs := [.int .i64 _, .int .i64 _, .slice _ _ _, .slice _ _ _, .string _, .bool _, .int .i64 _, .int .i64 _, .slice _ _ _, .slice _ _ _]) (L' := [.int .i64 _, .int .i64 _, .slice _ _ _, .slice _ _ _, .string _, .bool _, .int .i64 _, .int .i64 _, .slice _ _ _, .slice _ _ _]) ty101 rfl rfl rfl rfl rfl rfl rfl rfl ?_
          refine W.as ?_
          refine W.nil (thn_n ?_)
          refine WC.seq ?_
          refine WC.region ?_
          refine W.mv ?_
          refine W.mv ?_
          refine W.ok (ok_eqlB bo4 rfl rfl) ?_
          refine W.mv ?_
          refine W.sp 54 rfl (fun h53 => ?_) (fun h53 => ?_)
          · refine W.yes (dj := 54) rfl rfl h53 ?_
            refine W.ok (ok_loadB (i := 1) (vs := [.int .i64 _, .int .i64 _, .slice _ _ _, .slice _ _ _, .string _, .bool _, .int .i64 _, .int .i64 _, .slice _ _ _, .slice _ _ _]) ty101 rfl rfl rfl rfl (by simp)) ?_
            refine W.yes (dj := 54) rfl rfl h53 ?_
            refine W.ok (ok_loadB (i := 0) (vs := [.int .i64 _, .int .i64 _, .slice _ _ _, .slice _ _ _, .string _, .bool _, .int .i64 _, .int .i64 _, .slice _ _ _, .slice _ _ _]) ty101 rfl rfl rfl rfl (by simp)) ?_
            refine W.yes (dj := 54) rfl rfl h53 ?_
            refine W.qcall (nsame_fc ⟨_, _, _, _, _, _, _, _, rfl, (hp_hv36.mono hG43), (hk_hv36.mono hG43), (hm_hv36.mono hG43), (hr_hv36.mono hG43), hok_hv36⟩ ⟨_, _, _, _, _, _, _, _, rfl, hp_hv44, hk_hv44, hm_hv44, hr_hv44, hok_hv44⟩) rfl ?_
            refine W.ok (ok_pick_t rfl h53) ?_
            refine W.mv ?_
            refine W.sp 59 rfl (fun h57 => ?_) (fun h57 => ?_)
            · refine W.yes (dj := 59) rfl rfl h57 ?_
              refine W.qcall (awake22_fc) rfl ?_
              refine W.ok (ok_pick_t rfl h57) ?_
              refine W.as ?_
              refine W.nil (thn_n ?_)
              refine WC.ret ?_
              refine ⟨.inr rfl, [_], ⟨rfl, trivial⟩, [], List.nil_sublist _, ?_⟩
              rfl
            · simp at h57
          · simp at h53
      · have p24 := nd_f h24
        refine W.no (dj := 25) rfl rfl h24 ?_
        refine W.no (dj := 25) rfl rfl h24 ?_
        refine W.no (dj := 25) rfl rfl h24 ?_
        refine W.no (dj := 25) rfl rfl h24 ?_
        refine W.no (dj := 25) rfl rfl h24 ?_
        refine W.no (dj := 25) rfl rfl h24 ?_
        refine W.yes (dj := 21) rfl rfl h19 ?_
        refine W.ok (ok_pick_f rfl h24) ?_
        refine W.ok (ok_pick_f rfl h19) ?_
        refine W.nil (thn_n ?_)
        refine WC.cond_f rfl rfl ?_
        refine WC.skip (thn_n ?_)
        refine WC.seq ?_
        refine WC.region ?_
        refine W.ok (ok_loadB (i := 0) (vs := [.int .i64 _, .int .i64 _, .slice _ _ _, .slice _ _ _, .string _, .bool _, .int .i64 _, .int .i64 _, .slice _ _ _, .slice _ _ _]) ty101 rfl rfl rfl rfl (by simp)) ?_
        refine W.mv ?_
        refine W.mv ?_
        refine W.mv ?_
        refine W.call (Mp := []) (canat_fc ⟨_, _, _, _, _, _, _, _, rfl, hp_n, hk_n, hm_n, hr_n, hok_n⟩ _ _ _ (by assumption) (by first | assumption | exact ⟨by omega, by omega⟩) (by assumption)) rfl (List.Perm.refl _) ?_
        intro _ G51 _ hG51 q53
        refine match q53 with | ⟨e_54, _, e_55, _, e_56, hv52⟩ => ?_
        subst e_54
        subst e_55
        subst e_56
        refine match hv52 with | ⟨_, _, _, _, _, _, _, _, e_57, hp_hv52, hk_hv52, hm_hv52, hr_hv52, hok_hv52⟩ => ?_
        subst e_57
        refine W.mv ?_
        refine W.ok (ok_extract rfl rfl) ?_
        refine W.ok (ok_extract rfl rfl) ?_
        refine W.alloc zr101 (fun b58 => ?_)
        refine W.store (i := 0) (vs := [.int .i64 _, .int .i64 _, .slice _ _ _, .slice _ _ _, .string _, .bool _, .int .i64 _, .int .i64 _, .slice _ _ _, .slice _ _ _]) (L' := [.int .i64 _, .int .i64 _, .slice _ _ _, .slice _ _ _, .string _, .bool _, .int .i64 _, .int .i64 _, .slice _ _ _, .slice _ _ _]) ty101 rfl rfl rfl rfl rfl rfl rfl rfl ?_
        refine W.as ?_
        refine W.nil (thn_n ?_)
        refine WC.seq ?_
        refine WC.region ?_
        refine W.ok (ok_loadB (i := 1) (vs := [.int .i64 _, .int .i64 _, .slice _ _ _, .slice _ _ _, .string _, .bool _, .int .i64 _, .int .i64 _, .slice _ _ _, .slice _ _ _]) ty101 rfl rfl rfl rfl (by simp)) ?_
        refine W.mv ?_
        refine W.mv ?_
        refine W.mv ?_
        refine W.call (Mp := []) (ranat_fc ⟨_, _, _, _, _, _, _, _, rfl, (hp_n.mono hG51), (hk_n.mono hG51), (hm_n.mono hG51), (hr_n.mono hG51), hok_n⟩ _ _ _ (by assumption) (by first | assumption | exact ⟨by omega, by omega⟩) (by assumption)) rfl (List.Perm.refl _) ?_
        intro _ G59 _ hG59 q61
        refine match q61 with | ⟨e_62, _, e_63, _, e_64, hv60⟩ => ?_
        subst e_62
        subst e_63
        subst e_64
        refine match hv60 with | ⟨_, _, _, _, _, _, _, _, e_65, hp_hv60, hk_hv60, hm_hv60, hr_hv60, hok_hv60⟩ => ?_
        subst e_65
        refine W.mv ?_
        refine W.ok (ok_extract rfl rfl) ?_
        refine W.ok (ok_extract rfl rfl) ?_
        refine W.alloc zr101 (fun b66 => ?_)
        refine W.store (i := 0) (vs := [.int .i64 _, .int .i64 _, .slice _ _ _, .slice _ _ _, .string _, .bool _, .int .i64 _, .int .i64 _, .slice _ _ _, .slice _ _ _]) (L' := [.int .i64 _, .int .i64 _, .slice _ _ _, .slice _ _ _, .string _, .bool _, .int .i64 _, .int .i64 _, .slice _ _ _, .slice _ _ _]) ty101 rfl rfl rfl rfl rfl rfl rfl rfl ?_
        refine W.as ?_
        refine W.nil (thn_n ?_)
        refine WC.seq ?_
        refine WC.region ?_
        refine W.mv ?_
        refine W.mv ?_
        refine W.ok (ok_eqlB bo4 rfl rfl) ?_
        refine W.mv ?_
        refine W.sp 54 rfl (fun h53 => ?_) (fun h53 => ?_)
        · refine W.yes (dj := 54) rfl rfl h53 ?_
          refine W.ok (ok_loadB (i := 1) (vs := [.int .i64 _, .int .i64 _, .slice _ _ _, .slice _ _ _, .string _, .bool _, .int .i64 _, .int .i64 _, .slice _ _ _, .slice _ _ _]) ty101 rfl rfl rfl rfl (by simp)) ?_
          refine W.yes (dj := 54) rfl rfl h53 ?_
          refine W.ok (ok_loadB (i := 0) (vs := [.int .i64 _, .int .i64 _, .slice _ _ _, .slice _ _ _, .string _, .bool _, .int .i64 _, .int .i64 _, .slice _ _ _, .slice _ _ _]) ty101 rfl rfl rfl rfl (by simp)) ?_
          refine W.yes (dj := 54) rfl rfl h53 ?_
          refine W.qcall (nsame_fc ⟨_, _, _, _, _, _, _, _, rfl, (hp_hv52.mono hG59), (hk_hv52.mono hG59), (hm_hv52.mono hG59), (hr_hv52.mono hG59), hok_hv52⟩ ⟨_, _, _, _, _, _, _, _, rfl, hp_hv60, hk_hv60, hm_hv60, hr_hv60, hok_hv60⟩) rfl ?_
          refine W.ok (ok_pick_t rfl h53) ?_
          refine W.mv ?_
          refine W.sp 59 rfl (fun h57 => ?_) (fun h57 => ?_)
          · refine W.yes (dj := 59) rfl rfl h57 ?_
            refine W.qcall (awake22_fc) rfl ?_
            refine W.ok (ok_pick_t rfl h57) ?_
            refine W.as ?_
            refine W.nil (thn_n ?_)
            refine WC.ret ?_
            refine ⟨.inr rfl, [_], ⟨rfl, trivial⟩, [], List.nil_sublist _, ?_⟩
            rfl
          · simp at h57
        · simp at h53

theorem cleaveAdopts_fc {G : GH} {cs_n : List Value} {n : Nd} (h_n : NodeC G cs_n n) (i : Int) (k : Str) (nv : Int) (hi : i64 i) (hv : i64 nv) :
    Fc Try.prog 11 [.agg (List.toArray cs_n), .int .i64 i, .string k.b, .int .i64 nv] G [] (fun v _ _ => v = .bool (true)) := by
  by_cases hn : i < 0
  · exact caneg_fc h_n i k nv hi hv hn
  · obtain ⟨m, rfl⟩ : ∃ m : Nat, i = (m : Int) := ⟨i.toNat, by omega⟩
    exact canatl_fc h_n m k nv hi hv
end Go.Proofs.Ytipdjeemjiimbaa
