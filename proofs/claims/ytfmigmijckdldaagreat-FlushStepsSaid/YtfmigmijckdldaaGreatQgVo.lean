/- Walks of what a cycle does with a kid. -/
import Derived.Test.YtfmigmijckdldaaGreatQgVp
set_option maxRecDepth 100000
set_option maxHeartbeats 1600000
set_option linter.unusedVariables false
set_option linter.unusedSimpArgs false
set_option linter.unnecessarySimpa false
namespace Go.Proofs.YtfmigmijckdldaaGreat
open Go Go.Fw Go.RowKit
attribute [local irreducible] Ok W WC
theorem fdecide_fc {G : GH} (cf : Int) (cl : Int) (cb : Int) (cs : Int) (cr : Int) {cs_p : List Value} {p : Nd} (h_p : NodeC G cs_p p) {cs_k : List Value} {k : Nd} (h_k : NodeC G cs_k k) (i : Int) (hq : PourPre cb p k) (hi : i64 i) (hko : KidOf p k i) (hms : MsgsR p.msgs) (hkl : p.kids.length = p.pivots.length + 1) :
    Fc Tryz.prog 66 [.agg #[iV cf, iV cl, iV cb, iV cs, iV cr], .agg (List.toArray cs_p), .agg (List.toArray cs_k), iV i] G [] (fun v _ _ => v = iV (decideN (⟨cf, cl, cb, cs, cr⟩ : Cfg) p k i)) := by
 obtain ⟨_, _, _, _, _, _, _, _, rfl, hp_p, hk_p, hm_p, hr_p, hok_p⟩ := h_p
 obtain ⟨_, _, _, _, _, _, _, _, rfl, hp_k, hk_k, hm_k, hr_k, hok_k⟩ := h_k
 refine Fc.go [.tmp 8] Tryz.func66 Tryz.ntmps66 rfl (fun w0 => (g9 2 ?_))
 refine W.box (L := [iV _, iV _, iV _, iV _, iV _]) rfl rfl (fun b1 => (W.box (L := [iV _, iV _, lV _ _ _, lV _ _ _, sV _, .bool _, iV _, iV _, lV _ _ _, lV _ _ _]) rfl rfl (fun b2 => (W.box (L := [iV _, iV _, lV _ _ _, lV _ _ _, sV _, .bool _, iV _, iV _, lV _ _ _, lV _ _ _]) rfl rfl (fun b3 => (g9 13 ?_))))))
 refine W.qcall (nfull_fc cf cl cb cs cr (n := p) (nk9 hp_p hk_p hm_p hr_p hok_p)) rfl (g9 2 ?_)
 refine WC.cond rfl (fun h12 => ?_) (fun h12 => ?_)
 ·refine g9 12 ?_
  refine W.sd 17 (fun h16 p16 => ?_) (fun h16 p16 => ?_)
  ·refine g9 5 ?_
   refine W.qcall (nfull_fc cf cl cb cs cr (n := k) (nk9 hp_k hk_k hm_k hr_k hok_k)) rfl (g9 4 ?_)
   refine WC.cond rfl (fun h20 => ?_) (fun h20 => ?_)
   ·refine g9 10 ?_
    refine congrArg (Value.int .i64) ?_
    rw [dec_full (c := (⟨cf, cl, cb, cs, cr⟩ : Cfg)) om9 h20]
    rw [if_pos h12]
   refine g9 6 ?_
   refine W.qcall (pcount_fc cf cl cb cs cr (p := p) (k := k) (nk9 hp_p hk_p hm_p hr_p hok_p) (nk9 hp_k hk_k hm_k hr_k hok_k) i hq.hb hq.hr hq.hpv hq.hpm hq.hkm hq.hkr hi hq.hsz) rfl (g9 4 ?_)
   refine WC.cd (fun h29 p29 => ?_) (fun h29 p29 => ?_)
   ·refine g9 9 ?_
    refine congrArg (Value.int .i64) ?_
    exact (dec_pour (c := (⟨cf, cl, cb, cs, cr⟩ : Cfg)) (fun h => by rw [h20] at h; exact absurd h.2 (by simp)) (show 0 < countN cl cb p k i by omega)).symm
   refine g9 8 ?_
   refine WC.cd (fun h33 p33 => ?_) (fun h33 p33 => ?_)
   ·refine g9 9 ?_
    refine congrArg (Value.int .i64) ?_
    exact (dec_down (c := (⟨cf, cl, cb, cs, cr⟩ : Cfg)) (fun h => by rw [h20] at h; exact absurd h.2 (by simp)) (show ¬ 0 < countN cl cb p k i by omega) om9).symm
   refine g9 6 ?_
   refine W.qcall (needs_fc cf cl cb cs cr (p := p) (k := k) (nk9 hp_p hk_p hm_p hr_p hok_p) (nk9 hp_k hk_k hm_k hr_k hok_k) i hq.hb hq.hr hq.hpv hq.hpm hq.hkm hq.hkr hi hq.hsz) rfl (g9 3 ?_)
   refine WC.cond rfl (fun h39 => ?_) (fun h39 => ?_)
   ·have hwt : 0 < (forN p.pivots p.msgs i).length := (odt h39).2.1
    refine g9 10 ?_
    refine congrArg (Value.int .i64) ?_
    rw [dec_need (c := (⟨cf, cl, cb, cs, cr⟩ : Cfg)) (show ¬ 0 < countN cl cb p k i by omega) om9 hwt]
    rw [if_pos h12]
   have hwt : ¬ 0 < (forN p.pivots p.msgs i).length := fun hh => odf h39 ⟨hko, hh, om9⟩
   refine g9 10 ?_
   refine congrArg (Value.int .i64) ?_
   exact (dec_end (c := (⟨cf, cl, cb, cs, cr⟩ : Cfg)) (show ¬ 0 < countN cl cb p k i by omega) om9 hwt).symm
  refine g9 14 ?_
  refine W.qcall (pcount_fc cf cl cb cs cr (p := p) (k := k) (nk9 hp_p hk_p hm_p hr_p hok_p) (nk9 hp_k hk_k hm_k hr_k hok_k) i hq.hb hq.hr hq.hpv hq.hpm hq.hkm hq.hkr hi hq.hsz) rfl (g9 4 ?_)
  refine WC.cd (fun h29 p29 => ?_) (fun h29 p29 => ?_)
  ·refine g9 9 ?_
   refine congrArg (Value.int .i64) ?_
   exact (dec_pour (c := (⟨cf, cl, cb, cs, cr⟩ : Cfg)) (fun h => by omega) (show 0 < countN cl cb p k i by omega)).symm
  refine g9 8 ?_
  refine WC.cd (fun h33 p33 => ?_) (fun h33 p33 => ?_)
  ·refine g9 9 ?_
   refine congrArg (Value.int .i64) ?_
   exact (dec_down (c := (⟨cf, cl, cb, cs, cr⟩ : Cfg)) (fun h => by omega) (show ¬ 0 < countN cl cb p k i by omega) om9).symm
  refine g9 6 ?_
  refine W.qcall (needs_fc cf cl cb cs cr (p := p) (k := k) (nk9 hp_p hk_p hm_p hr_p hok_p) (nk9 hp_k hk_k hm_k hr_k hok_k) i hq.hb hq.hr hq.hpv hq.hpm hq.hkm hq.hkr hi hq.hsz) rfl (g9 3 ?_)
  refine WC.cond rfl (fun h39 => ?_) (fun h39 => ?_)
  ·have hwt : 0 < (forN p.pivots p.msgs i).length := (odt h39).2.1
   refine g9 10 ?_
   refine congrArg (Value.int .i64) ?_
   rw [dec_need (c := (⟨cf, cl, cb, cs, cr⟩ : Cfg)) (show ¬ 0 < countN cl cb p k i by omega) om9 hwt]
   rw [if_pos h12]
  have hwt : ¬ 0 < (forN p.pivots p.msgs i).length := fun hh => odf h39 ⟨hko, hh, om9⟩
  refine g9 10 ?_
  refine congrArg (Value.int .i64) ?_
  exact (dec_end (c := (⟨cf, cl, cb, cs, cr⟩ : Cfg)) (show ¬ 0 < countN cl cb p k i by omega) om9 hwt).symm
 refine g9 10 ?_
 refine W.sd 17 (fun h16 p16 => ?_) (fun h16 p16 => ?_)
 ·refine g9 5 ?_
  refine W.qcall (nfull_fc cf cl cb cs cr (n := k) (nk9 hp_k hk_k hm_k hr_k hok_k)) rfl (g9 4 ?_)
  refine WC.cond rfl (fun h20 => ?_) (fun h20 => ?_)
  ·refine g9 10 ?_
   refine congrArg (Value.int .i64) ?_
   rw [dec_full (c := (⟨cf, cl, cb, cs, cr⟩ : Cfg)) om9 h20]
   rw [if_neg (by rw [h12] <;> simp)]
  refine g9 6 ?_
  refine W.qcall (pcount_fc cf cl cb cs cr (p := p) (k := k) (nk9 hp_p hk_p hm_p hr_p hok_p) (nk9 hp_k hk_k hm_k hr_k hok_k) i hq.hb hq.hr hq.hpv hq.hpm hq.hkm hq.hkr hi hq.hsz) rfl (g9 4 ?_)
  refine WC.cd (fun h29 p29 => ?_) (fun h29 p29 => ?_)
  ·refine g9 9 ?_
   refine congrArg (Value.int .i64) ?_
   exact (dec_pour (c := (⟨cf, cl, cb, cs, cr⟩ : Cfg)) (fun h => by rw [h20] at h; exact absurd h.2 (by simp)) (show 0 < countN cl cb p k i by omega)).symm
  refine g9 8 ?_
  refine WC.cd (fun h33 p33 => ?_) (fun h33 p33 => ?_)
  ·refine g9 9 ?_
   refine congrArg (Value.int .i64) ?_
   exact (dec_down (c := (⟨cf, cl, cb, cs, cr⟩ : Cfg)) (fun h => by rw [h20] at h; exact absurd h.2 (by simp)) (show ¬ 0 < countN cl cb p k i by omega) om9).symm
  refine g9 6 ?_
  refine W.qcall (needs_fc cf cl cb cs cr (p := p) (k := k) (nk9 hp_p hk_p hm_p hr_p hok_p) (nk9 hp_k hk_k hm_k hr_k hok_k) i hq.hb hq.hr hq.hpv hq.hpm hq.hkm hq.hkr hi hq.hsz) rfl (g9 3 ?_)
  refine WC.cond rfl (fun h39 => ?_) (fun h39 => ?_)
  ·have hwt : 0 < (forN p.pivots p.msgs i).length := (odt h39).2.1
   refine g9 10 ?_
   refine congrArg (Value.int .i64) ?_
   rw [dec_need (c := (⟨cf, cl, cb, cs, cr⟩ : Cfg)) (show ¬ 0 < countN cl cb p k i by omega) om9 hwt]
   rw [if_neg (by rw [h12] <;> simp)]
  have hwt : ¬ 0 < (forN p.pivots p.msgs i).length := fun hh => odf h39 ⟨hko, hh, om9⟩
  refine g9 10 ?_
  refine congrArg (Value.int .i64) ?_
  exact (dec_end (c := (⟨cf, cl, cb, cs, cr⟩ : Cfg)) (show ¬ 0 < countN cl cb p k i by omega) om9 hwt).symm
 refine g9 14 ?_
 refine W.qcall (pcount_fc cf cl cb cs cr (p := p) (k := k) (nk9 hp_p hk_p hm_p hr_p hok_p) (nk9 hp_k hk_k hm_k hr_k hok_k) i hq.hb hq.hr hq.hpv hq.hpm hq.hkm hq.hkr hi hq.hsz) rfl (g9 4 ?_)
 refine WC.cd (fun h29 p29 => ?_) (fun h29 p29 => ?_)
 ·refine g9 9 ?_
  refine congrArg (Value.int .i64) ?_
  exact (dec_pour (c := (⟨cf, cl, cb, cs, cr⟩ : Cfg)) (fun h => by omega) (show 0 < countN cl cb p k i by omega)).symm
 refine g9 8 ?_
 refine WC.cd (fun h33 p33 => ?_) (fun h33 p33 => ?_)
 ·refine g9 9 ?_
  refine congrArg (Value.int .i64) ?_
  exact (dec_down (c := (⟨cf, cl, cb, cs, cr⟩ : Cfg)) (fun h => by omega) (show ¬ 0 < countN cl cb p k i by omega) om9).symm
 refine g9 6 ?_
 refine W.qcall (needs_fc cf cl cb cs cr (p := p) (k := k) (nk9 hp_p hk_p hm_p hr_p hok_p) (nk9 hp_k hk_k hm_k hr_k hok_k) i hq.hb hq.hr hq.hpv hq.hpm hq.hkm hq.hkr hi hq.hsz) rfl (g9 3 ?_)
 refine WC.cond rfl (fun h39 => ?_) (fun h39 => ?_)
 ·have hwt : 0 < (forN p.pivots p.msgs i).length := (odt h39).2.1
  refine g9 10 ?_
  refine congrArg (Value.int .i64) ?_
  rw [dec_need (c := (⟨cf, cl, cb, cs, cr⟩ : Cfg)) (show ¬ 0 < countN cl cb p k i by omega) om9 hwt]
  rw [if_neg (by rw [h12] <;> simp)]
 have hwt : ¬ 0 < (forN p.pivots p.msgs i).length := fun hh => odf h39 ⟨hko, hh, om9⟩
 refine g9 10 ?_
 refine congrArg (Value.int .i64) ?_
 exact (dec_end (c := (⟨cf, cl, cb, cs, cr⟩ : Cfg)) (show ¬ 0 < countN cl cb p k i by omega) om9 hwt).symm

theorem rdecide_fc {G : GH} (cf : Int) (cl : Int) (cb : Int) (cs : Int) (cr : Int) {cs_p : List Value} {p : Nd} (h_p : NodeC G cs_p p) {cs_k : List Value} {k : Nd} (h_k : NodeC G cs_k k) (i : Int) (hq : PourPre cb p k) (hi : i64 i) (hko : KidOf p k i) (hms : MsgsR p.msgs) (hkl : p.kids.length = p.pivots.length + 1) :
    Fc Tryz.prog 35 [.agg #[iV cf, iV cl, iV cb, iV cs, iV cr], .agg (List.toArray cs_p), .agg (List.toArray cs_k), iV i] G [] (fun v _ _ => v = iV (decideN (⟨cf, cl, cb, cs, cr⟩ : Cfg) p k i)) := by
 obtain ⟨_, _, _, _, _, _, _, _, rfl, hp_p, hk_p, hm_p, hr_p, hok_p⟩ := h_p
 obtain ⟨_, _, _, _, _, _, _, _, rfl, hp_k, hk_k, hm_k, hr_k, hok_k⟩ := h_k
 have hpk : ∀ m ∈ p.msgs, m.key.b.size < 140737488355328 := fun m h => by have := (msgR_key (hq.hpm m h)).1; omega
 have hpn := pour_n cl cb p k i
 refine Fc.go [.tmp 8] Tryz.func35 Tryz.ntmps35 rfl (fun w0 => (g9 2 ?_))
 refine W.box (L := [iV _, iV _, iV _, iV _, iV _]) rfl rfl (fun b4 => (W.box (L := [iV _, iV _, lV _ _ _, lV _ _ _, sV _, .bool _, iV _, iV _, lV _ _ _, lV _ _ _]) rfl rfl (fun b5 => (W.box (L := [iV _, iV _, lV _ _ _, lV _ _ _, sV _, .bool _, iV _, iV _, lV _ _ _, lV _ _ _]) rfl rfl (fun b6 => (g9 9 ?_))))))
 refine W.cM (rpour_fc cf cl cb cs cr (p := p) (k := k) (nk9 hp_p hk_p hm_p hr_p hok_p) (nk9 hp_k hk_k hm_k hr_k hok_k) i hq.hb hq.hr hq.hpv hq.hpm hq.hkm hq.hkr hi hq.hsz hms hkl) rfl (fun _ _ _ _ _ _ _ _ _ _ _ _ _ _ _ _ G7 hG7 hp_hv8 hk_hv8 hm_hv8 hr_hv8 hok_hv8 hp_hv9 hk_hv9 hm_hv9 hr_hv9 hok_hv9 => (g9 4 ?_))
 refine W.alloc zr53 (fun b16 => (W.alloc zr53 (fun b17 => (g9 12 ?_))))
 refine W.cS (rfor_fc (hp_p.mono hG7) (hm_p.mono hG7) i hpk hi) rfl (fun sa_hv19 sc_hv19 G18 hG18 hv19 => (g9 15 ?_))
 refine W.qcall (rfull_fc cf cl cb cs cr (n := p) (nm9 lec hp_p hk_p hm_p hr_p hok_p)) rfl (g9 2 ?_)
 refine WC.cond rfl (fun h33 => ?_) (fun h33 => ?_)
 ·refine g9 11 ?_
  refine W.sd 37 (fun h36 p36 => ?_) (fun h36 p36 => ?_)
  ·refine g9 5 ?_
   refine W.qcall (rfull_fc cf cl cb cs cr (n := k) (nm9 lec hp_k hk_k hm_k hr_k hok_k)) rfl (g9 3 ?_)
   refine WC.cond rfl (fun h40 => ?_) (fun h40 => ?_)
   ·refine g9 9 ?_
    refine congrArg (Value.int .i64) ?_
    rw [dec_full (c := (⟨cf, cl, cb, cs, cr⟩ : Cfg)) om9 h40]
    rw [if_pos h33]
   refine g9 9 ?_
   refine WC.cd (fun h44 p44 => ?_) (fun h44 p44 => ?_)
   ·refine g9 8 ?_
    refine congrArg (Value.int .i64) ?_
    exact (dec_pour (c := (⟨cf, cl, cb, cs, cr⟩ : Cfg)) (fun h => by rw [h40] at h; exact absurd h.2 (by simp)) (show 0 < countN cl cb p k i by omega)).symm
   refine g9 10 ?_
   refine WC.cd (fun h47 p47 => ?_) (fun h47 p47 => ?_)
   ·refine g9 8 ?_
    refine congrArg (Value.int .i64) ?_
    exact (dec_down (c := (⟨cf, cl, cb, cs, cr⟩ : Cfg)) (fun h => by rw [h40] at h; exact absurd h.2 (by simp)) (show ¬ 0 < countN cl cb p k i by omega) om9).symm
   refine g9 8 ?_
   refine WC.cd (fun h30 p30 => ?_) (fun h30 p30 => ?_)
   ·have hwt : 0 < (forN p.pivots p.msgs i).length := by omega
    refine g9 9 ?_
    refine congrArg (Value.int .i64) ?_
    rw [dec_need (c := (⟨cf, cl, cb, cs, cr⟩ : Cfg)) (show ¬ 0 < countN cl cb p k i by omega) om9 hwt]
    rw [if_pos h33]
   have hwt : ¬ 0 < (forN p.pivots p.msgs i).length := by omega
   refine g9 9 ?_
   refine congrArg (Value.int .i64) ?_
   exact (dec_end (c := (⟨cf, cl, cb, cs, cr⟩ : Cfg)) (show ¬ 0 < countN cl cb p k i by omega) om9 hwt).symm
  refine g9 16 ?_
  refine WC.cd (fun h44 p44 => ?_) (fun h44 p44 => ?_)
  ·refine g9 8 ?_
   refine congrArg (Value.int .i64) ?_
   exact (dec_pour (c := (⟨cf, cl, cb, cs, cr⟩ : Cfg)) (fun h => by omega) (show 0 < countN cl cb p k i by omega)).symm
  refine g9 10 ?_
  refine WC.cd (fun h47 p47 => ?_) (fun h47 p47 => ?_)
  ·refine g9 8 ?_
   refine congrArg (Value.int .i64) ?_
   exact (dec_down (c := (⟨cf, cl, cb, cs, cr⟩ : Cfg)) (fun h => by omega) (show ¬ 0 < countN cl cb p k i by omega) om9).symm
  refine g9 8 ?_
  refine WC.cd (fun h30 p30 => ?_) (fun h30 p30 => ?_)
  ·have hwt : 0 < (forN p.pivots p.msgs i).length := by omega
   refine g9 9 ?_
   refine congrArg (Value.int .i64) ?_
   rw [dec_need (c := (⟨cf, cl, cb, cs, cr⟩ : Cfg)) (show ¬ 0 < countN cl cb p k i by omega) om9 hwt]
   rw [if_pos h33]
  have hwt : ¬ 0 < (forN p.pivots p.msgs i).length := by omega
  refine g9 9 ?_
  refine congrArg (Value.int .i64) ?_
  exact (dec_end (c := (⟨cf, cl, cb, cs, cr⟩ : Cfg)) (show ¬ 0 < countN cl cb p k i by omega) om9 hwt).symm
 refine g9 9 ?_
 refine W.sd 37 (fun h36 p36 => ?_) (fun h36 p36 => ?_)
 ·refine g9 5 ?_
  refine W.qcall (rfull_fc cf cl cb cs cr (n := k) (nm9 lec hp_k hk_k hm_k hr_k hok_k)) rfl (g9 3 ?_)
  refine WC.cond rfl (fun h40 => ?_) (fun h40 => ?_)
  ·refine g9 9 ?_
   refine congrArg (Value.int .i64) ?_
   rw [dec_full (c := (⟨cf, cl, cb, cs, cr⟩ : Cfg)) om9 h40]
   rw [if_neg (by rw [h33] <;> simp)]
  refine g9 9 ?_
  refine WC.cd (fun h44 p44 => ?_) (fun h44 p44 => ?_)
  ·refine g9 8 ?_
   refine congrArg (Value.int .i64) ?_
   exact (dec_pour (c := (⟨cf, cl, cb, cs, cr⟩ : Cfg)) (fun h => by rw [h40] at h; exact absurd h.2 (by simp)) (show 0 < countN cl cb p k i by omega)).symm
  refine g9 10 ?_
  refine WC.cd (fun h47 p47 => ?_) (fun h47 p47 => ?_)
  ·refine g9 8 ?_
   refine congrArg (Value.int .i64) ?_
   exact (dec_down (c := (⟨cf, cl, cb, cs, cr⟩ : Cfg)) (fun h => by rw [h40] at h; exact absurd h.2 (by simp)) (show ¬ 0 < countN cl cb p k i by omega) om9).symm
  refine g9 8 ?_
  refine WC.cd (fun h30 p30 => ?_) (fun h30 p30 => ?_)
  ·have hwt : 0 < (forN p.pivots p.msgs i).length := by omega
   refine g9 9 ?_
   refine congrArg (Value.int .i64) ?_
   rw [dec_need (c := (⟨cf, cl, cb, cs, cr⟩ : Cfg)) (show ¬ 0 < countN cl cb p k i by omega) om9 hwt]
   rw [if_neg (by rw [h33] <;> simp)]
  have hwt : ¬ 0 < (forN p.pivots p.msgs i).length := by omega
  refine g9 9 ?_
  refine congrArg (Value.int .i64) ?_
  exact (dec_end (c := (⟨cf, cl, cb, cs, cr⟩ : Cfg)) (show ¬ 0 < countN cl cb p k i by omega) om9 hwt).symm
 refine g9 16 ?_
 refine WC.cd (fun h44 p44 => ?_) (fun h44 p44 => ?_)
 ·refine g9 8 ?_
  refine congrArg (Value.int .i64) ?_
  exact (dec_pour (c := (⟨cf, cl, cb, cs, cr⟩ : Cfg)) (fun h => by omega) (show 0 < countN cl cb p k i by omega)).symm
 refine g9 10 ?_
 refine WC.cd (fun h47 p47 => ?_) (fun h47 p47 => ?_)
 ·refine g9 8 ?_
  refine congrArg (Value.int .i64) ?_
  exact (dec_down (c := (⟨cf, cl, cb, cs, cr⟩ : Cfg)) (fun h => by omega) (show ¬ 0 < countN cl cb p k i by omega) om9).symm
 refine g9 8 ?_
 refine WC.cd (fun h30 p30 => ?_) (fun h30 p30 => ?_)
 ·have hwt : 0 < (forN p.pivots p.msgs i).length := by omega
  refine g9 9 ?_
  refine congrArg (Value.int .i64) ?_
  rw [dec_need (c := (⟨cf, cl, cb, cs, cr⟩ : Cfg)) (show ¬ 0 < countN cl cb p k i by omega) om9 hwt]
  rw [if_neg (by rw [h33] <;> simp)]
 have hwt : ¬ 0 < (forN p.pivots p.msgs i).length := by omega
 refine g9 9 ?_
 refine congrArg (Value.int .i64) ?_
 exact (dec_end (c := (⟨cf, cl, cb, cs, cr⟩ : Cfg)) (show ¬ 0 < countN cl cb p k i by omega) om9 hwt).symm

end Go.Proofs.YtfmigmijckdldaaGreat
namespace Go.Proofs.YtfmigmijckdldaaGreat
open Go Go.Fw Go.RowKit
theorem mk156 : mapIK Tryz.prog 156 = some 4 := by kernel_rfl
theorem mz4 : zvK Tryz.prog 4 = some (.bool false) := by kernel_rfl

end Go.Proofs.YtfmigmijckdldaaGreat
namespace Go.Proofs.YtfmigmijckdldaaGreat
open Go Go.Fw Go.RowKit
attribute [local irreducible] Ok W WC
theorem pour_fc {G : GH} (cf : Int) (cl : Int) (cb : Int) (cs : Int) (cr : Int) {cs_p : List Value} {p : Nd} (h_p : NodeC G cs_p p) {cs_k : List Value} {k : Nd} (h_k : NodeC G cs_k k) (i : Int) (hb : 0 ≤ cb ∧ cb ≤ 9223372036854775807) (hr : rising p.pivots = true) (hpv : ∀ q ∈ p.pivots, q.b.size ≤ 16) (hpm : ∀ m ∈ p.msgs, m.R) (hkm : ∀ m ∈ k.msgs, m.key.b.size ≤ 16 ∧ m.val.b.size ≤ 16) (hkr : PairsR k.rows) (hi : i64 i) (hsz : k.msgs.length + p.msgs.length ≤ 100000 ∧ k.rows.length ≤ 100000) :
    Fc Tryz.prog 68 [.agg #[iV cf, iV cl, iV cb, iV cs, iV cr], .agg (List.toArray cs_p), .agg (List.toArray cs_k), iV i] G [] (fun v G' M' => M' = [] ∧ ∃ r : Nd × Nd × Nat, r = pourN cl cb p k i ∧ ∃ u0 u1, v = .tuple #[.agg (List.toArray u0), .agg (List.toArray u1), nt9 r.2.2] ∧ NodeC G' u0 (r.1) ∧ NodeC G' u1 (r.2.1)) := by
 obtain ⟨pa_p, pc_p, ka_p, kc_p, ma_p, mc_p, ra_p, rc_p, rfl, hp_p, hk_p, hm_p, hr_p, hok_p⟩ := h_p
 obtain ⟨pa_k, pc_k, ka_k, kc_k, ma_k, mc_k, ra_k, rc_k, rfl, hp_k, hk_k, hm_k, hr_k, hok_k⟩ := h_k
 have hpk : ∀ m ∈ p.msgs, m.key.b.size < 140737488355328 := fun m h => by have := (msgR_key (hpm m h)).1; omega
 have hlm := hm_p.len47
 have hfl := for_len p.pivots p.msgs i
 have htl : ((forN p.pivots p.msgs i).take (movedN cl cb k (forN p.pivots p.msgs i)).2).length ≤ (forN p.pivots p.msgs i).length := by rw [List.length_take]; omega
 refine Fc.go [.cell 8 53, .cell 9 53, .tmp 10] Tryz.func68 Tryz.ntmps68 rfl (fun w0 => (g9 2 ?_))
 refine W.box (L := [iV _, iV _, iV _, iV _, iV _]) rfl rfl (fun b1 => (W.box (L := [iV _, iV _, lV _ _ _, lV _ _ _, sV _, .bool _, iV _, iV _, lV _ _ _, lV _ _ _]) rfl rfl (fun b2 => (W.box (L := [iV _, iV _, lV _ _ _, lV _ _ _, sV _, .bool _, iV _, iV _, lV _ _ _, lV _ _ _]) rfl rfl (fun b3 => (W.alloc zr53 (fun b4 => (W.alloc zr53 (fun b5 => (g9 9 ?_))))))))))
 refine W.qcall (pright_fc (p := p) (k := k) (nk9 hp_p hk_p hm_p hr_p hok_p) (nk9 hp_k hk_k hm_k hr_k hok_k) i) rfl (g9 3 ?_)
 refine WC.cond rfl (fun h24 => ?_) (fun h24 => ?_)
 ·refine WC.seq (WC.dw ((((sr9.k9.k9).k9).cons _).cons _) (d9 [0, 2] ?_))
  refine WD.a1 1 rfl (W.cN (ncopy_fc (a := p) (nk9 hp_p hk_p hm_p hr_p hok_p)) rfl (fun _ _ _ _ _ _ _ _ G6 hG6 hp_hv7 hk_hv7 hm_hv7 hr_hv7 hok_hv7 => (W.nn (WD.a1 3 rfl (W.cN (ncopy_fc (a := k) (nm9 hG6 hp_k hk_k hm_k hr_k hok_k)) rfl (fun _ _ _ _ _ _ _ _ G12 hG12 hp_hv13 hk_hv13 hm_hv13 hr_hv13 hok_hv13 => (W.nn (d9 [4, 5, 6] ?_))))))))
  refine g9 5 ?_
  refine ⟨rfl, _, (pour_f0 (by simpa using h24)).symm, _, _, rfl, ?_, ?_⟩
  · exact (nm9 hG12 hp_hv7 hk_hv7 hm_hv7 hr_hv7 hok_p)
  exact (nk9 hp_hv13 hk_hv13 hm_hv13 hr_hv13 hok_k)
 have hko : KidOf p k i := by simpa using h24
 refine g9 8 ?_
 refine W.call (Mp := []) (moved_fc cf cl cb cs cr (p := p) (k := k) (nk9 hp_p hk_p hm_p hr_p hok_p) (nk9 hp_k hk_k hm_k hr_k hok_k) i hb hr hpv hpm hkm hkr hi hsz) rfl pr9 ?_
 intro _ G18 _ hG18 q21
 refine match q21 with | ⟨e_22, _, e_23, _, _, e_24, hv19, hv20⟩ => ?_
 subst e_22
 subst e_23
 subst e_24
 refine match hv19 with | ⟨pa_hv19, pc_hv19, ka_hv19, kc_hv19, ma_hv19, mc_hv19, ra_hv19, rc_hv19, e_25, hp_hv19, hk_hv19, hm_hv19, hr_hv19, hok_hv19⟩ => ?_
 subst e_25
 have q27 := hv20.form
 refine match q27 with | ⟨sa_hv20, sc_hv20, e_26⟩ => ?_
 subst e_26
 refine g9 3 ?_
 refine W.alloc zr53 (fun b28 => (g9 12 ?_))
 refine WC.cd (fun h39 p39 => ?_) (fun h39 p39 => ?_)
 ·refine WC.seq (WC.dw (((((sr9.k9.k9).k9).cons _).cons _).k9) (d9 [0, 2] ?_))
  refine WD.a1 1 rfl (W.cN (ncopy_fc (a := p) (nm9 hG18 hp_p hk_p hm_p hr_p hok_p)) rfl (fun _ _ _ _ _ _ _ _ G29 hG29 hp_hv30 hk_hv30 hm_hv30 hr_hv30 hok_hv30 => (W.nn (WD.a1 3 rfl (W.cN (ncopy_fc (a := k) (nm9 lec hp_k hk_k hm_k hr_k hok_k)) rfl (fun _ _ _ _ _ _ _ _ G35 hG35 hp_hv36 hk_hv36 hm_hv36 hr_hv36 hok_hv36 => (W.nn (d9 [4, 5, 6] ?_))))))))
  refine g9 5 ?_
  refine ⟨rfl, _, (pour_f1 hko om9).symm, _, _, rfl, ?_, ?_⟩
  · exact (nm9 hG35 hp_hv30 hk_hv30 hm_hv30 hr_hv30 hok_p)
  exact (nk9 hp_hv36 hk_hv36 hm_hv36 hr_hv36 hok_k)
 refine g9 4 ?_
 refine W.makeMap (V := vBool) (fun bm41 hm42 => (W.perm (pmC (Ms := [(bm41, Obj.map #[] 0)]) (pmC (Ms := [(bm41, Obj.map #[] 0)]) (pmC (Ms := [(bm41, Obj.map #[] 0)]) (pmC (Ms := [(bm41, Obj.map #[] 0)]) (pmC (Ms := [(bm41, Obj.map #[] 0)]) (pmC (Ms := [(bm41, Obj.map #[] 0)]) pr9)))))).symm (g9 12 ?_)))
 refine WC.loop (X := (Nat) × MH) (fun y => [(47, nt9 y.1), (5, pt9 b2), (8, pt9 b4), (9, pt9 b5), (11, pt9 b28), (3, iV i), (12, lV sa_hv20 (((forN p.pivots p.msgs i).take (movedN cl cb k (forN p.pivots p.msgs i)).2)).length sc_hv20), (45, lV sa_hv20 (((forN p.pivots p.msgs i).take (movedN cl cb k (forN p.pivots p.msgs i)).2)).length sc_hv20), (46, nt9 ((((forN p.pivots p.msgs i).take (movedN cl cb k (forN p.pivots p.msgs i)).2)).length)), (13, .map (some bm41))]) (fun y G Ml => Ml = ((b28, ce9 53 (ndl ((movedN cl cb k (forN p.pivots p.msgs i)).1) pa_hv19 pc_hv19 ka_hv19 kc_hv19 ma_hv19 mc_hv19 ra_hv19 rc_hv19)) :: ((b5, ce9 53 nz9) :: ((b4, ce9 53 nz9) :: ((b3, ce9 53 (ndl k pa_k pc_k ka_k kc_k ma_k mc_k ra_k rc_k)) :: ((b2, ce9 53 (ndl p pa_p pc_p ka_p kc_p ma_p mc_p ra_p rc_p)) :: ((b1, ce9 23 [iV cf, iV cl, iV cb, iV cs, iV cr]) :: (y.2 ++ []))))))) ∧ MpR vBool bm41 G ((goneN (((forN p.pivots p.msgs i).take (movedN cl cb k (forN p.pivots p.msgs i)).2).take y.1))) y.2 ∧ y.1 ≤ ((forN p.pivots p.msgs i).take (movedN cl cb k (forN p.pivots p.msgs i)).2).length) (fun y => ((forN p.pivots p.msgs i).take (movedN cl cb k (forN p.pivots p.msgs i)).2).length - y.1) (0, [(bm41, Obj.map #[] 0)]) hs9 ?_ ?_
 ·exact ⟨rfl, (by exact hm42), Nat.zero_le _⟩
 rintro ⟨y, M_13⟩ gG43 G43 _ hG43 ⟨rfl, ho_13, hy⟩
 try dsimp only at ho_13 hy
 refine WC.fr (f := setL gG43 [(47, nt9 y), (5, pt9 b2), (8, pt9 b4), (9, pt9 b5), (11, pt9 b28), (3, iV i), (12, lV sa_hv20 (((forN p.pivots p.msgs i).take (movedN cl cb k (forN p.pivots p.msgs i)).2)).length sc_hv20), (45, lV sa_hv20 (((forN p.pivots p.msgs i).take (movedN cl cb k (forN p.pivots p.msgs i)).2)).length sc_hv20), (46, nt9 ((((forN p.pivots p.msgs i).take (movedN cl cb k (forN p.pivots p.msgs i)).2)).length)), (13, .map (some bm41))]) rfl (g9 6 ?_)
 refine WC.cd (fun h48 p48 => ?_) (fun h48 p48 => ?_)
 ·refine g9 6 ?_
  refine (hv20.mono hG43).a2 (i := y) om9 (fun he44 hm45 => (g9 2 ?_))
  refine W.alloc zr90 (fun b49 => (g9 7 ?_))
  refine W.mapUp (V := vBool) (k := ((((forN p.pivots p.msgs i).take (movedN cl cb k (forN p.pivots p.msgs i)).2))[y]).stamp) mk156 rfl rfl rfl ho_13 (pmC (pmC (pmC (pmC (pmC (pmC (pmC pr9))))))) rfl (fun Ms50 hm51 => (W.perm (pmC (pmC (pmC (pmC (pmC (pmC (pmC pr9))))))).symm (g9 6 ?_)))
  refine W.sub (sr9.cons _) (g9 2 ?_)
  exact ⟨Le.rfl, (y + 1, Ms50), hs9, ⟨rfl, (by rw [gone_succ om9]; exact hm51), om9⟩, om9⟩
 refine g9 6 ?_
 have hm52 := ho_13
 rw [List.take_of_length_le (by omega : ((forN p.pivots p.msgs i).take (movedN cl cb k (forN p.pivots p.msgs i)).2).length ≤ y)] at hm52
 refine g9 2 ?_
 refine W.cN (ncopy_fc (a := p) (nm9 lec hp_p hk_p hm_p hr_p hok_p)) rfl (fun pa_hv54 pc_hv54 ka_hv54 kc_hv54 _ _ ra_hv54 rc_hv54 G53 hG53 hp_hv54 hk_hv54 hm_hv54 hr_hv54 hok_hv54 => (W.alloc zr53 (fun b59 => (g9 19 ?_))))
 have hN60 : NmR 53 90 b59 G53 ({ p with msgs := [] }) ((b59, ce9 53 [iV (p).slot, iV (p).level, lV pa_hv54 ((p).pivots).length pc_hv54, lV ka_hv54 ((p).kids).length kc_hv54, sV (p).high.b, .bool (p).top, iV (p).right, iV (p).seen, lV none 0 0, lV ra_hv54 ((p).rows).length rc_hv54]) :: []) := ⟨_, _, _, _, _, _, _, _, rfl, hp_hv54, hk_hv54, OwnR.nil, hr_hv54, hok_p⟩
 have hN60 := NmR.cast hN60 (n' := { p with msgs := restN p.pivots i ((forN p.pivots p.msgs i).take (movedN cl cb k (forN p.pivots p.msgs i)).2) (p.msgs.take 0) }) rfl
 refine WC.perm (M' := ((b28, ce9 53 (ndl ((movedN cl cb k (forN p.pivots p.msgs i)).1) pa_hv19 pc_hv19 ka_hv19 kc_hv19 ma_hv19 mc_hv19 ra_hv19 rc_hv19)) :: ((b5, ce9 53 nz9) :: ((b4, ce9 53 nz9) :: ((b3, ce9 53 (ndl k pa_k pc_k ka_k kc_k ma_k mc_k ra_k rc_k)) :: ((b2, ce9 53 (ndl p pa_p pc_p ka_p kc_p ma_p mc_p ra_p rc_p)) :: ((b1, ce9 23 [iV cf, iV cl, iV cb, iV cs, iV cr]) :: (((b59, ce9 53 [iV (p).slot, iV (p).level, lV pa_hv54 ((p).pivots).length pc_hv54, lV ka_hv54 ((p).kids).length kc_hv54, sV (p).high.b, .bool (p).top, iV (p).right, iV (p).seen, lV none 0 0, lV ra_hv54 ((p).rows).length rc_hv54]) :: []) ++ (M_13 ++ []))))))))) ((pmC (pmC (pmC (pmC (pmC (pmC pr9)))))).symm.trans pr9) ?_
 refine WC.loop (X := (Nat) × MH) (fun q => [(61, nt9 q.1), (13, .map (some bm41)), (5, pt9 b2), (8, pt9 b4), (9, pt9 b5), (11, pt9 b28), (3, iV i), (12, lV sa_hv20 (((forN p.pivots p.msgs i).take (movedN cl cb k (forN p.pivots p.msgs i)).2)).length sc_hv20), (59, lV ma_p p.msgs.length mc_p), (60, nt9 ((p.msgs).length)), (16, pt9 b59)]) (fun q G Ml => Ml = ((b28, ce9 53 (ndl ((movedN cl cb k (forN p.pivots p.msgs i)).1) pa_hv19 pc_hv19 ka_hv19 kc_hv19 ma_hv19 mc_hv19 ra_hv19 rc_hv19)) :: ((b5, ce9 53 nz9) :: ((b4, ce9 53 nz9) :: ((b3, ce9 53 (ndl k pa_k pc_k ka_k kc_k ma_k mc_k ra_k rc_k)) :: ((b2, ce9 53 (ndl p pa_p pc_p ka_p kc_p ma_p mc_p ra_p rc_p)) :: ((b1, ce9 23 [iV cf, iV cl, iV cb, iV cs, iV cr]) :: (q.2 ++ (M_13 ++ [])))))))) ∧ NmR 53 90 b59 G ({ p with msgs := restN p.pivots i ((forN p.pivots p.msgs i).take (movedN cl cb k (forN p.pivots p.msgs i)).2) (p.msgs.take q.1) }) q.2 ∧ q.1 ≤ p.msgs.length) (fun q => p.msgs.length - q.1) (0, ((b59, ce9 53 [iV (p).slot, iV (p).level, lV pa_hv54 ((p).pivots).length pc_hv54, lV ka_hv54 ((p).kids).length kc_hv54, sV (p).high.b, .bool (p).top, iV (p).right, iV (p).seen, lV none 0 0, lV ra_hv54 ((p).rows).length rc_hv54]) :: [])) hs9 ?_ ?_
 ·exact ⟨rfl, (by exact hN60), Nat.zero_le _⟩
 rintro ⟨q, M_16⟩ gG61 G61 _ hG61 ⟨rfl, ho_16, hq⟩
 try dsimp only at ho_16 hq
 have hrl := rest_len p.pivots i ((forN p.pivots p.msgs i).take (movedN cl cb k (forN p.pivots p.msgs i)).2) p.msgs q
 refine WC.fr (f := setL gG61 [(61, nt9 q), (13, .map (some bm41)), (5, pt9 b2), (8, pt9 b4), (9, pt9 b5), (11, pt9 b28), (3, iV i), (12, lV sa_hv20 (((forN p.pivots p.msgs i).take (movedN cl cb k (forN p.pivots p.msgs i)).2)).length sc_hv20), (59, lV ma_p p.msgs.length mc_p), (60, nt9 ((p.msgs).length)), (16, pt9 b59)]) rfl (g9 6 ?_)
 refine WC.cd (fun h62 p62 => ?_) (fun h62 p62 => ?_)
 ·refine g9 6 ?_
  refine (hm_p.mono (((hG18.trans hG43).trans hG53).trans hG61)).a2 (i := q) om9 (fun he62 hm63 => (g9 2 ?_))
  refine W.alloc zr90 (fun b67 => (g9 8 ?_))
  refine W.lookO (V := vBool) mk156 mz4 rfl rfl rfl (MpR.mono lec hm52) (pmC (pmC (pmC (pmC (pmC (pmC (pmC (pmA pr9)))))))) (fun v68 hv69 => ?_)
  have ehv69 := hv69
  subst ehv69
  refine g9 10 ?_
  refine W.sp 72 rfl (fun h71 => ?_) (fun h71 => ?_)
  ·have hg : (p.msgs[q]'om9).stamp ∈ ((forN p.pivots p.msgs i).take (movedN cl cb k (forN p.pivots p.msgs i)).2).map Msg.stamp := by have h9 := h71; rw [gone_has] at h9; simpa using h9
   refine g9 9 ?_
   refine WC.cd (fun h75 p75 => ?_) (fun h75 p75 => ?_)
   ·refine WC.dw ((((((sr9.k9.k9).k9).k9).k9).k9).cons _) (d9 [1, 2, 3] ?_)
    refine WD.any [0, 4] (by kernel_rfl) rfl ⟨WD.ap ?_, WD.ap ?_, trivial⟩
    ·refine g9 1 ?_
     refine W.nn (WD.a1 4 rfl (W.qcall (brange_fc (hp_p.mono lec) _ hi) rfl (W.nn (WD.a1 5 rfl (W.qcall (without_fc _ _ _ _ _ _ _ _ _ (hpk _ (List.getElem_mem (by omega : q < p.msgs.length)))) rfl (W.nn (d9 [6, 7, 8, 9, 10] ?_)))))))
     refine g9 7 ?_
     refine WC.cond rfl (fun h83_1 => ?_) (fun h83_1 => ?_)
     ·obtain ⟨pau70, pcu70, kau70, kcu70, vmu70, rau70, rcu70, Mmu70, eMu70, hpu70, hku70, hmu70, hru70, hoku70⟩ := ho_16
      subst eMu70
      have hfu70 := hmu70.form
      refine match hfu70 with | ⟨mau70, mcu70, e_71⟩ => ?_
      subst e_71
      dsimp only at hpu70 hku70 hmu70 hru70
      refine WC.perm (M' := ((b59, ce9 53 [iV p.slot, iV p.level, lV pau70 p.pivots.length pcu70, lV kau70 p.kids.length kcu70, sV p.high.b, .bool p.top, iV p.right, iV p.seen, lV mau70 (restN p.pivots i ((forN p.pivots p.msgs i).take (movedN cl cb k (forN p.pivots p.msgs i)).2) (p.msgs.take q)).length mcu70, lV rau70 p.rows.length rcu70]) :: ((b67, ce9 90 [iV ((withoutN (p.msgs[q]'om9) (rangeN p.pivots i)).1.stamp), iV ((withoutN (p.msgs[q]'om9) (rangeN p.pivots i)).1.kind), sV ((withoutN (p.msgs[q]'om9) (rangeN p.pivots i)).1.key).b, sV ((withoutN (p.msgs[q]'om9) (rangeN p.pivots i)).1.hi).b, .bool ((withoutN (p.msgs[q]'om9) (rangeN p.pivots i)).1.opn), sV ((withoutN (p.msgs[q]'om9) (rangeN p.pivots i)).1.val).b]) :: ((b28, ce9 53 (ndl ((movedN cl cb k (forN p.pivots p.msgs i)).1) pa_hv19 pc_hv19 ka_hv19 kc_hv19 ma_hv19 mc_hv19 ra_hv19 rc_hv19)) :: ((b5, ce9 53 nz9) :: ((b4, ce9 53 nz9) :: ((b3, ce9 53 (ndl k pa_k pc_k ka_k kc_k ma_k mc_k ra_k rc_k)) :: ((b2, ce9 53 (ndl p pa_p pc_p ka_p kc_p ma_p mc_p ra_p rc_p)) :: ((b1, ce9 23 [iV cf, iV cl, iV cb, iV cs, iV cr]) :: (Mmu70 ++ (M_13 ++ []))))))))))) (pmD (pmD (pmD (pmD (pmD (pmD (pmD pr9))))))).symm (g9 4 ?_)
      refine W.lit (e := eMsg) (l := [(withoutN (p.msgs[q]'om9) (rangeN p.pivots i)).1]) (css := [[iV _, iV _, sV _, sV _, .bool _, sV _]]) sl51 ty90 zr90 rfl rfl rfl rfl rfl rfl ⟨⟨rfl, without_ok hm63⟩, trivial⟩ (fun bl72 G72 hG72 hv72 => (W.app (e := eMsg) sl51 ty90 zr90 rfl by90 rfl rfl ((hmu70.mono hG72)) (hv72) (pmC (pmC (pmC (pmC (pmC (pmC (pmC (pmC pr9)))))))) (by show (List.length _ + 1) * 72 ≤ _; omega) (fun v73 Ms74 ho75 => (W.perm (pmC (pmC (pmC (pmC (pmC (pmC (pmC (pmC pr9)))))))).symm ?_))))
      have q79 := ho75.form
      refine match q79 with | ⟨sa76, sc77, e_78⟩ => ?_
      subst e_78
      refine g9 5 ?_
      have hN80 : NmR 53 90 b59 G72 ({ p with msgs := (restN p.pivots i ((forN p.pivots p.msgs i).take (movedN cl cb k (forN p.pivots p.msgs i)).2) (p.msgs.take q) ++ [(withoutN (p.msgs[q]'om9) (rangeN p.pivots i)).1]) }) ((b59, ce9 53 [iV p.slot, iV p.level, lV pau70 p.pivots.length pcu70, lV kau70 p.kids.length kcu70, sV p.high.b, .bool p.top, iV p.right, iV p.seen, lV sa76 ((restN p.pivots i ((forN p.pivots p.msgs i).take (movedN cl cb k (forN p.pivots p.msgs i)).2) (p.msgs.take q) ++ [(withoutN (p.msgs[q]'om9) (rangeN p.pivots i)).1])).length sc77, lV rau70 p.rows.length rcu70]) :: Ms74) := ⟨_, _, _, _, _, _, _, _, rfl, (hpu70.mono hG72), (hku70.mono hG72), ho75, (hru70.mono hG72), hok_p⟩
      have hN80 := NmR.cast hN80 (restN_t om9 (left_w hg p75 h83_1))
      refine WC.perm (M' := ((b67, ce9 90 [iV ((withoutN (p.msgs[q]'om9) (rangeN p.pivots i)).1.stamp), iV ((withoutN (p.msgs[q]'om9) (rangeN p.pivots i)).1.kind), sV ((withoutN (p.msgs[q]'om9) (rangeN p.pivots i)).1.key).b, sV ((withoutN (p.msgs[q]'om9) (rangeN p.pivots i)).1.hi).b, .bool ((withoutN (p.msgs[q]'om9) (rangeN p.pivots i)).1.opn), sV ((withoutN (p.msgs[q]'om9) (rangeN p.pivots i)).1.val).b]) :: ((b28, ce9 53 (ndl ((movedN cl cb k (forN p.pivots p.msgs i)).1) pa_hv19 pc_hv19 ka_hv19 kc_hv19 ma_hv19 mc_hv19 ra_hv19 rc_hv19)) :: ((b5, ce9 53 nz9) :: ((b4, ce9 53 nz9) :: ((b3, ce9 53 (ndl k pa_k pc_k ka_k kc_k ma_k mc_k ra_k rc_k)) :: ((b2, ce9 53 (ndl p pa_p pc_p ka_p kc_p ma_p mc_p ra_p rc_p)) :: ((b1, ce9 23 [iV cf, iV cl, iV cb, iV cs, iV cr]) :: (((b59, ce9 53 [iV p.slot, iV p.level, lV pau70 p.pivots.length pcu70, lV kau70 p.kids.length kcu70, sV p.high.b, .bool p.top, iV p.right, iV p.seen, lV sa76 ((restN p.pivots i ((forN p.pivots p.msgs i).take (movedN cl cb k (forN p.pivots p.msgs i)).2) (p.msgs.take q) ++ [(withoutN (p.msgs[q]'om9) (rangeN p.pivots i)).1])).length sc77, lV rau70 p.rows.length rcu70]) :: Ms74) ++ (M_13 ++ [])))))))))) ((pmC (pmC (pmC (pmC (pmC (pmC (pmC pr9))))))).symm.trans (((pmC (pmC (pmC (pmC (pmC (pmC (pmC pr9))))))).cons _).trans pr9)) (g9 3 ?_)
      refine W.sub (sr9.cons _) (g9 2 ?_)
      exact ⟨hG72, (q + 1, ((b59, ce9 53 [iV p.slot, iV p.level, lV pau70 p.pivots.length pcu70, lV kau70 p.kids.length kcu70, sV p.high.b, .bool p.top, iV p.right, iV p.seen, lV sa76 ((restN p.pivots i ((forN p.pivots p.msgs i).take (movedN cl cb k (forN p.pivots p.msgs i)).2) (p.msgs.take q) ++ [(withoutN (p.msgs[q]'om9) (rangeN p.pivots i)).1])).length sc77, lV rau70 p.rows.length rcu70]) :: Ms74)), hs9, ⟨rfl, (by exact hN80), om9⟩, om9⟩
     refine g9 6 ?_
     refine W.sub (sr9.cons _) (g9 2 ?_)
     exact ⟨Le.rfl, (q + 1, M_16), hs9, ⟨rfl, (by exact NmR.cast ho_16 (restN_f om9 (left_n hg (fun hh => absurd (h83_1.symm.trans hh.2) (by simp))))), om9⟩, om9⟩
    refine W.qcall (brange_fc (hp_p.mono lec) _ hi) rfl (W.nn (WD.a1 0 rfl (g9 1 ?_)))
    refine W.nn (WD.a1 5 rfl (W.qcall (without_fc _ _ _ _ _ _ _ _ _ (hpk _ (List.getElem_mem (by omega : q < p.msgs.length)))) rfl (W.nn (d9 [6, 7, 8, 9, 10] ?_))))
    refine g9 7 ?_
    refine WC.cond rfl (fun h83_1 => ?_) (fun h83_1 => ?_)
    ·obtain ⟨pau81, pcu81, kau81, kcu81, vmu81, rau81, rcu81, Mmu81, eMu81, hpu81, hku81, hmu81, hru81, hoku81⟩ := ho_16
     subst eMu81
     have hfu81 := hmu81.form
     refine match hfu81 with | ⟨mau81, mcu81, e_82⟩ => ?_
     subst e_82
     dsimp only at hpu81 hku81 hmu81 hru81
     refine WC.perm (M' := ((b59, ce9 53 [iV p.slot, iV p.level, lV pau81 p.pivots.length pcu81, lV kau81 p.kids.length kcu81, sV p.high.b, .bool p.top, iV p.right, iV p.seen, lV mau81 (restN p.pivots i ((forN p.pivots p.msgs i).take (movedN cl cb k (forN p.pivots p.msgs i)).2) (p.msgs.take q)).length mcu81, lV rau81 p.rows.length rcu81]) :: ((b67, ce9 90 [iV ((withoutN (p.msgs[q]'om9) (rangeN p.pivots i)).1.stamp), iV ((withoutN (p.msgs[q]'om9) (rangeN p.pivots i)).1.kind), sV ((withoutN (p.msgs[q]'om9) (rangeN p.pivots i)).1.key).b, sV ((withoutN (p.msgs[q]'om9) (rangeN p.pivots i)).1.hi).b, .bool ((withoutN (p.msgs[q]'om9) (rangeN p.pivots i)).1.opn), sV ((withoutN (p.msgs[q]'om9) (rangeN p.pivots i)).1.val).b]) :: ((b28, ce9 53 (ndl ((movedN cl cb k (forN p.pivots p.msgs i)).1) pa_hv19 pc_hv19 ka_hv19 kc_hv19 ma_hv19 mc_hv19 ra_hv19 rc_hv19)) :: ((b5, ce9 53 nz9) :: ((b4, ce9 53 nz9) :: ((b3, ce9 53 (ndl k pa_k pc_k ka_k kc_k ma_k mc_k ra_k rc_k)) :: ((b2, ce9 53 (ndl p pa_p pc_p ka_p kc_p ma_p mc_p ra_p rc_p)) :: ((b1, ce9 23 [iV cf, iV cl, iV cb, iV cs, iV cr]) :: (Mmu81 ++ (M_13 ++ []))))))))))) (pmD (pmD (pmD (pmD (pmD (pmD (pmD pr9))))))).symm (g9 4 ?_)
     refine W.lit (e := eMsg) (l := [(withoutN (p.msgs[q]'om9) (rangeN p.pivots i)).1]) (css := [[iV _, iV _, sV _, sV _, .bool _, sV _]]) sl51 ty90 zr90 rfl rfl rfl rfl rfl rfl ⟨⟨rfl, without_ok hm63⟩, trivial⟩ (fun bl83 G83 hG83 hv83 => (W.app (e := eMsg) sl51 ty90 zr90 rfl by90 rfl rfl ((hmu81.mono hG83)) (hv83) (pmC (pmC (pmC (pmC (pmC (pmC (pmC (pmC pr9)))))))) (by show (List.length _ + 1) * 72 ≤ _; omega) (fun v84 Ms85 ho86 => (W.perm (pmC (pmC (pmC (pmC (pmC (pmC (pmC (pmC pr9)))))))).symm ?_))))
     have q90 := ho86.form
     refine match q90 with | ⟨sa87, sc88, e_89⟩ => ?_
     subst e_89
     refine g9 5 ?_
     have hN91 : NmR 53 90 b59 G83 ({ p with msgs := (restN p.pivots i ((forN p.pivots p.msgs i).take (movedN cl cb k (forN p.pivots p.msgs i)).2) (p.msgs.take q) ++ [(withoutN (p.msgs[q]'om9) (rangeN p.pivots i)).1]) }) ((b59, ce9 53 [iV p.slot, iV p.level, lV pau81 p.pivots.length pcu81, lV kau81 p.kids.length kcu81, sV p.high.b, .bool p.top, iV p.right, iV p.seen, lV sa87 ((restN p.pivots i ((forN p.pivots p.msgs i).take (movedN cl cb k (forN p.pivots p.msgs i)).2) (p.msgs.take q) ++ [(withoutN (p.msgs[q]'om9) (rangeN p.pivots i)).1])).length sc88, lV rau81 p.rows.length rcu81]) :: Ms85) := ⟨_, _, _, _, _, _, _, _, rfl, (hpu81.mono hG83), (hku81.mono hG83), ho86, (hru81.mono hG83), hok_p⟩
     have hN91 := NmR.cast hN91 (restN_t om9 (left_w hg p75 h83_1))
     refine WC.perm (M' := ((b67, ce9 90 [iV ((withoutN (p.msgs[q]'om9) (rangeN p.pivots i)).1.stamp), iV ((withoutN (p.msgs[q]'om9) (rangeN p.pivots i)).1.kind), sV ((withoutN (p.msgs[q]'om9) (rangeN p.pivots i)).1.key).b, sV ((withoutN (p.msgs[q]'om9) (rangeN p.pivots i)).1.hi).b, .bool ((withoutN (p.msgs[q]'om9) (rangeN p.pivots i)).1.opn), sV ((withoutN (p.msgs[q]'om9) (rangeN p.pivots i)).1.val).b]) :: ((b28, ce9 53 (ndl ((movedN cl cb k (forN p.pivots p.msgs i)).1) pa_hv19 pc_hv19 ka_hv19 kc_hv19 ma_hv19 mc_hv19 ra_hv19 rc_hv19)) :: ((b5, ce9 53 nz9) :: ((b4, ce9 53 nz9) :: ((b3, ce9 53 (ndl k pa_k pc_k ka_k kc_k ma_k mc_k ra_k rc_k)) :: ((b2, ce9 53 (ndl p pa_p pc_p ka_p kc_p ma_p mc_p ra_p rc_p)) :: ((b1, ce9 23 [iV cf, iV cl, iV cb, iV cs, iV cr]) :: (((b59, ce9 53 [iV p.slot, iV p.level, lV pau81 p.pivots.length pcu81, lV kau81 p.kids.length kcu81, sV p.high.b, .bool p.top, iV p.right, iV p.seen, lV sa87 ((restN p.pivots i ((forN p.pivots p.msgs i).take (movedN cl cb k (forN p.pivots p.msgs i)).2) (p.msgs.take q) ++ [(withoutN (p.msgs[q]'om9) (rangeN p.pivots i)).1])).length sc88, lV rau81 p.rows.length rcu81]) :: Ms85) ++ (M_13 ++ [])))))))))) ((pmC (pmC (pmC (pmC (pmC (pmC (pmC pr9))))))).symm.trans (((pmC (pmC (pmC (pmC (pmC (pmC (pmC pr9))))))).cons _).trans pr9)) (g9 3 ?_)
     refine W.sub (sr9.cons _) (g9 2 ?_)
     exact ⟨hG83, (q + 1, ((b59, ce9 53 [iV p.slot, iV p.level, lV pau81 p.pivots.length pcu81, lV kau81 p.kids.length kcu81, sV p.high.b, .bool p.top, iV p.right, iV p.seen, lV sa87 ((restN p.pivots i ((forN p.pivots p.msgs i).take (movedN cl cb k (forN p.pivots p.msgs i)).2) (p.msgs.take q) ++ [(withoutN (p.msgs[q]'om9) (rangeN p.pivots i)).1])).length sc88, lV rau81 p.rows.length rcu81]) :: Ms85)), hs9, ⟨rfl, (by exact hN91), om9⟩, om9⟩
    refine g9 6 ?_
    refine W.sub (sr9.cons _) (g9 2 ?_)
    exact ⟨Le.rfl, (q + 1, M_16), hs9, ⟨rfl, (by exact NmR.cast ho_16 (restN_f om9 (left_n hg (fun hh => absurd (h83_1.symm.trans hh.2) (by simp))))), om9⟩, om9⟩
   refine g9 7 ?_
   refine WC.cond rfl (fun h69 => ?_) (fun h69 => ?_)
   ·exfalso
    simp_all
   refine g9 6 ?_
   refine W.sub (sr9.cons _) (g9 2 ?_)
   exact ⟨Le.rfl, (q + 1, M_16), hs9, ⟨rfl, (by exact NmR.cast ho_16 (restN_f om9 (left_n hg (fun hh => p75 hh.1)))), om9⟩, om9⟩
  have hng : ¬ (p.msgs[q]'om9).stamp ∈ ((forN p.pivots p.msgs i).take (movedN cl cb k (forN p.pivots p.msgs i)).2).map Msg.stamp := by have h9 := h71; rw [gone_has] at h9; simpa using h9
  refine g9 14 ?_
  refine WC.cond rfl (fun h69 => ?_) (fun h69 => ?_)
  ·obtain ⟨pau92, pcu92, kau92, kcu92, vmu92, rau92, rcu92, Mmu92, eMu92, hpu92, hku92, hmu92, hru92, hoku92⟩ := ho_16
   subst eMu92
   have hfu92 := hmu92.form
   refine match hfu92 with | ⟨mau92, mcu92, e_93⟩ => ?_
   subst e_93
   dsimp only at hpu92 hku92 hmu92 hru92
   refine WC.perm (M' := ((b59, ce9 53 [iV p.slot, iV p.level, lV pau92 p.pivots.length pcu92, lV kau92 p.kids.length kcu92, sV p.high.b, .bool p.top, iV p.right, iV p.seen, lV mau92 (restN p.pivots i ((forN p.pivots p.msgs i).take (movedN cl cb k (forN p.pivots p.msgs i)).2) (p.msgs.take q)).length mcu92, lV rau92 p.rows.length rcu92]) :: ((b67, ce9 90 [iV ((p.msgs)[q]).stamp, iV ((p.msgs)[q]).kind, sV ((p.msgs)[q]).key.b, sV ((p.msgs)[q]).hi.b, .bool ((p.msgs)[q]).opn, sV ((p.msgs)[q]).val.b]) :: ((b28, ce9 53 (ndl ((movedN cl cb k (forN p.pivots p.msgs i)).1) pa_hv19 pc_hv19 ka_hv19 kc_hv19 ma_hv19 mc_hv19 ra_hv19 rc_hv19)) :: ((b5, ce9 53 nz9) :: ((b4, ce9 53 nz9) :: ((b3, ce9 53 (ndl k pa_k pc_k ka_k kc_k ma_k mc_k ra_k rc_k)) :: ((b2, ce9 53 (ndl p pa_p pc_p ka_p kc_p ma_p mc_p ra_p rc_p)) :: ((b1, ce9 23 [iV cf, iV cl, iV cb, iV cs, iV cr]) :: (Mmu92 ++ (M_13 ++ []))))))))))) (pmD (pmD (pmD (pmD (pmD (pmD (pmD pr9))))))).symm (g9 4 ?_)
   refine W.lit (e := eMsg) (l := [(p.msgs[q]'om9)]) (css := [[iV _, iV _, sV _, sV _, .bool _, sV _]]) sl51 ty90 zr90 rfl rfl rfl rfl rfl rfl ⟨⟨rfl, hm63⟩, trivial⟩ (fun bl94 G94 hG94 hv94 => (W.app (e := eMsg) sl51 ty90 zr90 rfl by90 rfl rfl ((hmu92.mono hG94)) (hv94) (pmC (pmC (pmC (pmC (pmC (pmC (pmC (pmC pr9)))))))) (by show (List.length _ + 1) * 72 ≤ _; omega) (fun v95 Ms96 ho97 => (W.perm (pmC (pmC (pmC (pmC (pmC (pmC (pmC (pmC pr9)))))))).symm ?_))))
   have q101 := ho97.form
   refine match q101 with | ⟨sa98, sc99, e_100⟩ => ?_
   subst e_100
   refine g9 5 ?_
   have hN102 : NmR 53 90 b59 G94 ({ p with msgs := (restN p.pivots i ((forN p.pivots p.msgs i).take (movedN cl cb k (forN p.pivots p.msgs i)).2) (p.msgs.take q) ++ [(p.msgs[q]'om9)]) }) ((b59, ce9 53 [iV p.slot, iV p.level, lV pau92 p.pivots.length pcu92, lV kau92 p.kids.length kcu92, sV p.high.b, .bool p.top, iV p.right, iV p.seen, lV sa98 ((restN p.pivots i ((forN p.pivots p.msgs i).take (movedN cl cb k (forN p.pivots p.msgs i)).2) (p.msgs.take q) ++ [(p.msgs[q]'om9)])).length sc99, lV rau92 p.rows.length rcu92]) :: Ms96) := ⟨_, _, _, _, _, _, _, _, rfl, (hpu92.mono hG94), (hku92.mono hG94), ho97, (hru92.mono hG94), hok_p⟩
   have hN102 := NmR.cast hN102 (restN_t om9 (left_no hng))
   refine WC.perm (M' := ((b67, ce9 90 [iV ((p.msgs)[q]).stamp, iV ((p.msgs)[q]).kind, sV ((p.msgs)[q]).key.b, sV ((p.msgs)[q]).hi.b, .bool ((p.msgs)[q]).opn, sV ((p.msgs)[q]).val.b]) :: ((b28, ce9 53 (ndl ((movedN cl cb k (forN p.pivots p.msgs i)).1) pa_hv19 pc_hv19 ka_hv19 kc_hv19 ma_hv19 mc_hv19 ra_hv19 rc_hv19)) :: ((b5, ce9 53 nz9) :: ((b4, ce9 53 nz9) :: ((b3, ce9 53 (ndl k pa_k pc_k ka_k kc_k ma_k mc_k ra_k rc_k)) :: ((b2, ce9 53 (ndl p pa_p pc_p ka_p kc_p ma_p mc_p ra_p rc_p)) :: ((b1, ce9 23 [iV cf, iV cl, iV cb, iV cs, iV cr]) :: (((b59, ce9 53 [iV p.slot, iV p.level, lV pau92 p.pivots.length pcu92, lV kau92 p.kids.length kcu92, sV p.high.b, .bool p.top, iV p.right, iV p.seen, lV sa98 ((restN p.pivots i ((forN p.pivots p.msgs i).take (movedN cl cb k (forN p.pivots p.msgs i)).2) (p.msgs.take q) ++ [(p.msgs[q]'om9)])).length sc99, lV rau92 p.rows.length rcu92]) :: Ms96) ++ (M_13 ++ [])))))))))) ((pmC (pmC (pmC (pmC (pmC (pmC (pmC pr9))))))).symm.trans (((pmC (pmC (pmC (pmC (pmC (pmC (pmC pr9))))))).cons _).trans pr9)) (g9 3 ?_)
   refine W.sub (sr9.cons _) (g9 2 ?_)
   exact ⟨hG94, (q + 1, ((b59, ce9 53 [iV p.slot, iV p.level, lV pau92 p.pivots.length pcu92, lV kau92 p.kids.length kcu92, sV p.high.b, .bool p.top, iV p.right, iV p.seen, lV sa98 ((restN p.pivots i ((forN p.pivots p.msgs i).take (movedN cl cb k (forN p.pivots p.msgs i)).2) (p.msgs.take q) ++ [(p.msgs[q]'om9)])).length sc99, lV rau92 p.rows.length rcu92]) :: Ms96)), hs9, ⟨rfl, (by exact hN102), om9⟩, om9⟩
  exfalso
  simp_all
 refine g9 11 ?_
 refine (hv20.mono ((hG43.trans hG53).trans hG61)).a2 (i := ((forN p.pivots p.msgs i).take (movedN cl cb k (forN p.pivots p.msgs i)).2).length - 1) om9 (fun he103 hm104 => (W.ok (ok_indexAddr (i := ((forN p.pivots p.msgs i).take (movedN cl cb k (forN p.pivots p.msgs i)).2).length - 1) sl51 ty90 (hv20.mono lec) rfl rfl ⟨om9, om9⟩) (g9 7 ?_)))
 have hN108 := NmR.cast ho_16 (n' := { p with msgs := restN p.pivots i ((forN p.pivots p.msgs i).take (movedN cl cb k (forN p.pivots p.msgs i)).2) p.msgs }) (by rw [List.take_of_length_le (show p.msgs.length ≤ q by omega)])
 have hTl : (((forN p.pivots p.msgs i).take (movedN cl cb k (forN p.pivots p.msgs i)).2)[((forN p.pivots p.msgs i).take (movedN cl cb k (forN p.pivots p.msgs i)).2).length - 1]'om9).Ok := hm104
 obtain ⟨pau109, pcu109, kau109, kcu109, vmu109, rau109, rcu109, Mmu109, eMu109, hpu109, hku109, hmu109, hru109, hoku109⟩ := hN108
 subst eMu109
 have hfu109 := hmu109.form
 refine match hfu109 with | ⟨mau109, mcu109, e_110⟩ => ?_
 subst e_110
 dsimp only at hpu109 hku109 hmu109 hru109
 refine WC.perm (M' := ((b59, ce9 53 [iV p.slot, iV p.level, lV pau109 p.pivots.length pcu109, lV kau109 p.kids.length kcu109, sV p.high.b, .bool p.top, iV p.right, iV p.seen, lV mau109 (restN p.pivots i ((forN p.pivots p.msgs i).take (movedN cl cb k (forN p.pivots p.msgs i)).2) p.msgs).length mcu109, lV rau109 p.rows.length rcu109]) :: ((b28, ce9 53 [iV ((movedN cl cb k (forN p.pivots p.msgs i)).1).slot, iV ((movedN cl cb k (forN p.pivots p.msgs i)).1).level, lV pa_hv19 (((movedN cl cb k (forN p.pivots p.msgs i)).1).pivots).length pc_hv19, lV ka_hv19 (((movedN cl cb k (forN p.pivots p.msgs i)).1).kids).length kc_hv19, sV ((movedN cl cb k (forN p.pivots p.msgs i)).1).high.b, .bool ((movedN cl cb k (forN p.pivots p.msgs i)).1).top, iV ((movedN cl cb k (forN p.pivots p.msgs i)).1).right, iV ((((forN p.pivots p.msgs i).take (movedN cl cb k (forN p.pivots p.msgs i)).2))[(((forN p.pivots p.msgs i).take (movedN cl cb k (forN p.pivots p.msgs i)).2).length - 1)]).stamp, lV ma_hv19 (((movedN cl cb k (forN p.pivots p.msgs i)).1).msgs).length mc_hv19, lV ra_hv19 (((movedN cl cb k (forN p.pivots p.msgs i)).1).rows).length rc_hv19]) :: ((b5, ce9 53 nz9) :: ((b4, ce9 53 nz9) :: ((b3, ce9 53 (ndl k pa_k pc_k ka_k kc_k ma_k mc_k ra_k rc_k)) :: ((b2, ce9 53 (ndl p pa_p pc_p ka_p kc_p ma_p mc_p ra_p rc_p)) :: ((b1, ce9 23 [iV cf, iV cl, iV cb, iV cs, iV cr]) :: (Mmu109 ++ (M_13 ++ [])))))))))) (pmD (pmD (pmD (pmD (pmD (pmD pr9)))))).symm (WC.giveO hmu109 (pmC (pmC (pmC (pmC (pmC (pmC (pmC pr9))))))) (fun G111 hG111 hv111 => (WC.dw ((((((sr9.k9.k9).k9).cons _).cons _).k9).k9) (d9 [0, 1, 2, 3, 4, 5, 6] ?_))))
 refine g9 4 ?_
 refine ⟨rfl, _, (pour_t hko rfl om9).symm, _, _, rfl, ?_, ?_⟩
 · exact ⟨_, _, _, _, _, _, _, _, rfl, (hpu109.mono hG111), (hku109.mono hG111), hv111, (hru109.mono hG111), hok_p⟩
 exact ⟨_, _, _, _, _, _, _, _, rfl, (hp_hv19.mono lec), (hk_hv19.mono lec), (hm_hv19.mono lec), (hr_hv19.mono lec), ⟨hok_hv19.1, hok_hv19.2.1, hok_hv19.2.2.1, hTl.1⟩⟩

end Go.Proofs.YtfmigmijckdldaaGreat
