/- The law AbstractMaps is walked. -/
import Derived.Test.YtebkfinhhpelbaaGreatQwUl
import Derived.Test.YtebkfinhhpelbaaGreatQwA42
namespace Go.Proofs.YtebkfinhhpelbaaGreat
open Go Go.Fw Go.RowKit
set_option maxRecDepth 100000
set_option maxHeartbeats 1600000
set_option linter.unusedVariables false
set_option linter.unusedSimpArgs false
set_option linter.unnecessarySimpa false
theorem abstractMaps_fc {G : GH} (cfan : Int) (cleaf : Int) (cbud : Int) (cslots : Int) (crest : Int) {v_l : Value} {l : List Nd} (h_l : SlR eNode G v_l l) (k : Str) :
    Fc Tryz.prog 7 [.agg #[.int .i64 cfan, .int .i64 cleaf, .int .i64 cbud, .int .i64 cslots, .int .i64 crest], v_l, .string k.b] G [] (fun v _ _ => v = .bool (true)) := by
 obtain ⟨sa_l, sc_l, rfl⟩ := h_l.form
 have hl := h_l.len47
 have hkle := k.le
 refine Fc.intro (rs := [.tmp 6]) cl7 Tryz.func7 rfl Tryz.ntmps7 rfl rfl (fun w0 => ?_)
 refine WC.seq (WC.region (W.box (L := [.int .i64 _, .int .i64 _, .int .i64 _, .int .i64 _, .int .i64 _]) rfl rfl (fun b1 => (W.as (W.nil (thn_n (WC.seq (WC.seq (WC.region ?_)))))))))
 refine W.ok (ok_loadB (i := 0) (vs := [.int .i64 _, .int .i64 _, .int .i64 _, .int .i64 _, .int .i64 _]) ty23 rfl rfl rfl rfl (by simp)) (W.mv (W.qcall (tree_fc _ _ _ _ _ h_l _ (by omega)) rfl (W.ok (ok_not rfl) (W.mv ?_))))
 refine W.sp 16 rfl (fun h15 => ?_) (fun h15 => ?_)
 ·refine W.no (dj := 16) rfl rfl h15 (W.no (dj := 16) rfl rfl h15 (W.no (dj := 16) rfl rfl h15 (W.ok (ok_pick_t rfl h15) (W.nil (thn_n (WC.cond_t rfl rfl (WC.seq (WC.region ?_))))))))
  refine W.qcall (awake42_fc) rfl (W.as (W.nil (thn_n (WC.ret (thn_r ?_)))))
  refine ⟨.inr rfl, [_], ⟨rfl, trivial⟩, [], List.nil_sublist _, ?_⟩
  rfl
 ·refine W.yes (dj := 16) rfl rfl h15 (W.mv (W.yes (dj := 16) rfl rfl h15 (W.ok (ok_lenS st9 rfl) (W.yes (dj := 16) rfl rfl h15 (W.ok (ok_gtr rfl rfl) (W.ok (ok_pick_f rfl h15) (W.nil (thn_n ?_))))))))
  refine WC.cond (b := _) rfl (fun h19 => ?_) (fun h19 => ?_)
  ·have p19 := of_decide_eq_true h19
   try dsimp only at p19
   refine WC.seq (WC.region (W.qcall (awake42_fc) rfl (W.as (W.nil (thn_n (WC.ret (thn_r ?_)))))))
   refine ⟨.inr rfl, [_], ⟨rfl, trivial⟩, [], List.nil_sublist _, ?_⟩
   rfl
  ·have p19 := of_decide_eq_false h19
   try dsimp only at p19
   obtain ⟨ss, t⟩ := tree_of (c := (⟨cfan, cleaf, cbud, cslots, crest⟩ : Cfg)) (by simpa using h15) (by omega : (60 : Int) ≤ 100)
   have hS := t.sml
   have hl100 := hS.1
   refine WC.skip (thn_n (WC.seq (WC.region (W.mv (W.call (Mp := []) (map27_fc h_l _ _ t) rfl (List.Perm.refl _) ?_)))))
   intro _ G2 _ hG2 q4
   refine match q4 with | ⟨e_5, _, e_6, hv3⟩ => ?_
   subst e_5
   subst e_6
   have q8 := hv3.form
   refine match q8 with | ⟨sa_hv3, sc_hv3, e_7⟩ => ?_
   subst e_7
   refine W.as (W.nil (thn_n (WC.seq (WC.region (W.mv (W.mv (W.qcall (absget_fc (h_l.mono hG2) k _ _ t (by omega)) rfl (W.mv ?_))))))))
   refine W.ok (ok_extract rfl rfl) (W.ok (ok_extract rfl rfl) (W.as (W.as (W.nil (thn_n (WC.seq (WC.region (W.mv ?_))))))))
   refine W.mv (W.qcall (rget_fc hv3 _) rfl (W.mv (W.ok (ok_extract rfl rfl) (W.ok (ok_extract rfl rfl) (W.as (W.as (W.nil (thn_n ?_))))))))
   refine WC.seq (WC.region (W.mv (W.call (Mp := []) (absmap_fc (h_l.mono hG2) _ _ t) rfl (List.Perm.refl _) ?_)))
   intro _ G9 _ hG9 q11
   refine match q11 with | ⟨e_12, _, e_13, hv10⟩ => ?_
   subst e_12
   subst e_13
   have q15 := hv10.form
   refine match q15 with | ⟨sa_hv10, sc_hv10, e_14⟩ => ?_
   subst e_14
   refine W.mv (W.qcall ((samep_fc hv10 (hv3.mono hG9)).mono (fun v _ _ _ hv => hv.trans (congrArg Value.bool (decide_eq_true rfl)))) rfl (W.mv (W.yes (dj := 40) rfl rfl rfl (W.mv (W.yes (dj := 40) rfl rfl rfl (W.mv (W.yes (dj := 40) rfl rfl rfl ?_)))))))
   refine W.ok (ok_eqlS rfl rfl) (W.ok (ok_pick_t rfl rfl) (W.mv ?_))
   refine W.sp 45 rfl (fun h43 => ?_) (fun h43 => ?_)
   ·have p43 := of_decide_eq_true h43
    try dsimp only at p43
    refine W.yes (dj := 45) rfl rfl h43 (W.mv (W.yes (dj := 45) rfl rfl h43 (W.mv (W.yes (dj := 45) rfl rfl h43 (W.ok (ok_eqlB bo4 rfl rfl) (W.ok (ok_pick_t rfl h43) (W.mv ?_)))))))
    refine W.sp 50 rfl (fun h48 => ?_) (fun h48 => ?_)
    ·refine W.yes (dj := 50) rfl rfl h48 (W.qcall (awake42_fc) rfl (W.ok (ok_pick_t rfl h48) (W.as (W.nil (thn_n (WC.ret ?_))))))
     refine ⟨.inr rfl, [_], ⟨rfl, trivial⟩, [], List.nil_sublist _, ?_⟩
     rfl
    ·simp at h48
   ·have p43 := of_decide_eq_false h43
    try dsimp only at p43
    exact absurd rfl p43

end Go.Proofs.YtebkfinhhpelbaaGreat
