/- Walks of nodes as roots with two kids. -/
import Derived.Test.YtfmigmijckdldaaGreatQgUn
import Derived.Test.YtfmigmijckdldaaGreatQgOa
set_option maxRecDepth 100000
set_option maxHeartbeats 1600000
set_option linter.unusedVariables false
set_option linter.unusedSimpArgs false
set_option linter.unnecessarySimpa false
namespace Go.Proofs.YtfmigmijckdldaaGreat
open Go Go.Fw Go.RowKit
attribute [local irreducible] Ok W WC
theorem clift_fc {G : GH} {cs_n : List Value} {n : Nd} (h_n : NodeC G cs_n n) (x : Int) (y : Int) (hx : i64 x) (hy : i64 y) (hlv : i64 (n.level + 1)) (hks : ∀ m ∈ n.msgs, m.key.b.size < 140737488355328) :
    Fc Tryz.prog 64 [.agg (List.toArray cs_n), iV x, iV y] G [] (fun v G' M' => M' = [] ∧ ∃ r : Nd × Nd × Nd × Bool, r = liftN n x y ∧ ∃ u0 u1 u2, v = .tuple #[.agg (List.toArray u0), .agg (List.toArray u1), .agg (List.toArray u2), .bool (r.2.2.2)] ∧ NodeC G' u0 (r.1) ∧ NodeC G' u1 (r.2.1) ∧ NodeC G' u2 (r.2.2.1)) := by
 obtain ⟨_, _, _, _, _, _, _, _, rfl, hp_n, hk_n, hm_n, hr_n, hok_n⟩ := h_n
 have hx1 := hx.1
 have hx2 := hx.2
 have hy1 := hy.1
 have hy2 := hy.2
 have hlv1 := hlv.1
 have hlv2 := hlv.2
 refine Fc.go [.cell 6 53, .cell 7 53, .cell 8 53, .tmp 9] Tryz.func64 Tryz.ntmps64 rfl (fun w0 => (g9 2 ?_))
 refine W.box (L := [iV _, iV _, lV _ _ _, lV _ _ _, sV _, .bool _, iV _, iV _, lV _ _ _, lV _ _ _]) rfl rfl (fun b1 => (W.alloc zr53 (fun b2 => (W.alloc zr53 (fun b3 => (W.alloc zr53 (fun b4 => (g9 7 ?_))))))))
 refine W.cM (ncleave_fc (nk9 hp_n hk_n hm_n hr_n hok_n) _ (by assumption) (by assumption)) rfl (fun _ _ _ _ _ _ _ _ _ _ _ _ _ _ _ _ G5 hG5 hp_hv6 hk_hv6 hm_hv6 hr_hv6 hok_hv6 hp_hv7 hk_hv7 hm_hv7 hr_hv7 hok_hv7 => (g9 18 ?_))
 refine WC.cond rfl (fun h20 => ?_) (fun h20 => ?_)
 ·refine g9 2 ?_
  refine W.ok (ok_build (L := [iV _, iV _, lV _ _ _, lV _ _ _, sV _, .bool _, iV _, iV _, lV _ _ _, lV _ _ _]) pl53 zr53 rfl rfl rfl) (W.ok (ok_build (L := [iV _, iV _, lV _ _ _, lV _ _ _, sV _, .bool _, iV _, iV _, lV _ _ _, lV _ _ _]) pl53 zr53 rfl rfl rfl) (W.ok (ok_build (L := [iV _, iV _, lV _ _ _, lV _ _ _, sV _, .bool _, iV _, iV _, lV _ _ _, lV _ _ _]) pl53 zr53 rfl rfl rfl) (g9 9 ?_)))
  refine ⟨rfl, _, (liftN_f (by simpa using h20)).symm, _, _, _, rfl, ?_, ?_, ?_⟩
  · exact ⟨_, _, _, _, _, _, _, _, rfl, SlR.nil, SlR.nil, SlR.nil, SlR.nil, Nd.zero_ok⟩
  · exact ⟨_, _, _, _, _, _, _, _, rfl, SlR.nil, SlR.nil, SlR.nil, SlR.nil, Nd.zero_ok⟩
  exact ⟨_, _, _, _, _, _, _, _, rfl, SlR.nil, SlR.nil, SlR.nil, SlR.nil, Nd.zero_ok⟩
 refine g9 5 ?_
 refine W.cN (ncopy_fc (nm9 hG5 hp_n hk_n hm_n hr_n hok_n)) rfl (fun _ _ _ _ _ _ _ _ G14 hG14 hp_hv15 hk_hv15 hm_hv15 hr_hv15 hok_hv15 => (g9 15 ?_))
 refine W.lit (e := eStr) (l := [_]) (css := [[sV _]]) sl49 ty9 zr9 rfl rfl rfl rfl rfl rfl ⟨rfl, trivial⟩ (fun bl20 G20 hG20 hv20 => (g9 2 ?_))
 refine W.lit (e := eInt) (l := [_, _]) (css := [[iV _], [iV _]]) sl50 ty3 zr3 rfl rfl rfl rfl rfl rfl ⟨⟨rfl, om9, om9⟩, ⟨rfl, om9, om9⟩, trivial⟩ (fun bl21 G21 hG21 hv21 => (g9 23 ?_))
 refine WC.cn (fun h42 p42 => ?_) (fun h42 p42 => ?_)
 ·refine g9 16 ?_
  refine WC.dw (((sr9.k9.k9).k9).k9) (d9 [0, 1, 2, 3, 4, 5, 6] ?_)
  refine g9 4 ?_
  refine ⟨rfl, _, (liftN_in (by simpa using h20) p42).symm, _, _, _, rfl, ?_, ?_, ?_⟩
  · exact ⟨_, _, _, _, _, _, _, _, rfl, (hv20.mono hG21), hv21, (hm_hv15.mono lec), SlR.nil, ⟨hok_n.1, hlv, hok_n.2.2⟩⟩
  · exact ⟨_, _, _, _, _, _, _, _, rfl, (hp_hv6.mono lec), (hk_hv6.mono lec), SlR.nil, (hr_hv6.mono lec), ⟨hx, (show Nd.Ok (cleaveN n y).1 from by assumption).2.1, (show Nd.Ok (cleaveN n y).1 from by assumption).2.2.1, (show i64 0 from ⟨by decide, by decide⟩)⟩⟩
  exact ⟨_, _, _, _, _, _, _, _, rfl, (hp_hv7.mono lec), (hk_hv7.mono lec), SlR.nil, (hr_hv7.mono lec), ⟨(show Nd.Ok (cleaveN n y).2.1 from by assumption).1, (show Nd.Ok (cleaveN n y).2.1 from by assumption).2.1, (show Nd.Ok (cleaveN n y).2.1 from by assumption).2.2.1, (show i64 0 from ⟨by decide, by decide⟩)⟩⟩
 refine g9 14 ?_
 refine WC.dw (((sr9.k9.k9).k9).k9) (d9 [0, 1, 2, 3, 4, 5, 6] ?_)
 refine g9 4 ?_
 refine ⟨rfl, _, (liftN_lf (by simpa using h20) p42).symm, _, _, _, rfl, ?_, ?_, ?_⟩
 · exact ⟨_, _, _, _, _, _, _, _, rfl, (hv20.mono hG21), hv21, SlR.nil, SlR.nil, ⟨hok_n.1, hlv, hok_n.2.2⟩⟩
 · exact ⟨_, _, _, _, _, _, _, _, rfl, (hp_hv6.mono lec), (hk_hv6.mono lec), SlR.nil, (hr_hv6.mono lec), ⟨hx, (show Nd.Ok (cleaveN n y).1 from by assumption).2.1, (show Nd.Ok (cleaveN n y).1 from by assumption).2.2.1, (show Nd.Ok (cleaveN n y).1 from by assumption).2.2.2⟩⟩
 exact ⟨_, _, _, _, _, _, _, _, rfl, (hp_hv7.mono lec), (hk_hv7.mono lec), SlR.nil, (hr_hv7.mono lec), ⟨(show Nd.Ok (cleaveN n y).2.1 from by assumption).1, (show Nd.Ok (cleaveN n y).2.1 from by assumption).2.1, (show Nd.Ok (cleaveN n y).2.1 from by assumption).2.2.1, (show Nd.Ok (cleaveN n y).2.1 from by assumption).2.2.2⟩⟩

theorem rlift_fc {G : GH} {cs_n : List Value} {n : Nd} (h_n : NodeC G cs_n n) (x : Int) (y : Int) (hx : i64 x) (hy : i64 y) (hlv : i64 (n.level + 1)) (hks : ∀ m ∈ n.msgs, m.key.b.size < 140737488355328) :
    Fc Tryz.prog 75 [.agg (List.toArray cs_n), iV x, iV y] G [] (fun v G' M' => M' = [] ∧ ∃ r : Nd × Nd × Nd × Bool, r = liftN n x y ∧ ∃ u0 u1 u2, v = .tuple #[.agg (List.toArray u0), .agg (List.toArray u1), .agg (List.toArray u2), .bool (r.2.2.2)] ∧ NodeC G' u0 (r.1) ∧ NodeC G' u1 (r.2.1) ∧ NodeC G' u2 (r.2.2.1)) := by
 obtain ⟨_, _, _, _, _, _, _, _, rfl, hp_n, hk_n, hm_n, hr_n, hok_n⟩ := h_n
 have hx1 := hx.1
 have hx2 := hx.2
 have hy1 := hy.1
 have hy2 := hy.2
 have hlv1 := hlv.1
 have hlv2 := hlv.2
 refine Fc.go [.cell 6 53, .cell 7 53, .cell 8 53, .tmp 9] Tryz.func75 Tryz.ntmps75 rfl (fun w0 => (g9 2 ?_))
 refine W.box (L := [iV _, iV _, lV _ _ _, lV _ _ _, sV _, .bool _, iV _, iV _, lV _ _ _, lV _ _ _]) rfl rfl (fun b22 => (W.alloc zr53 (fun b23 => (W.alloc zr53 (fun b24 => (W.alloc zr53 (fun b25 => (g9 7 ?_))))))))
 refine W.cM (rcleave_fc (nk9 hp_n hk_n hm_n hr_n hok_n) _ (by assumption) (by assumption)) rfl (fun _ _ _ _ _ _ _ _ _ _ _ _ _ _ _ _ G26 hG26 hp_hv27 hk_hv27 hm_hv27 hr_hv27 hok_hv27 hp_hv28 hk_hv28 hm_hv28 hr_hv28 hok_hv28 => (g9 5 ?_))
 refine W.alloc zr53 (fun b35 => (W.alloc zr53 (fun b36 => (g9 13 ?_))))
 refine WC.cond rfl (fun h24 => ?_) (fun h24 => ?_)
 ·refine g9 2 ?_
  refine W.ok (ok_build (L := [iV _, iV _, lV _ _ _, lV _ _ _, sV _, .bool _, iV _, iV _, lV _ _ _, lV _ _ _]) pl53 zr53 rfl rfl rfl) (W.ok (ok_build (L := [iV _, iV _, lV _ _ _, lV _ _ _, sV _, .bool _, iV _, iV _, lV _ _ _, lV _ _ _]) pl53 zr53 rfl rfl rfl) (W.ok (ok_build (L := [iV _, iV _, lV _ _ _, lV _ _ _, sV _, .bool _, iV _, iV _, lV _ _ _, lV _ _ _]) pl53 zr53 rfl rfl rfl) (g9 9 ?_)))
  refine ⟨rfl, _, (liftN_f (by simpa using h24)).symm, _, _, _, rfl, ?_, ?_, ?_⟩
  · exact ⟨_, _, _, _, _, _, _, _, rfl, SlR.nil, SlR.nil, SlR.nil, SlR.nil, Nd.zero_ok⟩
  · exact ⟨_, _, _, _, _, _, _, _, rfl, SlR.nil, SlR.nil, SlR.nil, SlR.nil, Nd.zero_ok⟩
  exact ⟨_, _, _, _, _, _, _, _, rfl, SlR.nil, SlR.nil, SlR.nil, SlR.nil, Nd.zero_ok⟩
 refine g9 5 ?_
 refine W.alloc zr53 (fun b37 => (g9 15 ?_))
 refine W.lit (e := eStr) (l := [_]) (css := [[sV _]]) sl49 ty9 zr9 rfl rfl rfl rfl rfl rfl ⟨rfl, trivial⟩ (fun bl38 G38 hG38 hv38 => (g9 8 ?_))
 refine W.lit (e := eInt) (l := [_, _]) (css := [[iV _], [iV _]]) sl50 ty3 zr3 rfl rfl rfl rfl rfl rfl ⟨⟨rfl, om9, om9⟩, ⟨rfl, om9, om9⟩, trivial⟩ (fun bl39 G39 hG39 hv39 => (g9 37 ?_))
 refine WC.cd (fun h47 p47 => ?_) (fun h47 p47 => ?_)
 ·refine g9 6 ?_
  refine WC.dw ((((((sr9.k9.cons _).cons _).cons _).k9).k9).k9) (d9 [0, 1, 2, 3, 4, 5, 6] ?_)
  refine g9 4 ?_
  refine ⟨rfl, _, (liftN_lf (by simpa using h24) p47).symm, _, _, _, rfl, ?_, ?_, ?_⟩
  · exact ⟨_, _, _, _, _, _, _, _, rfl, (hv38.mono hG39), hv39, SlR.nil, SlR.nil, ⟨hok_n.1, hlv, hok_n.2.2⟩⟩
  · exact ⟨_, _, _, _, _, _, _, _, rfl, (hp_hv27.mono lec), (hk_hv27.mono lec), SlR.nil, (hr_hv27.mono lec), ⟨hx, (show Nd.Ok (cleaveN n y).1 from by assumption).2.1, (show Nd.Ok (cleaveN n y).1 from by assumption).2.2.1, (show Nd.Ok (cleaveN n y).1 from by assumption).2.2.2⟩⟩
  exact ⟨_, _, _, _, _, _, _, _, rfl, (hp_hv28.mono lec), (hk_hv28.mono lec), SlR.nil, (hr_hv28.mono lec), ⟨(show Nd.Ok (cleaveN n y).2.1 from by assumption).1, (show Nd.Ok (cleaveN n y).2.1 from by assumption).2.1, (show Nd.Ok (cleaveN n y).2.1 from by assumption).2.2.1, (show Nd.Ok (cleaveN n y).2.1 from by assumption).2.2.2⟩⟩
 refine g9 12 ?_
 refine WC.dw ((((((sr9.k9.cons _).cons _).cons _).k9).k9).k9) (d9 [0, 1, 2, 3, 4, 5, 6] ?_)
 refine g9 4 ?_
 refine ⟨rfl, _, (liftN_in (by simpa using h24) p47).symm, _, _, _, rfl, ?_, ?_, ?_⟩
 · exact ⟨_, _, _, _, _, _, _, _, rfl, (hv38.mono hG39), hv39, (hm_n.mono lec), SlR.nil, ⟨hok_n.1, hlv, hok_n.2.2⟩⟩
 · exact ⟨_, _, _, _, _, _, _, _, rfl, (hp_hv27.mono lec), (hk_hv27.mono lec), SlR.nil, (hr_hv27.mono lec), ⟨hx, (show Nd.Ok (cleaveN n y).1 from by assumption).2.1, (show Nd.Ok (cleaveN n y).1 from by assumption).2.2.1, (show i64 0 from ⟨by decide, by decide⟩)⟩⟩
 exact ⟨_, _, _, _, _, _, _, _, rfl, (hp_hv28.mono lec), (hk_hv28.mono lec), SlR.nil, (hr_hv28.mono lec), ⟨(show Nd.Ok (cleaveN n y).2.1 from by assumption).1, (show Nd.Ok (cleaveN n y).2.1 from by assumption).2.1, (show Nd.Ok (cleaveN n y).2.1 from by assumption).2.2.1, (show i64 0 from ⟨by decide, by decide⟩)⟩⟩

theorem nfull_fc {G : GH} (cfan : Int) (cleaf : Int) (cbud : Int) (cslots : Int) (crest : Int) {cs_n : List Value} {n : Nd} (h_n : NodeC G cs_n n) :
    Fc Tryz.prog 57 [.agg #[iV cfan, iV cleaf, iV cbud, iV cslots, iV crest], .agg (List.toArray cs_n)] G [] (fun v _ _ => v = .bool (fullN (⟨cfan, cleaf, cbud, cslots, crest⟩ : Cfg) n)) := by
 obtain ⟨_, _, _, _, _, _, _, _, rfl, hp_n, hk_n, hm_n, hr_n, hok_n⟩ := h_n
 have h1 := hp_n.len47
 have h2 := hk_n.len47
 have h3 := hm_n.len47
 have h4 := hr_n.len47
 refine Fc.go [.tmp 4] Tryz.func57 Tryz.ntmps57 rfl (fun w0 => (g9 2 ?_))
 refine W.box (L := [iV _, iV _, iV _, iV _, iV _]) rfl rfl (fun b40 => (W.box (L := [iV _, iV _, lV _ _ _, lV _ _ _, sV _, .bool _, iV _, iV _, lV _ _ _, lV _ _ _]) rfl rfl (fun b41 => (g9 11 ?_))))
 refine WC.cd (fun h7 p7 => ?_) (fun h7 p7 => ?_)
 ·refine g9 14 ?_
  refine congrArg Value.bool ?_
  first | (rw [fullN, if_pos p7]; done) | (rw [fullN, if_pos p7]; first | (simp_all; done) | (simp_all; omega))
 refine g9 15 ?_
 refine congrArg Value.bool ?_
 first | (rw [fullN, if_neg p7]; done) | (rw [fullN, if_neg p7]; first | (simp_all; done) | (simp_all; omega))

theorem rfull_fc {G : GH} (cfan : Int) (cleaf : Int) (cbud : Int) (cslots : Int) (crest : Int) {cs_n : List Value} {n : Nd} (h_n : NodeC G cs_n n) :
    Fc Tryz.prog 72 [.agg #[iV cfan, iV cleaf, iV cbud, iV cslots, iV crest], .agg (List.toArray cs_n)] G [] (fun v _ _ => v = .bool (fullN (⟨cfan, cleaf, cbud, cslots, crest⟩ : Cfg) n)) := by
 obtain ⟨_, _, _, _, _, _, _, _, rfl, hp_n, hk_n, hm_n, hr_n, hok_n⟩ := h_n
 have h1 := hp_n.len47
 have h2 := hk_n.len47
 have h3 := hm_n.len47
 have h4 := hr_n.len47
 refine Fc.go [.tmp 4] Tryz.func72 Tryz.ntmps72 rfl (fun w0 => (WC.sr (W.box (L := [iV _, iV _, iV _, iV _, iV _]) rfl rfl (fun b42 => (W.box (L := [iV _, iV _, lV _ _ _, lV _ _ _, sV _, .bool _, iV _, iV _, lV _ _ _, lV _ _ _]) rfl rfl (fun b43 => (W.as (W.ns (W.fb fd53_1 rfl (W.ok (ok_ld 0 ic9 ty3 rfl) (W.ok (ok_eql rfl rfl) (W.mv ?_))))))))))))
 refine W.sd 8 (fun h7 p7 => ?_) (fun h7 p7 => ?_)
 ·refine W.y9 h7 rfl (W.fb fd53_9 rfl (W.y9 h7 rfl (W.ok (ok_ld 0 lc9 ty42 rfl) (W.y9 h7 rfl (W.ok (ok_len sl42 hr_n rfl) (W.y9 h7 rfl (W.fb fd23_1 rfl (W.y9 h7 rfl (W.ok (ok_ld 1 ic9 ty3 rfl) (W.y9 h7 rfl (W.ok (ok_geq rfl rfl) (W.ok (ok_pick_t rfl h7) (W.mv ?_)))))))))))))
  refine W.sd 16 (fun h14 p14 => ?_) (fun h14 p14 => ?_)
  ·refine W.n8 h14 rfl (W.n8 h14 rfl (W.n8 h14 rfl (W.n8 h14 rfl (W.nou rfl rfl (W.nou rfl rfl (W.nou rfl rfl (W.nou rfl rfl (W.nou rfl rfl (W.nou rfl rfl (W.n8 h14 rfl (W.ok (ok_pick_t rfl h14) (W.an (WC.ret ?_)))))))))))))
   refine ⟨.inr rfl, [_], ⟨rfl, trivial⟩, [], sn9, ?_⟩
   refine congrArg Value.bool ?_
   first | (rw [fullN, if_pos p7]; done) | (rw [fullN, if_pos p7]; first | (simp_all; done) | (simp_all; omega))
  refine W.y9 h14 rfl (W.fb fd53_1 rfl (W.y9 h14 rfl (W.ok (ok_ld 0 ic9 ty3 rfl) (W.y9 h14 rfl (W.ok (ok_neq rfl rfl) (W.y9 h14 rfl (W.mv ?_)))))))
  refine W.sm 20 (fun h19 p19 => ?_) (fun h19 p19 => ?_)
  ·refine W.y9 h19 rfl (W.fb fd53_3 rfl (W.y9 h19 rfl (W.ok (ok_ld 0 lc9 ty50 rfl) (W.y9 h19 rfl (W.ok (ok_len sl50 hk_n rfl) (W.y9 h19 rfl (W.fb fd23_0 rfl (W.y9 h19 rfl (W.ok (ok_ld 1 ic9 ty3 rfl) (W.y9 h19 rfl (W.ok (ok_geq rfl rfl) (W.y9 h14 rfl (W.ok (ok_pick_t rfl h19) ?_)))))))))))))
   refine W.ok (ok_pick_f rfl h14) (W.an (WC.ret ?_))
   refine ⟨.inr rfl, [_], ⟨rfl, trivial⟩, [], sn9, ?_⟩
   refine congrArg Value.bool ?_
   first | (rw [fullN, if_pos p7]; done) | (rw [fullN, if_pos p7]; first | (simp_all; done) | (simp_all; omega))
  refine W.n8 h19 rfl (W.n8 h19 rfl (W.n8 h19 rfl (W.n8 h19 rfl (W.n8 h19 rfl (W.n8 h19 rfl (W.y9 h14 rfl (W.ok (ok_pick_f rfl h19) (W.ok (ok_pick_f rfl h14) (W.an (WC.ret ?_))))))))))
  refine ⟨.inr rfl, [_], ⟨rfl, trivial⟩, [], sn9, ?_⟩
  refine congrArg Value.bool ?_
  first | (rw [fullN, if_pos p7]; done) | (rw [fullN, if_pos p7]; first | (simp_all; done) | (simp_all; omega))
 refine W.n8 h7 rfl (W.n8 h7 rfl (W.n8 h7 rfl (W.n8 h7 rfl (W.n8 h7 rfl (W.n8 h7 rfl (W.ok (ok_pick_f rfl h7) (W.mv (W.y9 rfl rfl (W.fb fd53_1 rfl (W.y9 rfl rfl (W.ok (ok_ld 0 ic9 ty3 rfl) (W.y9 rfl rfl (W.ok (ok_neq rfl rfl) ?_)))))))))))))
 refine W.y9 rfl rfl (W.mv ?_)
 refine W.sm 20 (fun h19 p19 => ?_) (fun h19 p19 => ?_)
 ·refine W.y9 h19 rfl (W.fb fd53_3 rfl (W.y9 h19 rfl (W.ok (ok_ld 0 lc9 ty50 rfl) (W.y9 h19 rfl (W.ok (ok_len sl50 hk_n rfl) (W.y9 h19 rfl (W.fb fd23_0 rfl (W.y9 h19 rfl (W.ok (ok_ld 1 ic9 ty3 rfl) (W.y9 h19 rfl (W.ok (ok_geq rfl rfl) (W.y9 rfl rfl (W.ok (ok_pick_t rfl h19) ?_)))))))))))))
  refine W.ok (ok_pick_f rfl rfl) (W.an (WC.ret ?_))
  refine ⟨.inr rfl, [_], ⟨rfl, trivial⟩, [], sn9, ?_⟩
  refine congrArg Value.bool ?_
  first | (rw [fullN, if_neg p7]; done) | (rw [fullN, if_neg p7]; first | (simp_all; done) | (simp_all; omega))
 refine W.n8 h19 rfl (W.n8 h19 rfl (W.n8 h19 rfl (W.n8 h19 rfl (W.n8 h19 rfl (W.n8 h19 rfl (W.y9 rfl rfl (W.ok (ok_pick_f rfl h19) (W.ok (ok_pick_f rfl rfl) (W.an (WC.ret ?_))))))))))
 refine ⟨.inr rfl, [_], ⟨rfl, trivial⟩, [], sn9, ?_⟩
 refine congrArg Value.bool ?_
 first | (rw [fullN, if_neg p7]; done) | (rw [fullN, if_neg p7]; first | (simp_all; done) | (simp_all; omega))

end Go.Proofs.YtfmigmijckdldaaGreat
namespace Go.Proofs.YtfmigmijckdldaaGreat
open Go Go.Fw Go.RowKit
attribute [local irreducible] Ok W WC
theorem rvictim_fc {G : GH} {v_P : Value} {P : List Str} (h_P : SlR eStr G v_P P) {v_l : Value} {l : List Msg} (h_l : SlR eMsg G v_l l) (hs : ∀ m ∈ l, m.key.b.size ≤ 16 ∧ m.val.b.size ≤ 16) (hl9 : l.length ≤ 100000 ∧ P.length ≤ 100000) :
    Fc Tryz.prog 73 [v_P, v_l] G [] (fun v _ _ => v = .tuple #[iV ((victimN P l).1), .bool ((victimN P l).2)]) := by
 obtain ⟨sa_P, sc_P, rfl⟩ := h_P.form
 obtain ⟨sa_l, sc_l, rfl⟩ := h_l.form
 have hl := h_l.len47
 have hlP := h_P.len47
 have hfl := front_len l
 have hfs : ∀ m ∈ frontN l, m.key.b.size ≤ 16 ∧ m.val.b.size ≤ 16 := fun m h => hs m (front_mem h)
 refine Fc.go [.tmp 4, .tmp 5] Tryz.func73 Tryz.ntmps73 rfl (fun w0 => (g9 19 ?_))
 refine WC.loop (X := Nat) (fun i => [(6, nt9 ((bestTo (wOf P (frontN l)) i))), (7, iV (if i = 0 then 0 else (wOf P (frontN l)) (bestTo (wOf P (frontN l)) i))), (8, nt9 i), (0, lV sa_P P.length sc_P), (1, lV sa_l l.length sc_l)]) (fun i _ Ml => Ml = [] ∧ i ≤ P.length + 1) (fun i => P.length + 1 - i) 0 ⟨(by rfl), (by rfl), eqv, eqv, eqv, trivial⟩ ?_ ?_
 ·exact ⟨rfl, om9⟩
 rintro i gG1 G1 _ hG1 ⟨rfl, hi⟩
 refine g9 9 ?_
 refine WC.cd (fun h15 p15 => ?_) (fun h15 p15 => ?_)
 ·try dsimp only at p15
  refine g9 13 ?_
  refine W.cS (rfront_fc (h_l.mono hG1)) rfl (fun sa_hv3 sc_hv3 G2 hG2 hv3 => (g9 5 ?_))
  refine WC.loop (X := Nat) (fun q => [(9, iV (wOf P ((frontN l).take q) i)), (21, nt9 q), (0, lV sa_P P.length sc_P), (1, lV sa_l l.length sc_l), (6, nt9 ((bestTo (wOf P (frontN l)) i))), (7, iV (if i = 0 then 0 else (wOf P (frontN l)) (bestTo (wOf P (frontN l)) i))), (8, nt9 i), (19, lV sa_hv3 ((frontN l)).length sc_hv3), (20, nt9 (((frontN l)).length))]) (fun q _ Ml => Ml = [] ∧ q ≤ (frontN l).length) (fun q => (frontN l).length - q) 0 ⟨(by rfl), eqv, eqv, eqv, eqv, eqv, eqv, eqv, eqv, trivial⟩ ?_ ?_
  ·exact ⟨rfl, Nat.zero_le _⟩
  rintro q gG9 G9 _ hG9 ⟨rfl, hq⟩
  have hb9 := wOf_le P ((frontN l).take q) i (fun m h => hfs m (List.mem_of_mem_take h))
  have hb8 := wOf_pos P ((frontN l).take q) i
  have ht9 : ((frontN l).take q).length ≤ 100000 := by rw [List.length_take]; omega
  refine g9 6 ?_
  refine WC.cd (fun h22 p22 => ?_) (fun h22 p22 => ?_)
  ·try dsimp only at p22
   refine g9 6 ?_
   refine (hv3.mono hG9).a2 (i := q) om9 (fun he10 hm11 => (g9 2 ?_))
   refine W.alloc zr90 (fun b15 => (g9 8 ?_))
   refine W.qcall (rroute_fc (h_P.mono lec) _) rfl (g9 4 ?_)
   refine WC.cd (fun h30 p30 => ?_) (fun h30 p30 => ?_)
   ·try dsimp only at p30
    have p30n : (routeN P ((frontN l)[q]'om9).key) = i := by omega
    have hz9 := size_36 (hfs _ (List.getElem_mem (by omega : q < (frontN l).length)))
    have he9 : Msg.size ⟨((frontN l)[q]'om9).stamp, ((frontN l)[q]'om9).kind, ((frontN l)[q]'om9).key, ((frontN l)[q]'om9).hi, ((frontN l)[q]'om9).opn, ((frontN l)[q]'om9).val⟩ = (((frontN l)[q]'om9)).size := rfl
    refine g9 3 ?_
    refine W.qcall (msize_fc _ _ _ _ _ _) rfl (g9 8 ?_)
    refine W.sub (sr9.cons _) (g9 2 ?_)
    exact ⟨Le.rfl, q + 1, ⟨(iv (by rw [wOf_t om9 p30n])), eqv, eqv, eqv, eqv, eqv, eqv, eqv, eqv, trivial⟩, ⟨rfl, om9⟩, om9⟩
   try dsimp only at p30
   have p30n : ¬ (routeN P ((frontN l)[q]'om9).key) = i := by omega
   refine g9 6 ?_
   refine W.sub (sr9.cons _) (g9 2 ?_)
   exact ⟨Le.rfl, q + 1, ⟨(iv (by rw [wOf_f om9 p30n])), eqv, eqv, eqv, eqv, eqv, eqv, eqv, eqv, trivial⟩, ⟨rfl, om9⟩, om9⟩
  try dsimp only at p22
  refine g9 12 ?_
  refine WC.cd (fun h38 p38 => ?_) (fun h38 p38 => ?_)
  ·try dsimp only at p38
   have hmo : wOf P ((frontN l).take q) i = (wOf P (frontN l)) i := by rw [List.take_of_length_le om9]
   rw [hmo] at p38
   refine g9 18 ?_
   exact ⟨lec, i + 1, ⟨(iv (by rw [bt_t p38])), (iv (by rw [if_neg (Nat.succ_ne_zero i), bt_t p38, hmo])), eqv, eqv, eqv, trivial⟩, ⟨rfl, om9⟩, om9⟩
  try dsimp only at p38
  have hmo : wOf P ((frontN l).take q) i = (wOf P (frontN l)) i := by rw [List.take_of_length_le om9]
  rw [hmo] at p38
  refine g9 9 ?_
  exact ⟨lec, i + 1, ⟨(iv (by rw [bt_f p38])), (iv (by rw [if_neg (Nat.succ_ne_zero i), mt_f (wOf_pos P _) p38])), eqv, eqv, eqv, trivial⟩, ⟨rfl, om9⟩, om9⟩
 try dsimp only at p15
 refine g9 16 ?_
 show Value.tuple #[Value.int _ _, Value.bool _] = _
 rw [show i = P.length + 1 by omega, if_neg om9]
 exact rvic_eq P l

theorem fchoose_fc {G : GH} (cf : Int) (cl : Int) (cb : Int) (cs : Int) (cr : Int) {cs_n : List Value} {n : Nd} (h_n : NodeC G cs_n n) (k : Str) (hq : ChoosePre n) :
    Fc Tryz.prog 24 [.agg #[iV cf, iV cl, iV cb, iV cs, iV cr], .agg (List.toArray cs_n), sV k.b] G [] (fun v _ _ => v = .tuple #[iV ((chooseN (⟨cf, cl, cb, cs, cr⟩ : Cfg) n k).1), iV ((chooseN (⟨cf, cl, cb, cs, cr⟩ : Cfg) n k).2)]) := by
 obtain ⟨_, _, _, _, _, _, _, _, rfl, hp_n, hk_n, hm_n, hr_n, hok_n⟩ := h_n
 refine Fc.go [.tmp 6, .tmp 7] Tryz.func24 Tryz.ntmps24 rfl (fun w0 => (g9 2 ?_))
 refine W.box (L := [iV _, iV _, iV _, iV _, iV _]) rfl rfl (fun b16 => (W.box (L := [iV _, iV _, lV _ _ _, lV _ _ _, sV _, .bool _, iV _, iV _, lV _ _ _, lV _ _ _]) rfl rfl (fun b17 => (g9 14 ?_))))
 refine WC.cd (fun h13 p13 => ?_) (fun h13 p13 => ?_)
 ·refine g9 10 ?_
  show Value.tuple #[Value.int _ _, Value.int _ _] = _
  rw [choose_0 p13]
 refine g9 6 ?_
 refine W.sd 18 (fun h17 p17 => ?_) (fun h17 p17 => ?_)
 ·refine g9 5 ?_
  refine W.qcall (nfull_fc cf cl cb cs cr (n := n) (nk9 hp_n hk_n hm_n hr_n hok_n)) rfl (g9 4 ?_)
  refine WC.cond rfl (fun h21 => ?_) (fun h21 => ?_)
  ·refine g9 10 ?_
   show Value.tuple #[Value.int _ _, Value.int _ _] = _
   rw [choose_1 p13 p17 h21]
  refine g9 9 ?_
  refine W.qcall (fvictim_fc hp_n hm_n (hq p13).2.1 (hq p13).2.2 (hq p13).1) rfl (g9 14 ?_)
  refine WC.cond rfl (fun h32 => ?_) (fun h32 => ?_)
  ·refine g9 4 ?_
   refine W.qcall (broute_fc hp_n _ (hq p13).1) rfl (g9 12 ?_)
   show Value.tuple #[Value.int _ _, Value.int _ _] = _
   rw [choose_r p13 (fun h => by rw [h21] at h; exact absurd h.2 (by simp)) (by simpa using h32)]
  refine g9 11 ?_
  show Value.tuple #[Value.int _ _, Value.int _ _] = _
  rw [choose_v p13 (fun h => by rw [h21] at h; exact absurd h.2 (by simp)) (by simpa using h32)]
 refine g9 17 ?_
 refine W.qcall (fvictim_fc hp_n hm_n (hq p13).2.1 (hq p13).2.2 (hq p13).1) rfl (g9 14 ?_)
 refine WC.cond rfl (fun h32 => ?_) (fun h32 => ?_)
 ·refine g9 4 ?_
  refine W.qcall (broute_fc hp_n _ (hq p13).1) rfl (g9 12 ?_)
  show Value.tuple #[Value.int _ _, Value.int _ _] = _
  rw [choose_r p13 (fun h => p17 h.1) (by simpa using h32)]
 refine g9 11 ?_
 show Value.tuple #[Value.int _ _, Value.int _ _] = _
 rw [choose_v p13 (fun h => p17 h.1) (by simpa using h32)]

theorem rchoose_fc {G : GH} (cf : Int) (cl : Int) (cb : Int) (cs : Int) (cr : Int) {cs_n : List Value} {n : Nd} (h_n : NodeC G cs_n n) (k : Str) (hq : ChoosePre n) :
    Fc Tryz.prog 33 [.agg #[iV cf, iV cl, iV cb, iV cs, iV cr], .agg (List.toArray cs_n), sV k.b] G [] (fun v _ _ => v = .tuple #[iV ((chooseN (⟨cf, cl, cb, cs, cr⟩ : Cfg) n k).1), iV ((chooseN (⟨cf, cl, cb, cs, cr⟩ : Cfg) n k).2)]) := by
 obtain ⟨_, _, _, _, _, _, _, _, rfl, hp_n, hk_n, hm_n, hr_n, hok_n⟩ := h_n
 refine Fc.go [.tmp 6, .tmp 7] Tryz.func33 Tryz.ntmps33 rfl (fun w0 => (g9 2 ?_))
 refine W.box (L := [iV _, iV _, iV _, iV _, iV _]) rfl rfl (fun b18 => (W.box (L := [iV _, iV _, lV _ _ _, lV _ _ _, sV _, .bool _, iV _, iV _, lV _ _ _, lV _ _ _]) rfl rfl (fun b19 => (g9 12 ?_))))
 refine WC.cd (fun h12 p12 => ?_) (fun h12 p12 => ?_)
 ·refine g9 9 ?_
  show Value.tuple #[Value.int _ _, Value.int _ _] = _
  rw [choose_0 p12]
 refine g9 9 ?_
 refine W.sd 16 (fun h15 p15 => ?_) (fun h15 p15 => ?_)
 ·refine g9 5 ?_
  refine W.qcall (rfull_fc cf cl cb cs cr (n := n) (nk9 hp_n hk_n hm_n hr_n hok_n)) rfl (g9 3 ?_)
  refine WC.cond rfl (fun h19 => ?_) (fun h19 => ?_)
  ·refine g9 9 ?_
   show Value.tuple #[Value.int _ _, Value.int _ _] = _
   rw [choose_1 p12 p15 h19]
  refine g9 8 ?_
  refine W.qcall (rvictim_fc hp_n hm_n (hq p12).2.1 (hq p12).2.2) rfl (g9 14 ?_)
  refine WC.cond rfl (fun h30 => ?_) (fun h30 => ?_)
  ·refine g9 4 ?_
   refine W.qcall (rroute_fc hp_n _) rfl (g9 12 ?_)
   show Value.tuple #[Value.int _ _, Value.int _ _] = _
   rw [choose_r p12 (fun h => by rw [h19] at h; exact absurd h.2 (by simp)) (by simpa using h30)]
  refine g9 11 ?_
  show Value.tuple #[Value.int _ _, Value.int _ _] = _
  rw [choose_v p12 (fun h => by rw [h19] at h; exact absurd h.2 (by simp)) (by simpa using h30)]
 refine g9 15 ?_
 refine W.qcall (rvictim_fc hp_n hm_n (hq p12).2.1 (hq p12).2.2) rfl (g9 14 ?_)
 refine WC.cond rfl (fun h30 => ?_) (fun h30 => ?_)
 ·refine g9 4 ?_
  refine W.qcall (rroute_fc hp_n _) rfl (g9 12 ?_)
  show Value.tuple #[Value.int _ _, Value.int _ _] = _
  rw [choose_r p12 (fun h => p15 h.1) (by simpa using h30)]
 refine g9 11 ?_
 show Value.tuple #[Value.int _ _, Value.int _ _] = _
 rw [choose_v p12 (fun h => p15 h.1) (by simpa using h30)]

end Go.Proofs.YtfmigmijckdldaaGreat
namespace Go.Proofs.YtfmigmijckdldaaGreat
open Go Go.Fw Go.RowKit
attribute [local irreducible] Ok W WC
theorem rmoves_fc {G : GH} (cf : Int) (cl : Int) (cb : Int) (cs : Int) (cr : Int) {cs_k : List Value} {k : Nd} (h_k : NodeC G cs_k k) {v_l : Value} {l : List Msg} (h_l : SlR eMsg G v_l l) (hb : 0 ≤ cb ∧ cb ≤ 9223372036854775807) (hkm : ∀ m ∈ k.msgs, m.key.b.size ≤ 16 ∧ m.val.b.size ≤ 16) (hlR : ∀ m ∈ l, m.R) (hkr : PairsR k.rows) (hsz : k.msgs.length + l.length ≤ 100000 ∧ k.rows.length ≤ 100000) :
    Fc Tryz.prog 80 [.agg #[iV cf, iV cl, iV cb, iV cs, iV cr], .agg (List.toArray cs_k), v_l] G [] (fun v _ _ => v = nt9 ((movedN cl cb k l).2)) := by
 obtain ⟨pa_k, pc_k, ka_k, kc_k, ma_k, mc_k, ra_k, rc_k, rfl, hp_k, hk_k, hm_k, hr_k, hok_k⟩ := h_k
 obtain ⟨sa_l, sc_l, rfl⟩ := h_l.form
 have hl := h_l.len47
 have hlm := hm_k.len47
 have hks := sizes_bound hkm
 have hdl := drain_le cl l k.rows
 refine Fc.go [.tmp 6] Tryz.func80 Tryz.ntmps80 rfl (fun w0 => (g9 2 ?_))
 refine W.box (L := [iV _, iV _, iV _, iV _, iV _]) rfl rfl (fun b1 => (W.box (L := [iV _, iV _, lV _ _ _, lV _ _ _, sV _, .bool _, iV _, iV _, lV _ _ _, lV _ _ _]) rfl rfl (fun b2 => (g9 11 ?_))))
 refine WC.cd (fun h14 p14 => ?_) (fun h14 p14 => ?_)
 ·refine g9 7 ?_
  refine W.call (Mp := []) (rdrain_fc hr_k h_l cl hkr om9 hlR) rfl pr9 ?_
  intro _ G3 _ hG3 q5
  refine match q5 with | ⟨e_6, _, e_7, _, e_8, hv4⟩ => ?_
  subst e_6
  subst e_7
  subst e_8
  have q10 := hv4.form
  refine match q10 with | ⟨sa_hv4, sc_hv4, e_9⟩ => ?_
  subst e_9
  refine g9 16 ?_
  refine congrArg (Value.int .i64) (congrArg Nat.cast ?_)
  rw [moved_0 p14]
 refine g9 6 ?_
 refine W.qcall (msizes_fc hm_k hkm) rfl (g9 17 ?_)
 refine WC.cd (fun h31 p31 => ?_) (fun h31 p31 => ?_)
 ·refine g9 7 ?_
  refine hm_k.a2 (i := k.msgs.length - 1) om9 (fun he11 hm12 => (W.ok (ok_indexAddr (i := k.msgs.length - 1) sl51 ty90 hm_k rfl rfl ⟨om9, om9⟩) (g9 12 ?_)))
  refine WC.loop (X := Nat) (fun j => [(9, iV (sizesN (k.msgs ++ l.take j))), (10, iV (lastS (k.msgs ++ l.take j))), (11, nt9 j), (3, pt9 b1), (4, pt9 b2), (2, lV sa_l l.length sc_l)]) (fun j _ Ml => Ml = [(b2, ce9 53 (ndl k pa_k pc_k ka_k kc_k ma_k mc_k ra_k rc_k)), (b1, ce9 23 [iV cf, iV cl, iV cb, iV cs, iV cr])] ∧ j ≤ l.length ∧ AddsAt cb k.msgs l j) (fun j => l.length - j) 0 ⟨(iv (by rw [List.take_zero, List.append_nil])), (iv (by rw [List.take_zero, List.append_nil, lastS_get om9])), eqv, eqv, eqv, eqv, trivial⟩ ?_ ?_
  ·exact ⟨rfl, om9, AddsAt.zero _ _ _⟩
  rintro j gG16 G16 _ hG16 ⟨rfl, hj, hd⟩
  have hbd := sizes_bound (l := (k.msgs ++ l.take j)) (fun m h => by
      rcases List.mem_append.1 h with h | h
      · exact hkm m h
      · exact msgR_key (hlR m (List.mem_of_mem_take h)))
  have hln : (k.msgs ++ l.take j).length ≤ 100000 := by rw [List.length_append, List.length_take]; omega
  refine g9 9 ?_
  refine WC.cd (fun h44 p44 => ?_) (fun h44 p44 => ?_)
  ·have hz9 := size_36 (msgR_key (hlR _ (List.getElem_mem (by omega : j < l.length))))
   have he9 : Msg.size ⟨(l[j]'om9).stamp, (l[j]'om9).kind, (l[j]'om9).key, (l[j]'om9).hi, (l[j]'om9).opn, (l[j]'om9).val⟩ = (l[j]'om9).size := rfl
   refine g9 9 ?_
   refine (h_l.mono hG16).a2 (i := j) om9 (fun he17 hm18 => (g9 2 ?_))
   refine W.qcall (msize_fc _ _ _ _ _ _) rfl (g9 12 ?_)
   refine W.sd 58 (fun h57 p57 => ?_) (fun h57 p57 => ?_)
   ·refine g9 33 ?_
    refine congrArg (Value.int .i64) (congrArg Nat.cast ?_)
    rw [moved_n p14 (hd.stop om9 (room_f1 om9))]
   refine g9 14 ?_
   refine W.sd 65 (fun h64 p64 => ?_) (fun h64 p64 => ?_)
   ·refine g9 5 ?_
    refine (h_l.mono hG16).a2 (i := j) om9 (fun he22 hm23 => (g9 14 ?_))
    refine WC.cd (fun h72 p72 => ?_) (fun h72 p72 => ?_)
    ·refine g9 14 ?_
     refine congrArg (Value.int .i64) (congrArg Nat.cast ?_)
     rw [moved_n p14 (hd.stop om9 (room_last (by rw [List.length_append, List.length_take]; omega) p72))]
    refine g9 5 ?_
    refine (h_l.mono hG16).a2 (i := j) om9 (fun he27 hm28 => (g9 13 ?_))
    exact ⟨Le.rfl, j + 1, ⟨(iv (by rw [take_app om9, sizes_one])), (iv (by rw [take_app om9, lastS_snoc])), eqv, eqv, eqv, eqv, trivial⟩, ⟨rfl, om9, hd.succ om9 (room_yes om9 (fun _ => by omega))⟩, om9⟩
   refine g9 18 ?_
   refine (h_l.mono hG16).a2 (i := j) om9 (fun he32 hm33 => (g9 13 ?_))
   exact ⟨Le.rfl, j + 1, ⟨(iv (by rw [take_app om9, sizes_one])), (iv (by rw [take_app om9, lastS_snoc])), eqv, eqv, eqv, eqv, trivial⟩, ⟨rfl, om9, hd.succ om9 (room_yes om9 (fun h9 => by rw [List.length_append, List.length_take] at h9; omega))⟩, om9⟩
  refine g9 14 ?_
  refine congrArg (Value.int .i64) (congrArg Nat.cast ?_)
  rw [moved_n p14 (hd.all om9)]
  omega
 refine g9 9 ?_
 refine WC.loop (X := Nat) (fun j => [(9, iV (sizesN (k.msgs ++ l.take j))), (10, iV (lastS (k.msgs ++ l.take j))), (11, nt9 j), (3, pt9 b1), (4, pt9 b2), (2, lV sa_l l.length sc_l)]) (fun j _ Ml => Ml = [(b2, ce9 53 (ndl k pa_k pc_k ka_k kc_k ma_k mc_k ra_k rc_k)), (b1, ce9 23 [iV cf, iV cl, iV cb, iV cs, iV cr])] ∧ j ≤ l.length ∧ AddsAt cb k.msgs l j) (fun j => l.length - j) 0 ⟨(iv (by rw [List.take_zero, List.append_nil])), (iv (by rw [List.take_zero, List.append_nil, lastS_nil om9])), eqv, eqv, eqv, eqv, trivial⟩ ?_ ?_
 ·exact ⟨rfl, om9, AddsAt.zero _ _ _⟩
 rintro j gG37 G37 _ hG37 ⟨rfl, hj, hd⟩
 have hbd := sizes_bound (l := (k.msgs ++ l.take j)) (fun m h => by
      rcases List.mem_append.1 h with h | h
      · exact hkm m h
      · exact msgR_key (hlR m (List.mem_of_mem_take h)))
 have hln : (k.msgs ++ l.take j).length ≤ 100000 := by rw [List.length_append, List.length_take]; omega
 refine g9 9 ?_
 refine WC.cd (fun h44 p44 => ?_) (fun h44 p44 => ?_)
 ·have hz9 := size_36 (msgR_key (hlR _ (List.getElem_mem (by omega : j < l.length))))
  have he9 : Msg.size ⟨(l[j]'om9).stamp, (l[j]'om9).kind, (l[j]'om9).key, (l[j]'om9).hi, (l[j]'om9).opn, (l[j]'om9).val⟩ = (l[j]'om9).size := rfl
  refine g9 9 ?_
  refine (h_l.mono hG37).a2 (i := j) om9 (fun he38 hm39 => (g9 2 ?_))
  refine W.qcall (msize_fc _ _ _ _ _ _) rfl (g9 12 ?_)
  refine W.sd 58 (fun h57 p57 => ?_) (fun h57 p57 => ?_)
  ·refine g9 33 ?_
   refine congrArg (Value.int .i64) (congrArg Nat.cast ?_)
   rw [moved_n p14 (hd.stop om9 (room_f1 om9))]
  refine g9 14 ?_
  refine W.sd 65 (fun h64 p64 => ?_) (fun h64 p64 => ?_)
  ·refine g9 5 ?_
   refine (h_l.mono hG37).a2 (i := j) om9 (fun he43 hm44 => (g9 14 ?_))
   refine WC.cd (fun h72 p72 => ?_) (fun h72 p72 => ?_)
   ·refine g9 14 ?_
    refine congrArg (Value.int .i64) (congrArg Nat.cast ?_)
    rw [moved_n p14 (hd.stop om9 (room_last (by rw [List.length_append, List.length_take]; omega) p72))]
   refine g9 5 ?_
   refine (h_l.mono hG37).a2 (i := j) om9 (fun he48 hm49 => (g9 13 ?_))
   exact ⟨Le.rfl, j + 1, ⟨(iv (by rw [take_app om9, sizes_one])), (iv (by rw [take_app om9, lastS_snoc])), eqv, eqv, eqv, eqv, trivial⟩, ⟨rfl, om9, hd.succ om9 (room_yes om9 (fun _ => by omega))⟩, om9⟩
  refine g9 18 ?_
  refine (h_l.mono hG37).a2 (i := j) om9 (fun he53 hm54 => (g9 13 ?_))
  exact ⟨Le.rfl, j + 1, ⟨(iv (by rw [take_app om9, sizes_one])), (iv (by rw [take_app om9, lastS_snoc])), eqv, eqv, eqv, eqv, trivial⟩, ⟨rfl, om9, hd.succ om9 (room_yes om9 (fun h9 => by rw [List.length_append, List.length_take] at h9; omega))⟩, om9⟩
 refine g9 14 ?_
 refine congrArg (Value.int .i64) (congrArg Nat.cast ?_)
 rw [moved_n p14 (hd.all om9)]
 omega

end Go.Proofs.YtfmigmijckdldaaGreat
