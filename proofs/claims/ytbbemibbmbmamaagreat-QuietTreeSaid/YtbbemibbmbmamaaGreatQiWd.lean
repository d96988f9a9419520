/- Walks of maps behind messages. -/
import Derived.Test.YtbbemibbmbmamaaGreatQiPo
set_option maxRecDepth 100000
set_option maxHeartbeats 1600000
set_option linter.unusedVariables false
set_option linter.unusedSimpArgs false
set_option linter.unnecessarySimpa false
namespace Go.Proofs.YtbbemibbmbmamaaGreat
open Go Go.Fw Go.RowKit
attribute [local irreducible] Ok W WC
theorem ZtW {G : GH} {v_l : Value} {l : List Pair} (h_l : SlR Zp G v_l l) (slo : Str) (shi : Str) (so : Bool) :
    Fc Tryz.prog 241 [v_l, .agg #[sV slo.b, sV shi.b, .bool so]] G [] (fun v G' M' => M' = [] ∧ ∃ u0, v = u0 ∧ SlR Zp G' u0 (l.filter (fun p : Pair => !Span.has ⟨slo, shi, so⟩ p.key))) := by
 obtain ⟨sa_l, sc_l, rfl⟩ := h_l.form
 refine Fc.go [.tmp 4] Tryz.func241 Tryz.ntmps241 rfl (fun w0 => (g9 2 ?_))
 refine W.box (L := [sV _, sV _, .bool _]) rfl rfl (fun b1 => (g9 6 ?_))
 refine W.call (Mp := []) (ZgH h_l) rfl pr9 ?_
 rintro v3 G2 Ms4 hG2 ho5
 refine W.perm (pmC pr9).symm (W.giveB (b := b1) (L := [sV _, sV _, .bool _]) pr9 (fun G6 hG6 hc6 => (W.ok (Zhd (fst := []) (caps := [.tmp 3]) (vs := []) (ws := [pt9 b1]) rfl rfl) (W.call (Mp := Ms4) (ZsR (ho5.mono hG6) _ _ _ hc6) rfl pr9 ?_))))
 rintro v8 G7 Ms9 hG7 ho10
 refine g9 3 ?_
 refine WC.giveO ho10 pr9 (fun G11 hG11 hv11 => (g9 2 ?_))
 refine ⟨rfl, _, rfl, ?_⟩
 · exact hv11

theorem ZlE {G : GH} {v_l : Value} {l : List Pair} (h_l : SlR Zp G v_l l) (ms : Int) (mk : Int) (mkey : Str) (mhi : Str) (mo : Bool) (mv : Str) (hP : PairsR l) (hn : l.length ≤ 1000000) (hk : Msg.fit (⟨ms, mk, mkey, mhi, mo, mv⟩ : Msg)) :
    Fc Tryz.prog 214 [v_l, .agg #[iV ms, iV mk, sV mkey.b, sV mhi.b, .bool mo, sV mv.b]] G [] (fun v G' M' => M' = [] ∧ ∃ u0, v = u0 ∧ SlR Zp G' u0 (takeN l (⟨ms, mk, mkey, mhi, mo, mv⟩ : Msg))) := by
 obtain ⟨sa_l, sc_l, rfl⟩ := h_l.form
 obtain ⟨hk1, hk2, hk3⟩ := hk
 dsimp only at hk1 hk2 hk3
 have hl := h_l.len47
 have hov := ZbG (m := (⟨ms, mk, mkey, mhi, mo, mv⟩ : Msg)) mkey hk3
 refine Fc.go [.tmp 4] Tryz.func214 Tryz.ntmps214 rfl (fun w0 => (g9 2 ?_))
 refine W.box (L := [iV _, iV _, sV _, sV _, .bool _, sV _]) rfl rfl (fun b12 => (g9 11 ?_))
 refine WC.cd (fun h7 p7 => ?_) (fun h7 p7 => ?_)
 ·refine g9 4 ?_
  refine W.qcall (ZcS _ _ _ _ _ _ (by first | assumption | omega | (dsimp only; omega))) rfl (W.cS (ZtW h_l (Msg.span (⟨ms, mk, mkey, mhi, mo, mv⟩ : Msg)).lo (Msg.span (⟨ms, mk, mkey, mhi, mo, mv⟩ : Msg)).hi (Msg.span (⟨ms, mk, mkey, mhi, mo, mv⟩ : Msg)).opn) rfl (fun sa_hv14 sc_hv14 G13 hG13 hv14 => (g9 6 ?_)))
  refine ⟨rfl, _, rfl, ?_⟩
  · have h := hv14; rw [takeN, if_pos p7]; exact h
 refine g9 3 ?_
 refine WC.dw sr9.k9 (d9 [0, 1, 2, 3, 4, 5] ?_)
 refine WD.a1 6 rfl (W.qcall (Zel ms mk mkey mhi mo mv mkey om9) rfl (W.nn (WD.a1 7 rfl (W.cS (ZsU h_l mkey (Msg.on (⟨ms, mk, mkey, mhi, mo, mv⟩ : Msg) mkey).kind (Msg.on (⟨ms, mk, mkey, mhi, mo, mv⟩ : Msg) mkey).val hP hn om9) rfl (fun sa_hv21 sc_hv21 G20 hG20 hv21 => (W.nn (d9 [8] ?_)))))))
 refine g9 4 ?_
 refine ⟨rfl, _, rfl, ?_⟩
 · have h := hv21; rw [takeN, if_neg p7]; exact h

theorem ZtX {G : GH} {v_l : Value} {l : List Pair} (h_l : SlR Zp G v_l l) {v_ms : Value} {ms : List Msg} (h_ms : SlR Zu G v_ms ms) (hP : PairsR l) (hn : l.length + ms.length ≤ 1000000) (hm : ∀ m ∈ ms, m.fit) :
    Fc Tryz.prog 185 [v_l, v_ms] G [] (fun v G' M' => M' = [] ∧ ∃ u0, v = u0 ∧ SlR Zp G' u0 (Zt l ms)) := by
 obtain ⟨sa_l, sc_l, rfl⟩ := h_l.form
 obtain ⟨sa_ms, sc_ms, rfl⟩ := h_ms.form
 have hl := h_l.len47
 have hlm := h_ms.len47
 refine Fc.go [.tmp 4] Tryz.func185 Tryz.ntmps185 rfl (fun w0 => (g9 8 ?_))
 refine W.cS (Jf h_l) rfl (fun sa_hv48 sc_hv48 G47 hG47 hv48 => (g9 12 ?_))
 refine WC.loop (X := (Nat) × Value) (fun k => [(12, nt9 k.1), (10, lV sa_ms ms.length sc_ms), (11, nt9 ((ms).length)), (5, k.2)]) (fun k G Ml => Ml = [] ∧ SlR Zp G k.2 (Zt l (ms.take k.1)) ∧ k.1 ≤ ms.length) (fun k => ms.length - k.1) (0, lV sa_hv48 ((l)).length sc_hv48) hs9 ?_ ?_
 ·exact ⟨rfl, (by simpa [Zt] using hv48), om9⟩
 rintro ⟨k, v_5⟩ gG54 G54 _ hG54 ⟨rfl, ho_5, hk⟩
 try dsimp only at ho_5 hk
 have hPk := PairsR.foldF (ms := ms.take k) hP (fun m h => hm m (List.mem_of_mem_take h))
 have hnk := Ziv (ms := ms.take k) hP (fun m h => hm m (List.mem_of_mem_take h))
 have hkl : (ms.take k).length ≤ k := by simp; omega
 refine WC.fr (f := ZX gG54 [(12, nt9 k), (10, lV sa_ms ms.length sc_ms), (11, nt9 ((ms).length)), (5, v_5)]) rfl (g9 6 ?_)
 refine WC.cd (fun h13 p13 => ?_) (fun h13 p13 => ?_)
 ·refine g9 6 ?_
  refine (h_ms.mono (hG47.trans hG54)).a2 (i := k) om9 (fun he55 hm56 => (g9 2 ?_))
  refine W.alloc Z1 (fun b60 => (g9 6 ?_))
  refine W.cS (ZlE ho_5 ms[k].stamp ms[k].kind ms[k].key ms[k].hi ms[k].opn ms[k].val hPk om9 (hm _ (List.getElem_mem _))) rfl (fun sa_hv62 sc_hv62 G61 hG61 hv62 => (g9 7 ?_))
  refine W.sub (sr9.cons _) (g9 2 ?_)
  exact ⟨hG61, (k + 1, lV sa_hv62 (takeN (Zt l (ms.take k)) ms[k]).length sc_hv62), hs9, ⟨rfl, (by have h := hv62; rw [ZeU om9]; exact h), om9⟩, om9⟩
 refine g9 13 ?_
 refine ⟨rfl, _, rfl, ?_⟩
 · have h := ho_5; rw [List.take_of_length_le om9] at h; exact h

theorem Zer {G : GH} {v_l : Value} {l : List Msg} (h_l : SlR Zu G v_l l) (alo : Str) (ahi : Str) (ao : Bool) (hks : ∀ m ∈ l, m.key.b.size < 140737488355328) :
    Fc Tryz.prog 183 [v_l, .agg #[sV alo.b, sV ahi.b, .bool ao]] G [] (fun v G' M' => M' = [] ∧ ∃ u0, v = u0 ∧ SlR Zu G' u0 (Zc ⟨alo, ahi, ao⟩ l)) := by
 obtain ⟨sa_l, sc_l, rfl⟩ := h_l.form
 have hl := h_l.len47
 have hlb : l.length * 72 ≤ 140737488355328 := h_l.bytes
 refine Fc.go [.tmp 4] Tryz.func183 Tryz.ntmps183 rfl (fun w0 => (g9 2 ?_))
 refine W.box (L := [sV _, sV _, .bool _]) rfl rfl (fun b19 => (g9 17 ?_))
 refine WC.loop (X := (Nat) × Value × MH) (fun i => [(10, lV sa_l l.length sc_l), (11, nt9 l.length), (12, nt9 i.1), (3, pt9 b19), (5, i.2.1)]) (fun i G Ml => Ml = ((b19, ce9 62 [sV alo.b, sV ahi.b, .bool ao]) :: (i.2.2 ++ [])) ∧ OwnR Zu 87 G i.2.1 (Zc ⟨alo, ahi, ao⟩ (l.take i.1)) i.2.2 ∧ i.1 ≤ l.length) (fun i => l.length - i.1) (0, lV none 0 0, ([] : MH)) hs9 ?_ ?_
 ·exact ⟨rfl, (by exact OwnR.nil), om9⟩
 rintro ⟨i, v_5, M_5⟩ gG20 G20 _ hG20 ⟨rfl, ho_5, hi⟩
 try dsimp only at ho_5 hi
 have hcl := Za7 (s := ⟨alo, ahi, ao⟩) (l := l.take i)
 have htl : (l.take i).length ≤ i := by simp; omega
 refine WC.fr (f := ZX gG20 [(10, lV sa_l l.length sc_l), (11, nt9 l.length), (12, nt9 i), (3, pt9 b19), (5, v_5)]) rfl (g9 6 ?_)
 refine WC.cd (fun h13 p13 => ?_) (fun h13 p13 => ?_)
 ·refine g9 6 ?_
  refine (h_l.mono hG20).a2 (i := i) om9 (fun he21 hm22 => (g9 2 ?_))
  refine W.alloc Z1 (fun b26 => (g9 7 ?_))
  refine W.qcall (ZgG _ _ _ _ _ _ _ _ _ (hks _ (List.getElem_mem _))) rfl (g9 3 ?_)
  refine W.alloc Z1 (fun b27 => (g9 9 ?_))
  refine WC.cond rfl (fun h19_1 => ?_) (fun h19_1 => ?_)
  ·refine g9 3 ?_
   refine W.lit (e := Zu) (l := [(Msg.clip l[i] ⟨alo, ahi, ao⟩).1]) (css := [[iV _, iV _, sV _, sV _, .bool _, sV _]]) Z2 Z7 Z1 rfl rfl rfl rfl rfl rfl ⟨⟨rfl, ZeL (by assumption)⟩, trivial⟩ (fun bl28 G28 hG28 hv28 => (W.app (e := Zu) Z2 Z7 Z1 rfl JP rfl rfl ((ho_5.mono hG28)) (hv28) (pmC (pmC (pmC pr9))) (by show ((Zc ⟨alo, ahi, ao⟩ (l.take i)).length + 1) * 72 ≤ _; omega) (fun v29 Ms30 ho31 => (W.perm (pmC (pmC (pmC pr9))).symm (g9 7 ?_)))))
   refine W.sub ((sr9.cons _).cons _) (g9 2 ?_)
   exact ⟨hG28, (i + 1, v29, Ms30), hs9, ⟨rfl, (by have h := ho31; rw [Zm2 om9 h19_1]; exact h), om9⟩, om9⟩
  refine g9 6 ?_
  refine W.sub ((sr9.cons _).cons _) (g9 2 ?_)
  exact ⟨Le.rfl, (i + 1, v_5, M_5), hs9, ⟨rfl, (by have h := ho_5; rw [Zm3 om9 h19_1]; exact h), om9⟩, om9⟩
 refine g9 11 ?_
 refine WC.giveO ho_5 (pmC pr9) (fun G32 hG32 hv32 => (g9 2 ?_))
 refine ⟨rfl, _, rfl, ?_⟩
 · have h := hv32; rw [List.take_of_length_le om9] at h; exact h

theorem ZtY {G : GH} {v_l : Value} {l : List Pair} (h_l : SlR Zp G v_l l) (slo : Str) (shi : Str) (so : Bool) {v_ms : Value} {ms : List Msg} (h_ms : SlR Zu G v_ms ms) (hP : PairsR l) (hn : l.length + ms.length ≤ 1000000) (hm : ∀ m ∈ ms, m.key.b.size ≤ 16 ∧ m.val.b.size ≤ 16) (hs : slo.b.size ≤ 300) :
    Fc Tryz.prog 145 [v_l, .agg #[sV slo.b, sV shi.b, .bool so], v_ms] G [] (fun v G' M' => M' = [] ∧ ∃ u0, v = u0 ∧ SlR Zp G' u0 (Zt (l.filter fun p => Span.has ⟨slo, shi, so⟩ p.key) (Zc ⟨slo, shi, so⟩ ms))) := by
 obtain ⟨sa_l, sc_l, rfl⟩ := h_l.form
 obtain ⟨sa_ms, sc_ms, rfl⟩ := h_ms.form
 have hPf : PairsR (l.filter fun p => Span.has ⟨slo, shi, so⟩ p.key) := hP.filter _
 have hcm := Ziw (s := ⟨slo, shi, so⟩) hs hm
 have hcl : (Zc ⟨slo, shi, so⟩ ms).length ≤ ms.length := Za7
 have hfl := List.length_filter_le (fun p : Pair => Span.has ⟨slo, shi, so⟩ p.key) l
 have hks : ∀ m ∈ ms, m.key.b.size < 140737488355328 := fun m h => by have := (hm m h).1; omega
 refine Fc.go [.tmp 6] Tryz.func145 Tryz.ntmps145 rfl (fun w0 => (g9 2 ?_))
 refine W.box (L := [sV _, sV _, .bool _]) rfl rfl (fun b1 => (g9 4 ?_))
 refine WC.dw sr9.k9 (d9 [0, 1, 3, 4] ?_)
 refine WD.a1 2 rfl (W.cS (ZsP h_l _ _ _ (by first | assumption | omega | (simp; omega) | (exact PairsR.fold (by assumption) (by assumption)))) rfl (fun sa_hv3 sc_hv3 G2 hG2 hv3 => (W.nn (WD.a1 5 rfl (W.cS (Zer (h_ms.mono hG2) slo shi so hks) rfl (fun sa_hv10 sc_hv10 G9 hG9 hv10 => (W.nn (WD.a1 6 rfl (W.cS (ZtX (hv3.mono hG9) hv10 hPf om9 hcm) rfl (fun sa_hv17 sc_hv17 G16 hG16 hv17 => (W.nn (d9 [7] ?_))))))))))))
 refine g9 4 ?_
 refine ⟨rfl, _, rfl, ?_⟩
 · exact hv17

theorem ZlF {G : GH} {v_l : Value} {l : List Nd} (h_l : SlR Zv G v_l l) :
    Fc Tryz.prog 69 [v_l] G [] (fun v G' M' => M' = [] ∧ MpG ZaC G' v (YV l)) := by
 obtain ⟨sa_l, sc_l, rfl⟩ := h_l.form
 have hl := h_l.len47
 refine Fc.go [.tmp 2] Tryz.func69 Tryz.ntmps69 rfl (fun w0 => (g9 7 ?_))
 refine W.makeMap (V := ZaC) (fun bm1 hm2 => (g9 12 ?_))
 refine WC.loop (X := (Nat) × MH) (fun i => [(9, nt9 i.1), (7, lV sa_l l.length sc_l), (8, nt9 ((l).length)), (3, .map (some bm1))]) (fun i G Ml => Ml = (i.2 ++ []) ∧ MpR ZaC bm1 G (YV (l.take i.1)) i.2 ∧ i.1 ≤ l.length) (fun i => l.length - i.1) (0, [(bm1, Obj.map #[] 0)]) hs9 ?_ ?_
 ·exact ⟨rfl, (by exact hm2), om9⟩
 rintro ⟨i, M_3⟩ gG3 G3 _ hG3 ⟨rfl, ho_3, hi⟩
 try dsimp only at ho_3 hi
 refine WC.fr (f := ZX gG3 [(9, nt9 i), (7, lV sa_l l.length sc_l), (8, nt9 ((l).length)), (3, .map (some bm1))]) rfl (g9 6 ?_)
 refine WC.cd (fun h10 p10 => ?_) (fun h10 p10 => ?_)
 ·refine g9 6 ?_
  refine (h_l.mono hG3).aN (i := i) om9 (fun _ _ _ _ _ _ _ _ he4 hp_n5 hk_n5 hm_n5 hr_n5 hok_n5 => (g9 2 ?_))
  refine W.alloc Zm (fun b8 => (g9 8 ?_))
  refine W.mapUp (V := ZaC) (k := ((l)[i]).slot) ZcQ rfl rfl rfl ho_3 (pmC pr9) ⟨_, rfl, (nk9 hp_n5 hk_n5 hm_n5 hr_n5 hok_n5)⟩ (fun Ms9 hm10 => (W.perm (pmC pr9).symm (g9 6 ?_)))
  refine W.sub (sr9.cons _) (g9 2 ?_)
  exact ⟨Le.rfl, (i + 1, Ms9), hs9, ⟨rfl, (by have h := hm10; rw [← ZiV om9] at h; exact h), om9⟩, om9⟩
 refine g9 6 ?_
 have hob := ho_3
 rw [List.take_of_length_le om9] at hob
 refine WC.giveMap hob pr9 (fun G11 hG11 hvG11 => (g9 7 ?_))
 exact ⟨rfl, hvG11⟩

theorem ZtZ {G : GH} {v_at : Value} {c : Cfg} {l : List Nd} {ss : List Seat} (h_at : MpG ZaC G v_at (YV l)) (t : Tree c l ss) (lv : Int) :
    Fc Tryz.prog 120 [v_at, iV lv] G [] (fun v G' M' => M' = [] ∧ ∃ cs n, v = .tuple #[.agg (List.toArray cs), .bool (decide (0 < (Zx ss lv).length))] ∧ NodeC G' cs n ∧ ∀ hp : 0 < (Zx ss lv).length, n = ((Zx ss lv)[0]).n) := by
 obtain ⟨ba_at, rfl⟩ := h_at.form
 have hsl := t.sml.1
 refine Fc.go [.cell 4 60, .tmp 5] Tryz.func120 Tryz.ntmps120 rfl (fun w0 => (g9 2 ?_))
 refine W.alloc Zm (fun b12 => (g9 6 ?_))
 refine W.lookS (V := ZaC) (show ZP (YV l) 0 = some (Zg l 0).n from by have h := t.inMap t.root; rw [t.root0] at h; exact h) ZcQ Zei ⟨_, rfl, ⟨_, _, _, _, _, _, _, _, rfl, SlR.nil, SlR.nil, SlR.nil, SlR.nil, Nd.zero_ok⟩⟩ h_at rfl rfl (fun v13 hv14 => ?_)
 refine match hv14 with | ⟨_, e_16, ⟨pa_mn15, pc_mn15, ka_mn15, kc_mn15, ma_mn15, mc_mn15, ra_mn15, rc_mn15, e_17, hp_mn15, hk_mn15, hm_mn15, hr_mn15, hok_mn15⟩⟩ => ?_
 subst e_16
 subst e_17
 refine g9 3 ?_
 refine W.alloc Zm (fun b18 => (g9 6 ?_))
 refine WC.loop (X := (Seat) × List Value) (fun x => [(7, .bool true), (4, pt9 b12), (6, pt9 b18), (0, .map (some ba_at)), (1, iV lv)]) (fun x G Ml => Ml = [(b18, .cells (List.toArray x.2) 60 (0, 0)), (b12, ce9 60 nz9)] ∧ NodeC G x.2 (x.1.n) ∧ x.1 ∈ ss ∧ (∃ C, Zx ss x.1.n.level = x.1 :: C) ∧ (lv ≤ x.1.n.level ∨ x.1 = Zg l 0)) (fun x => x.1.n.level.toNat) ((Zg l 0), ((ndl (Zg l 0).n pa_mn15 pc_mn15 ka_mn15 kc_mn15 ma_mn15 mc_mn15 ra_mn15 rc_mn15) : List Value)) hs9 ?_ ?_
 ·exact ⟨rfl, (by exact (nk9 hp_mn15 hk_mn15 hm_mn15 hr_mn15 hok_mn15)), t.root, ⟨[], Zrj t⟩, .inr rfl⟩
 rintro ⟨x, C_6⟩ gG19 G19 _ hG19 ⟨rfl, ho_6, hx, hC0, hlx⟩
 try dsimp only at ho_6 hx hC0 hlx
 obtain ⟨C, hC⟩ := hC0
 have hl0 := t.lvl hx
 have hlh := (t.ms_small x hx).2
 have hht := t.height
 refine match ho_6 with | ⟨_, _, _, _, _, _, _, _, e_21, hp_nb20, hk_nb20, hm_nb20, hr_nb20, hok_nb20⟩ => ?_
 subst e_21
 refine WC.fr (f := ZX gG19 [(7, .bool true), (4, pt9 b12), (6, pt9 b18), (0, .map (some ba_at)), (1, iV lv)]) rfl (g9 12 ?_)
 refine W.ok (Zcf rfl rfl) (g9 4 ?_)
 refine W.sd 22 (fun h20 p20 => ?_) (fun h20 p20 => ?_)
 ·try dsimp only at p20
  have hka := Z5 (t.kids hx) om9
  have hkn : 0 < x.n.kids.length := by have := (YM hka.2.2.1).2; omega
  have hat := t.at hx om9 (j := 0) hkn
  refine g9 11 ?_
  refine WC.cd (fun h26 p26 => ?_) (fun h26 p26 => ?_)
  ·try dsimp only at p26
   refine g9 15 ?_
   refine hk_nb20.a2 (i := 0) om9 (fun he22 hi23 => (W.ok (Yu (i := 0) Z8 ty3 hk_nb20 rfl rfl ⟨om9, om9⟩) (g9 1 ?_)))
   refine W.lookS (V := ZaC) (show ZP (YV l) (x.n.kids[0]'om9) = some (Zb l x 0).n from by have h := t.inMap hat.1; rw [hat.2.2.1, (Yv t.slot hat.2.1).1] at h; rw [← hat.2.2.1] at h; exact h) ZcQ Zei ⟨_, rfl, ⟨_, _, _, _, _, _, _, _, rfl, SlR.nil, SlR.nil, SlR.nil, SlR.nil, Nd.zero_ok⟩⟩ (h_at.mono hG19) rfl rfl (fun v26 hv27 => ?_)
   refine match hv27 with | ⟨_, e_29, ⟨pa_mn28, pc_mn28, ka_mn28, kc_mn28, ma_mn28, mc_mn28, ra_mn28, rc_mn28, e_30, hp_mn28, hk_mn28, hm_mn28, hr_mn28, hok_mn28⟩⟩ => ?_
   subst e_29
   subst e_30
   refine g9 23 ?_
   exact ⟨Le.rfl, ((Zb l x 0), (ndl (Zb l x 0).n pa_mn28 pc_mn28 ka_mn28 kc_mn28 ma_mn28 mc_mn28 ra_mn28 rc_mn28)), ⟨(congrArg Value.bool (decide_eq_true (by have := hat.2.2.2; omega))), eqv, eqv, eqv, eqv, trivial⟩, ⟨rfl, (by exact (nk9 hp_mn28 hk_mn28 hm_mn28 hr_mn28 hok_mn28)), hat.1, by have h9 := Zrl t hC om9; rw [← hat.2.2.2] at h9; exact h9, .inl (by have := hat.2.2.2; dsimp only; omega)⟩, by have := hat.2.2.2; dsimp only; omega⟩
  try dsimp only at p26
  exfalso; omega
 try dsimp only at p20
 have hmx : x.n.level ≤ max lv 0 := by omega
 refine g9 14 ?_
 refine WC.dw ((sr9.cons _).k9) (d9 [0, 1, 2, 3, 4, 5, 6, 7, 8, 9] ?_)
 refine g9 4 ?_
 obtain ⟨hf1, hf2⟩ := Zrv t hC hlx hmx
 refine ⟨rfl, _, x.n, ?_, (nk9 hp_nb20 hk_nb20 hm_nb20 hr_nb20 hok_nb20), hf2⟩
 rw [← hf1]; rfl

theorem Zt0 {G : GH} {ly : Nat} (Y : YS Tryz.prog ly) {Ms_y : MH} (h_y : JR Y G ([] : List Nd) Ms_y) {b_1 : Nat} {v_l : Value} {c : Cfg} {l : List Nd} {ss : List Seat} (h_b1 : CellsG G b_1 0 [v_l]) (h_l : SlR Zv G v_l l) (t : Tree c l ss) {b_2 : Nat} {lv : Int} (h_b2 : CellsG G b_2 0 [iV lv]) :
    Fc Tryz.prog 119 [.func (.yield ly) #[] #[], pt9 b_1, pt9 b_2] G Ms_y (fun v G' M' => JR Y G' ((Zx ss lv).map (fun x : Seat => x.n)) M') := by
 obtain ⟨sa_l, sc_l, rfl⟩ := h_l.form
 have hl := h_l.len47
 have hsl := t.sml.1
 have hcl := ZkP t lv
 refine Fc.go [] Tryz.func119 Tryz.ntmps119 rfl (fun w0 => (WC.perm (M' := (Ms_y ++ [])) (by simp) (WC.sr (W.ok (Zcl (vs := lc9) ZgA h_b1 rfl rfl rfl (by simp)) (W.call (Mp := []) (ZlF h_l) rfl pr9 ?_)))))
 intro v1 G2 G2 hG2 q3
 refine match q3 with | ⟨e_6, hmp5⟩ => ?_
 subst e_6
 have q8 := hmp5.form
 refine match q8 with | ⟨b4, e_7⟩ => ?_
 subst e_7
 refine W.as (W.ns (W.mv (W.ok (Zcl (vs := ic9) ty3 (h_b2.mono hG2) rfl rfl rfl (by simp)) (W.call (Mp := []) (ZtZ hmp5 t lv) rfl pr9 ?_))))
 intro v9 G10 _ hG10 q11
 refine match q11 with | ⟨e_12, _, nf, e_13, ⟨pa_fs9, pc_fs9, ka_fs9, kc_fs9, ma_fs9, mc_fs9, ra_fs9, rc_fs9, e_14, hp_fs9, hk_fs9, hm_fs9, hr_fs9, hok_fs9⟩, hnf⟩ => ?_
 subst e_12
 subst e_13
 subst e_14
 refine W.mv (W.ok (Zc8 rfl rfl) (W.ok (Zc8 rfl rfl) (W.alloc Zm (fun b15 => (W.st 0 nd9 nd9 Yd rfl (W.as (W.ns (W.ok (Zcl (vs := lc9) ZgA (h_b1.mono lec) rfl rfl rfl (by simp)) (W.ok (Zc7 Xm (h_l.mono lec) rfl) (W.an (WC.block ?_)))))))))))
 refine WC.loop (X := (Nat × Nd) × MH × List Value) (fun x => [(6, .bool (decide (x.1.1 < (Zx ss lv).length))), (7, iV ((l.length : Int) - ((x.1.1 : Nat) : Int))), (5, pt9 b15), (2, pt9 b_2), (4, .map (some b4)), (0, .func (.yield ly) #[] #[])]) (fun x G Ml => Ml = ((b15, .cells (List.toArray x.2.2) 60 (0, 0)) :: (x.2.1 ++ [])) ∧ JR Y G (Za0 ss lv x.1.1) x.2.1 ∧ NodeC G x.2.2 (x.1.2) ∧ x.1.1 ≤ (Zx ss lv).length ∧ ∀ h : x.1.1 < (Zx ss lv).length, x.1.2 = ((Zx ss lv)[x.1.1]).n) (fun x => (Zx ss lv).length - x.1.1) (((0, nf) : Nat × Nd), Ms_y, ((ndl nf pa_fs9 pc_fs9 ka_fs9 kc_fs9 ma_fs9 mc_fs9 ra_fs9 rc_fs9) : List Value)) hs9 ?_ ?_
 ·exact ⟨rfl, (by exact (JR.mono lec h_y)), (by exact (nk9 hp_fs9 hk_fs9 hm_fs9 hr_fs9 hok_fs9)), Nat.zero_le _, hnf⟩
 rintro ⟨⟨i, n⟩, M_0, C_5⟩ gG16 G16 _ hG16 ⟨rfl, ho_0, ho_5, hi, hn9⟩
 try dsimp only at ho_0 ho_5 hi hn9
 refine match ho_5 with | ⟨_, _, _, _, _, _, _, _, e_18, hp_nb17, hk_nb17, hm_nb17, hr_nb17, hok_nb17⟩ => ?_
 subst e_18
 refine WC.fr (f := ZX gG16 [(6, .bool (decide (i < (Zx ss lv).length))), (7, iV ((l.length : Int) - ((i : Nat) : Int))), (5, pt9 b15), (2, pt9 b_2), (4, .map (some b4)), (0, .func (.yield ly) #[] #[])]) rfl (WC.seq (WC.seq (WC.regionY 14 rfl (W.mv (W.mv ?_)))))
 refine W.sp 19 rfl (fun hok9 => ?_) (fun hok9 => ?_)
 ·have hi9 : i < (Zx ss lv).length := odt hok9
  have hnn := hn9 hi9
  have hmm := ZkO t hi9
  have hns : NdS n := by rw [hnn]; exact t.sml.at (.inr (t.nd hmm.1).2.2)
  refine W.y9 hok9 rfl (W.mv (W.y9 hok9 rfl (W.ok (Zeu rfl rfl) (W.ok (Zc4 rfl hok9) (W.mv ?_)))))
  refine W.sd 23 (fun h21 p21 => ?_) (fun h21 p21 => ?_)
  ·try dsimp only at p21
   refine W.y9 h21 rfl (W.fb ZkY rfl (W.y9 h21 rfl (W.ok (Zao 0 ic9 ty3 rfl) (W.y9 h21 rfl (W.ok (Zcl (vs := ic9) ty3 (h_b2.mono lec) rfl rfl rfl (by simp)) (W.y9 h21 rfl (W.ok (ZlW rfl rfl) (W.ok (Zc4 rfl h21) (W.mv ?_)))))))))
   refine W.sd 29 (fun h27 p27 => ?_) (fun h27 p27 => ?_)
   ·try dsimp only at p27
    refine W.y9 h27 rfl (W.mv (W.y9 h27 rfl (W.ok (Zao 0 nd9 Yd rfl) (W.nil (WI.yield (Mp := M_0) (j := 11) (dj := 29) (Y.call (x := n) (ho_0 : Y.J _ _ _) (nk9 hp_nb17 hk_nb17 hm_nb17 hr_nb17 hok_nb17) (by have := Zrr ss lv i; omega) hns) rfl rfl h27 rfl rfl (pmC pr9) ?_)))))
    intro v19 G20 Ms22 hG20 q21
    refine match q21 with | ⟨e_24, hJ23⟩ => ?_
    subst e_24
    replace hJ23 : JR Y _ _ _ := hJ23
    refine WI.w (W.perm (pmC pr9).symm (W.ok (Zc4 rfl h27) (W.nt (WC.cond_t rfl rfl (WC.sk (WC.seq (WC.block (WC.region (W.mv (W.fb Zk1 rfl (W.ok (Zao 0 ic9 ty3 rfl) (W.lookG (V := ZaC) ZcQ Zei ⟨_, rfl, ⟨_, _, _, _, _, _, _, _, rfl, SlR.nil, SlR.nil, SlR.nil, SlR.nil, Nd.zero_ok⟩⟩ (hmp5.mono lec) rfl rfl (fun v25 hv26 => ?_))))))))))))) (Zct rfl)
    refine match hv26 with | ⟨_, e_28, ⟨pa_mn27, pc_mn27, ka_mn27, kc_mn27, ma_mn27, mc_mn27, ra_mn27, rc_mn27, e_29, hp_mn27, hk_mn27, hm_mn27, hr_mn27, hok_mn27⟩⟩ => ?_
    subst e_28
    subst e_29
    refine W.mv (W.ok (Zc8 rfl rfl) (W.ok (Zc8 rfl rfl) (W.st 0 nd9 nd9 Yd rfl (W.as (W.nil (JV (Xg (WC.region (W.mv (W.ok (Zar rfl rfl om9) (W.an ?_)))))))))))
    exact ⟨hG20, (((i + 1, (ZP (YV l) n.right).getD Nd.zero) : Nat × Nd), Ms22, (ndl ((ZP (YV l) ((n).right)).getD Nd.zero) pa_mn27 pc_mn27 ka_mn27 kc_mn27 ma_mn27 mc_mn27 ra_mn27 rc_mn27)), ⟨(congrArg Value.bool (by rw [hnn]; exact Zro t om9)), eqv, eqv, eqv, eqv, eqv, trivial⟩, ⟨rfl, (by have h := hJ23; rw [hnn, ← Zrq om9] at h; exact h), (by exact (nk9 hp_mn27 hk_mn27 hm_mn27 hr_mn27 hok_mn27)), by dsimp only; omega, fun h9 => by dsimp only at h9 ⊢; rw [hnn]; exact Zrp t h9⟩, by dsimp only; omega⟩
   try dsimp only at p27
   exfalso; exact p27 (by rw [hnn]; exact hmm.2)
  try dsimp only at p21
  exfalso; omega
 have hi9 : ¬ i < (Zx ss lv).length := odf hok9
 refine W.n8 hok9 rfl (W.n8 hok9 rfl (W.ok (Zc5 rfl hok9) (W.mv (W.n8 rfl rfl (W.n8 rfl rfl (W.n8 rfl rfl (W.n8 rfl rfl (W.ok (Zc5 rfl rfl) (W.mv (W.n8 rfl rfl (W.n8 rfl rfl (W.nil (WI.w ?_ (Zct rfl))))))))))))))
 refine W.n8 rfl rfl (W.ok (Zc5 rfl rfl) (W.nt (WC.cond_f rfl rfl (WC.exit (ZgQ (ZgQ (ZlT ?_)))))))
 refine ⟨.inl rfl, [], trivial, M_0, (List.sublist_append_left _ _).cons _, ?_⟩
 have hob := ho_0
 rw [Zrs om9] at hob
 exact hob

theorem Zt1 {G : GH} {v_l : Value} {l : List Nd} (h_l : SlR Zv G v_l l) (lv : Int) :
    Fc Tryz.prog 71 [v_l, iV lv] G [] (fun v G' M' => M' = [] ∧ ∃ b1 b2 vl, v = .func (.func 119) #[] #[pt9 b1, pt9 b2] ∧ CellsG G' b1 0 [vl] ∧ SlR Zv G' vl l ∧ CellsG G' b2 0 [iV lv]) := by
 obtain ⟨sa_l, sc_l, rfl⟩ := h_l.form
 have hl := h_l.len47
 refine Fc.go [.tmp 4] Tryz.func71 Tryz.ntmps71 rfl (fun w0 => (g9 2 ?_))
 refine W.box (L := [lV _ _ _]) rfl rfl (fun b30 => (W.box (L := [iV _]) rfl rfl (fun b31 => (g9 5 ?_))))
 refine W.giveB (b := b30) (L := [lV _ _ _]) ((List.Perm.swap _ _ _).trans (pr9.cons _)) (fun G32 hG32 hc32 => (W.giveB (b := b31) (L := [iV _]) pr9 (fun G33 hG33 hc33 => (W.ok (Zhd (fst := []) (caps := [.tmp 2, .tmp 3]) (vs := []) (ws := [pt9 b30, pt9 b31]) rfl rfl) (g9 5 ?_)))))
 exact ⟨rfl, _, _, _, rfl, (hc32.mono hG33), (h_l.mono lec), hc33⟩

theorem Zt2 {G : GH} {v_l : Value} {l : List Nd} (h_l : SlR Zv G v_l l) {c : Cfg} {ss : List Seat} (t : Tree c l ss) :
    Fc Tryz.prog 34 [v_l] G [] (fun v G' M' => M' = [] ∧ SlR Zp G' v ((List.flatMap (fun n : Nd => n.rows)) ((Zx ss 0).map (fun x : Seat => x.n)))) := by
 obtain ⟨sa_l, sc_l, rfl⟩ := h_l.form
 have hl := h_l.len47
 refine Fc.range (rs := [.tmp 2]) Zsz Tryz.func34 rfl Tryz.ntmps34 rfl rfl rfl rfl rfl rfl rfl rfl rfl (fun w0 => (W.as (W.nil (W.alloc ZrD (fun b1 => (W.nil (W.mv (W.call (Mp := []) (Zt1 h_l 0) rfl pr9 ?_))))))))
 intro v5 G2 Ms4 hG2 q3
 refine match q3 with | ⟨e_6, b_1, b_2, vl9, e_7, hb1, hl9, hb2⟩ => ?_
 subst e_6
 subst e_7
 refine W.nil ?_
 refine ⟨_, _, rfl, fun l9 rO hY => ?_⟩
 have hcall : ∀ {G : GH} {s : List Nd} {M : MH} {cs : List Value} {x : Nd}, AccJ Zp 74 32 (List.flatMap (fun n : Nd => n.rows)) (l9, rO .ready) b1 G s M → NodeC G cs x → s.length < 4096 → NdS x → Yn Tryz.prog l9 [.agg (List.toArray cs)] G M (fun v G' M' => v = .bool true ∧ AccJ Zp 74 32 (List.flatMap (fun n : Nd => n.rows)) (l9, rO .ready) b1 G' (s ++ [x]) M') := by
  intro G s M cs x hJ hx9 hsl9 hns9
  obtain ⟨hall9, v9, Mo, rfl, ho⟩ := hJ
  obtain ⟨sa_o, sc_o, rfl⟩ := ho.form
  obtain ⟨pa_a, pc_a, ka_a, kc_a, ma_a, mc_a, ra_a, rc_a, rfl, hp_a, hk_a, hm_a, hr_a, hok_a⟩ := hx9
  have hfr9 := ZkS hall9
  have hrw9 := hns9.2.2.2.1
  obtain ⟨hso1, hso2⟩ := hok_a.1
  refine AccJ.next hall9 hns9 (hY _ _ _ _ (fun w0 own => (W.perm (M' := ((b1, ce9 32 [lV sa_o ((List.flatMap (fun n : Nd => n.rows)) s).length sc_o]) :: (Mo ++ ([(l9, rO .ready)] ++ [])))) (by rw [← List.cons_append]; exact (pmE _ _).symm) (W.alloc Zm (fun b8 => (W.st 0 nd9 nd9 Yd rfl (W.nil ⟨((b8, ce9 60 (ndl x pa_a pc_a ka_a kc_a ma_a mc_a ra_a rc_a)) :: ((b1, ce9 32 [lV sa_o ((List.flatMap (fun n : Nd => n.rows)) s).length sc_o]) :: (Mo ++ []))), (List.Perm.of_eq List.singleton_append).symm.trans (show (([(l9, rO .ready)] : MH) ++ (((b8, ce9 60 (ndl x pa_a pc_a ka_a kc_a ma_a mc_a ra_a rc_a)) :: ((b1, ce9 32 [lV sa_o ((List.flatMap (fun n : Nd => n.rows)) s).length sc_o]) :: (Mo ++ []))) : MH)).Perm (((b8, ce9 60 (ndl x pa_a pc_a ka_a kc_a ma_a mc_a ra_a rc_a)) :: ((b1, ce9 32 [lV sa_o ((List.flatMap (fun n : Nd => n.rows)) s).length sc_o]) :: (Mo ++ ([(l9, rO .ready)] ++ [])))) : MH) from pmC (pmC (pmA pr9))), (W.perm (M' := ((b8, ce9 60 (ndl x pa_a pc_a ka_a kc_a ma_a mc_a ra_a rc_a)) :: ((b1, ce9 32 [lV sa_o ((List.flatMap (fun n : Nd => n.rows)) s).length sc_o]) :: (Mo ++ ([(l9, rO .busy)] ++ []))))) ((show (([(l9, rO .busy)] : MH) ++ (((b8, ce9 60 (ndl x pa_a pc_a ka_a kc_a ma_a mc_a ra_a rc_a)) :: ((b1, ce9 32 [lV sa_o ((List.flatMap (fun n : Nd => n.rows)) s).length sc_o]) :: (Mo ++ []))) : MH)).Perm (((b8, ce9 60 (ndl x pa_a pc_a ka_a kc_a ma_a mc_a ra_a rc_a)) :: ((b1, ce9 32 [lV sa_o ((List.flatMap (fun n : Nd => n.rows)) s).length sc_o]) :: (Mo ++ ([(l9, rO .busy)] ++ [])))) : MH) from pmC (pmC (pmA pr9))).symm.trans (List.Perm.of_eq List.singleton_append)) (W.ok (Zao 1 lc9 ZcO rfl) (W.fb ZkX rfl (W.ok (Zao 0 lc9 ZcO rfl) (W.app (e := Zp) ZL ZM XN rfl Zbs rfl rfl (ho) (hr_a) (pmC (pmC pr9)) (by show (List.length _ + List.length _) * 32 ≤ _; omega) (fun v9 Ms10 ho11 => (W.perm (pmC (pmC pr9)).symm ?_)))))))⟩)))))))
  have q15 := ho11.form
  refine match q15 with | ⟨sa12, sc13, e_14⟩ => ?_
  subst e_14
  refine W.st 1 lc9 lc9 ZcO rfl (W.nil ⟨((b8, ce9 60 (ndl x pa_a pc_a ka_a kc_a ma_a mc_a ra_a rc_a)) :: ((b1, ce9 32 [lV sa12 ((((List.flatMap (fun n : Nd => n.rows)) s) ++ x.rows)).length sc13]) :: (Ms10 ++ []))), ((b1, ce9 32 [lV sa12 ((((List.flatMap (fun n : Nd => n.rows)) s) ++ x.rows)).length sc13]) :: (Ms10 ++ [])), (List.Perm.of_eq List.singleton_append).symm.trans (show (([(l9, rO .busy)] : MH) ++ (((b8, ce9 60 (ndl x pa_a pc_a ka_a kc_a ma_a mc_a ra_a rc_a)) :: ((b1, ce9 32 [lV sa12 ((((List.flatMap (fun n : Nd => n.rows)) s) ++ x.rows)).length sc13]) :: (Ms10 ++ []))) : MH)).Perm (((b8, ce9 60 (ndl x pa_a pc_a ka_a kc_a ma_a mc_a ra_a rc_a)) :: ((b1, ce9 32 [lV sa12 ((((List.flatMap (fun n : Nd => n.rows)) s) ++ x.rows)).length sc13]) :: (Ms10 ++ ([(l9, rO .busy)] ++ [])))) : MH) from pmC (pmC (pmA pr9))), sr9.cons _, _, _, rfl, ?_⟩)
  rw [List.append_nil]
  have h := ho11; rw [List.flatMap_append]; simpa using h
 refine (Zt0 (⟨AccJ Zp 74 32 (List.flatMap (fun n : Nd => n.rows)) (l9, rO .ready) b1, fun hl h => h.mono hl, hcall⟩ : YS Tryz.prog l9) (show AccJ Zp 74 32 (List.flatMap (fun n : Nd => n.rows)) (l9, rO .ready) b1 _ [] _ from ⟨fun y hy => (by cases hy), _, [], rfl, OwnR.nil⟩) hb1 hl9 t hb2).mono ?_
 rintro v8 G8 M8 hG8 ⟨_, v9, Mo9, rfl, ho9⟩
 obtain ⟨sa9, sc9, rfl⟩ := ho9.form
 refine ⟨_, pr9, fun Md => ?_⟩
 refine W.perm (M' := ((b1, ce9 32 [lV sa9 (((List.flatMap (fun n : Nd => n.rows)) ((Zx ss 0).map (fun x : Seat => x.n)))).length sc9]) :: (Mo9 ++ (Md ++ [])))) (by simp) (W.ok (Zao 0 lc9 ZcO rfl) (W.as (W.giveO ho9 (pmC pr9) (fun G9 hG9 hv9 => (W.nil ⟨[_], [], ⟨rfl, trivial⟩, sr9.cons _, rfl, hv9⟩)))))

theorem ZlG {G : GH} {α : Type} [Inhabited α] {lt : α → α → Bool} {x0 : Value} {Rep : GH → List α → MH → Prop} {EV : GH → Value → α → Prop} {pu : Prop} (hK : HeapK Tryz.prog lt x0 Rep EV pu) {l : List α} {Ms_l : MH} (h_l : Rep G l Ms_l) (i0 : Nat) (n : Nat) (f : Nat) (hf : n ≤ i0 + f) (hn : n ≤ l.length) (hi : i0 ≤ 1000000000000000) :
    Fc Tryz.prog 161 [x0, nt9 i0, nt9 n] G Ms_l (fun v G' M' => (∃ b, v = .bool b) ∧ Rep G' (YG lt f l i0 n) M') := by
 have hbd := hK.bound h_l
 refine Fc.go [.tmp 6] Tryz.func161 Tryz.ntmps161 rfl (fun w0 => (WC.perm (M' := (Ms_l ++ [])) (by simp) (g9 13 ?_)))
 refine WC.loop (X := (Nat × Nat × List α) × MH) (fun x => [(7, nt9 x.1.1), (1, nt9 i0), (2, nt9 n), (0, x0)]) (fun x G Ml => Ml = (x.2 ++ []) ∧ Rep G (x.1.2.2) x.2 ∧ YG lt x.1.2.1 x.1.2.2 x.1.1 n = YG lt f l i0 n ∧ n ≤ x.1.1 + x.1.2.1 ∧ x.1.2.2.length = l.length ∧ x.1.1 ≤ n + 1000000000000000) (fun x => n - x.1.1) (((i0, f, l) : Nat × Nat × List α), Ms_l) hs9 ?_ ?_
 ·exact ⟨rfl, (by simpa using h_l), rfl, hf, rfl, by dsimp only; omega⟩
 rintro ⟨⟨i, f9, L⟩, M_0⟩ gG1 G1 _ hG1 ⟨rfl, ho_0, hd, hfi, hL, hib⟩
 try dsimp only at ho_0 hd hfi hL hib
 have hbL : L.length ≤ 140737488355328 := by omega
 refine WC.fr (f := ZX gG1 [(7, nt9 i), (1, nt9 i0), (2, nt9 n), (0, x0)]) rfl (g9 4 ?_)
 refine W.ok (ZuR rfl rfl om9) (W.ok (Ok.int (n := ((2 * i + 1 : Nat) : Int)) (YY rfl rfl om9) om9) (g9 10 ?_))
 refine W.sd 18 (fun h17 p17 => ?_) (fun h17 p17 => ?_)
 ·try dsimp only at p17
  refine g9 21 ?_
  refine ⟨.inr rfl, [_], ⟨rfl, trivial⟩, M_0, List.sublist_append_left _ _, ?_⟩
  refine ⟨⟨_, rfl⟩, ?_⟩
  have h := ho_0
  rw [ZhK om9] at hd
  rw [← hd]; exact h
 try dsimp only at p17
 refine g9 7 ?_
 refine WC.cd (fun h20 p20 => ?_) (fun h20 p20 => ?_)
 ·try dsimp only at p20
  exfalso; omega
 try dsimp only at p20
 have hkj := Zcr (lt := lt) (l := L) (i := i) (n := n) om9
 refine g9 8 ?_
 refine WC.join (X := Unit) (fun u8 => [(9, nt9 ((YR lt L i n))), (0, x0), (1, nt9 i0), (2, nt9 n), (7, nt9 i)]) (fun u8 _ Ml => Ml = (M_0 ++ [])) ?_ ?_
 ·refine g9 3 ?_
  refine W.ok (Ok.int (n := ((2 * i + 2 : Nat) : Int)) (YY rfl rfl om9) om9) (g9 9 ?_)
  refine W.sd 28 (fun h27 p27 => ?_) (fun h27 p27 => ?_)
  ·try dsimp only at p27
   refine g9 7 ?_
   refine W.inv (hK.less (i := 2 * i + 2) (j := 2 * i + 1) ho_0 om9 om9) rfl rfl pr9 ?_
   intro _ G2 Ms4 hG2 q3
   refine match q3 with | ⟨e_6, eeq3⟩ => ?_
   subst e_6
   have eeq3 := eeq3.symm
   subst eeq3
   refine g9 3 ?_
   refine WC.cond rfl (fun h32 => ?_) (fun h32 => ?_)
   ·refine g9 5 ?_
    exact ⟨hG2, (), ⟨(by exact iv (congrArg Nat.cast (Zny om9 h32).symm)), eqv, eqv, eqv, eqv, trivial⟩, rfl⟩
   refine g9 2 ?_
   exact ⟨hG2, (), ⟨(by exact iv (congrArg Nat.cast (ZhM (.inr h32)).symm)), eqv, eqv, eqv, eqv, trivial⟩, rfl⟩
  try dsimp only at p27
  refine g9 10 ?_
  exact ⟨Le.rfl, (), ⟨(by exact iv (congrArg Nat.cast (ZhM (.inl om9)).symm)), eqv, eqv, eqv, eqv, trivial⟩, rfl⟩
 rintro u8 gG7 G7 _ hG7 rfl
 refine g9 6 ?_
 refine W.inv (hK.less (i := (YR lt L i n)) (j := i) (hK.mono hG7 ho_0) om9 om9) rfl rfl pr9 ?_
 intro _ G8 Ms10 hG8 q9
 refine match q9 with | ⟨e_12, eeq9⟩ => ?_
 subst e_12
 have eeq9 := eeq9.symm
 subst eeq9
 refine g9 3 ?_
 refine WC.cond rfl (fun h39 => ?_) (fun h39 => ?_)
 ·refine g9 15 ?_
  refine ⟨.inr rfl, [_], ⟨rfl, trivial⟩, M_0, List.sublist_append_left _ _, ?_⟩
  refine ⟨⟨_, rfl⟩, ?_⟩
  have h := (hK.mono (hG7.trans hG8) ho_0)
  rw [ZhL om9 (by simpa using h39)] at hd
  rw [← hd]; exact h
 refine g9 7 ?_
 refine W.inv (hK.swap (i := i) (j := (YR lt L i n)) (hK.mono lec ho_0) om9 om9) rfl rfl pr9 ?_
 intro _ G13 Ms15 hG13 q14
 refine match q14 with | ⟨e_18, hR17⟩ => ?_
 subst e_18
 refine g9 8 ?_
 exact ⟨lec, ((((YR lt L i n), f9 - 1, YJ L i (YR lt L i n)) : Nat × Nat × List α), Ms15), hs9, ⟨rfl, (by simpa using hR17), by dsimp only; rw [← hd, Znx hfi om9 (by simpa using h39)], by dsimp only; omega, by dsimp only; rw [XH]; exact hL, by dsimp only; omega⟩, by dsimp only; omega⟩

theorem Zt3 {G : GH} {α : Type} [Inhabited α] {lt : α → α → Bool} {x0 : Value} {Rep : GH → List α → MH → Prop} {EV : GH → Value → α → Prop} {pu : Prop} (hK : HeapK Tryz.prog lt x0 Rep EV pu) {l : List α} {Ms_l : MH} (h_l : Rep G l Ms_l) (j0 : Nat) (f : Nat) (hf : j0 ≤ f) (hj : j0 < l.length) :
    Fc Tryz.prog 205 [x0, nt9 j0] G Ms_l (fun v G' M' => v = .tuple #[] ∧ Rep G' (upL lt f l j0) M') := by
 have hbd := hK.bound h_l
 refine Fc.go [] Tryz.func205 Tryz.ntmps205 rfl (fun w0 => (WC.perm (M' := (Ms_l ++ [])) (by simp) (g9 1 ?_)))
 refine WC.loop (X := (Nat × Nat × List α) × MH) (fun x => [(1, nt9 x.1.1), (0, x0)]) (fun x G Ml => Ml = (x.2 ++ []) ∧ Rep G (x.1.2.2) x.2 ∧ upL lt x.1.2.1 x.1.2.2 x.1.1 = upL lt f l j0 ∧ x.1.1 ≤ x.1.2.1 ∧ x.1.2.2.length = l.length ∧ x.1.1 < l.length) (fun x => x.1.1) (((j0, f, l) : Nat × Nat × List α), Ms_l) hs9 ?_ ?_
 ·exact ⟨rfl, (by simpa using h_l), rfl, hf, rfl, hj⟩
 rintro ⟨⟨j, f9, L⟩, M_0⟩ gG19 G19 _ hG19 ⟨rfl, ho_0, hd, hfi, hL, hjl⟩
 try dsimp only at ho_0 hd hfi hL hjl
 have hbL : L.length ≤ 140737488355328 := by omega
 refine WC.fr (f := ZX gG19 [(1, nt9 j), (0, x0)]) rfl (g9 5 ?_)
 refine W.ok (Ok.int (n := (((j - 1) / 2 : Nat) : Int)) (ZgS rfl rfl om9 (by rw [show (2 : Int) = 2 from rfl, ZhP]; omega)) (ZhP j)) (g9 10 ?_)
 refine W.sd 11 (fun h10 p10 => ?_) (fun h10 p10 => ?_)
 ·try dsimp only at p10
  refine g9 14 ?_
  refine ⟨.inl rfl, [], trivial, M_0, List.sublist_append_left _ _, ?_⟩
  refine ⟨rfl, ?_⟩
  have h := ho_0
  rw [ZhN (.inl om9)] at hd
  rw [← hd]; exact h
 try dsimp only at p10
 refine g9 7 ?_
 refine W.inv (hK.less (i := j) (j := (j - 1) / 2) ho_0 om9 om9) rfl rfl pr9 ?_
 intro _ G20 Ms22 hG20 q21
 refine match q21 with | ⟨e_24, eeq21⟩ => ?_
 subst e_24
 have eeq21 := eeq21.symm
 subst eeq21
 refine g9 5 ?_
 refine WC.cond rfl (fun h16 => ?_) (fun h16 => ?_)
 ·refine g9 5 ?_
  refine ⟨.inl rfl, [], trivial, M_0, List.sublist_append_left _ _, ?_⟩
  refine ⟨rfl, ?_⟩
  have h := (hK.mono hG20 ho_0)
  rw [ZhN (.inr (by simpa using h16))] at hd
  rw [← hd]; exact h
 refine g9 7 ?_
 refine W.inv (hK.swap (i := (j - 1) / 2) (j := j) (hK.mono hG20 ho_0) om9 om9) rfl rfl pr9 ?_
 intro _ G25 Ms27 hG25 q26
 refine match q26 with | ⟨e_30, hR29⟩ => ?_
 subst e_30
 refine g9 8 ?_
 exact ⟨lec, ((((j - 1) / 2, f9 - 1, YJ L ((j - 1) / 2) j) : Nat × Nat × List α), Ms27), hs9, ⟨rfl, (by simpa using hR29), by dsimp only; rw [← hd, Znz hfi om9 (by simpa using h16)], by dsimp only; omega, by dsimp only; rw [XH]; exact hL, by dsimp only; omega⟩, by dsimp only; omega⟩

theorem ZlH {G : GH} {α : Type} [Inhabited α] {lt : α → α → Bool} {x0 : Value} {Rep : GH → List α → MH → Prop} {EV : GH → Value → α → Prop} {pu : Prop} (hK : HeapK Tryz.prog lt x0 Rep EV pu) {l : List α} {Ms_l : MH} (h_l : Rep G l Ms_l) (h0 : 0 < l.length) :
    Fc Tryz.prog 122 [x0] G Ms_l (fun v G' M' => EV G' v (nth l 0) ∧ Rep G' (Y6 lt l) M') := by
 have hbd := hK.bound h_l
 refine Fc.go [.tmp 2] Tryz.func122 Tryz.ntmps122 rfl (fun w0 => (WC.perm (M' := (Ms_l ++ [])) (by simp) (g9 8 ?_)))
 refine W.inv (hK.len h_l) rfl rfl pr9 ?_
 intro _ G31 Ms33 hG31 q32
 refine match q32 with | ⟨e_35, eeq32⟩ => ?_
 subst e_35
 have eeq32 := eeq32.symm
 subst eeq32
 refine W.ok (Ok.int (n := ((l.length - 1 : Nat) : Int)) (Zar rfl rfl om9) om9) (g9 7 ?_)
 refine W.inv (hK.swap (i := 0) (j := l.length - 1) (hK.mono hG31 h_l) om9 om9) rfl rfl pr9 ?_
 intro _ G36 Ms38 hG36 q37
 refine match q37 with | ⟨e_41, hR40⟩ => ?_
 subst e_41
 refine g9 6 ?_
 refine W.call (Mp := Ms38) (ZlG hK hR40 0 _ l.length om9 (by first | omega | (simp only [XH]; omega)) om9) rfl pr9 ?_
 intro _ G42 Ms44 hG42 q43
 refine match q43 with | ⟨⟨_, e_47⟩, hR46⟩ => ?_
 subst e_47
 refine g9 5 ?_
 refine W.inv (hK.pop hR46 (by rw [Zdl, XH]; omega)) rfl rfl pr9 ?_
 intro v51 G48 Ms50 hG48 q49
 refine match q49 with | ⟨hvhR52, hR52⟩ => ?_
 refine g9 4 ?_
 refine ⟨.inr rfl, [_], ⟨rfl, trivial⟩, Ms50, List.sublist_append_left _ _, ?_⟩
 refine ⟨(by have h := hvhR52; rw [(ZhO (lt := lt) h0).2] at h; exact h), ?_⟩
 have h := hR52
 rw [(ZhO h0).1] at h; exact h

theorem ZlI {G : GH} {α : Type} [Inhabited α] {lt : α → α → Bool} {x0 : Value} {Rep : GH → List α → MH → Prop} {EV : GH → Value → α → Prop} (hK : HeapK Tryz.prog lt x0 Rep EV) {l : List α} {Ms_l : MH} (h_l : Rep G l Ms_l) {v_a : Value} {a : α} (h_a : EV G v_a a) (hb : l.length < 1000000) (hEV : ∀ {G G' : GH} {v : Value} {a : α}, Le G G' → EV G v a → EV G' v a) :
    Fc Tryz.prog 171 [x0, v_a] G Ms_l (fun v G' M' => v = .tuple #[] ∧ Rep G' (Zaz lt l a) M') := by
 have hbd := hK.bound h_l
 have hla : (l ++ [a]).length = l.length + 1 := by simp
 refine Fc.go [] Tryz.func171 Tryz.ntmps171 rfl (fun w0 => (WC.perm (M' := (Ms_l ++ [])) (by simp) (g9 4 ?_)))
 refine W.inv (hK.push trivial h_l om9 h_a) rfl rfl pr9 ?_
 intro _ G53 Ms55 hG53 q54
 refine match q54 with | ⟨e_58, hR57⟩ => ?_
 subst e_58
 refine g9 5 ?_
 refine W.inv (hK.len hR57) rfl rfl pr9 ?_
 intro _ G59 Ms61 hG59 q60
 refine match q60 with | ⟨e_63, eeq60⟩ => ?_
 subst e_63
 have eeq60 := eeq60.symm
 subst eeq60
 refine W.ok (Ok.int (n := ((l.length : Nat) : Int)) (Zar rfl rfl om9) om9) (W.call (Mp := Ms55) (Zt3 hK (hK.mono hG59 hR57) _ l.length om9 om9) rfl pr9 ?_)
 intro _ G64 Ms66 hG64 q65
 refine match q65 with | ⟨e_69, hR68⟩ => ?_
 subst e_69
 refine W.nil ?_
 refine ⟨.inl rfl, [], trivial, Ms66, List.sublist_append_left _ _, ?_⟩
 refine ⟨rfl, ?_⟩
 exact hR68

theorem ZlJ {G : GH} {α : Type} [Inhabited α] {lt : α → α → Bool} {x0 : Value} {Rep : GH → List α → MH → Prop} {EV : GH → Value → α → Prop} {pu : Prop} (hK : HeapK Tryz.prog lt x0 Rep EV pu) {l : List α} {Ms_l : MH} (h_l : Rep G l Ms_l) (hh : Heap lt l) (hb : l.length < 1000000) :
    Fc Tryz.prog 121 [x0] G Ms_l (fun v G' M' => v = .tuple #[] ∧ Rep G' (l) M') := by
 have hbd := hK.bound h_l
 refine Fc.go [] Tryz.func121 Tryz.ntmps121 rfl (fun w0 => (WC.perm (M' := (Ms_l ++ [])) (by simp) (g9 3 ?_)))
 refine W.inv (hK.len h_l) rfl rfl pr9 ?_
 intro _ G70 Ms72 hG70 q71
 refine match q71 with | ⟨e_74, eeq71⟩ => ?_
 subst e_74
 have eeq71 := eeq71.symm
 subst eeq71
 refine g9 6 ?_
 refine W.ok (Ok.int (n := ((l.length / 2 : Nat) : Int)) (Zce rfl rfl om9 om9 om9) om9) (g9 5 ?_)
 refine WC.loop (X := (Int) × MH) (fun z => [(3, iV z.1), (2, nt9 ((l).length)), (0, x0)]) (fun z G Ml => Ml = (z.2 ++ []) ∧ Rep G (l) z.2 ∧ -1 ≤ z.1 ∧ z.1 ≤ l.length) (fun z => (z.1 + 1).toNat) (((((l.length / 2 : Nat) : Int) - 1) : Int), Ms_l) hs9 ?_ ?_
 ·exact ⟨rfl, (by simpa using (hK.mono hG70 h_l)), om9, om9⟩
 rintro ⟨z, M_0⟩ gG75 G75 _ hG75 ⟨rfl, ho_0, hz1, hz2⟩
 try dsimp only at ho_0 hz1 hz2
 refine WC.fr (f := ZX gG75 [(3, iV z), (2, nt9 ((l).length)), (0, x0)]) rfl (g9 7 ?_)
 refine WC.cd (fun h10 p10 => ?_) (fun h10 p10 => ?_)
 ·try dsimp only at p10
  obtain ⟨m, rfl⟩ : ∃ m : Nat, z = (m : Int) := ⟨z.toNat, om9⟩
  refine g9 8 ?_
  refine W.call (Mp := M_0) (ZlG hK ho_0 _ _ l.length om9 (by first | omega | (simp only [XH]; omega)) om9) rfl pr9 ?_
  intro _ G76 Ms78 hG76 q77
  refine match q77 with | ⟨⟨_, e_81⟩, hR80⟩ => ?_
  subst e_81
  refine g9 9 ?_
  exact ⟨hG76, (((m : Int) - 1), Ms78), hs9, ⟨rfl, (by have h := hR80; rw [ZnA hh] at h; exact h), by dsimp only; omega, by dsimp only; omega⟩, by dsimp only; omega⟩
 try dsimp only at p10
 refine g9 4 ?_
 refine ⟨.inl rfl, [], trivial, M_0, List.sublist_append_left _ _, ?_⟩
 refine ⟨rfl, ?_⟩
 exact ho_0

theorem Zt4 {G : GH} {v_l : Value} {l : List Int} {Ms_l : MH} (h_l : OwnR ZA 3 G v_l l Ms_l) :
    Fc Tryz.prog 283 [v_l] G Ms_l (fun v _ M' => v = iV ((l.length : Int)) ∧ Ms_l = M') := by
 refine Fc.go [.tmp 2] Tryz.func283 Tryz.ntmps283 rfl (fun w0 => (WC.perm (M' := (Ms_l ++ [])) (by simp) (g9 13 ?_)))
 refine ⟨.inr rfl, [_], ⟨rfl, trivial⟩, Ms_l, List.sublist_append_left _ _, ?_⟩
 exact ⟨rfl, rfl⟩

theorem Zt5 {G : GH} {v_l : Value} {l : List Int} {Ms_l : MH} (h_l : OwnR ZA 3 G v_l l Ms_l) (i : Nat) (j : Nat) (hi : i < l.length) (hj : j < l.length) :
    Fc Tryz.prog 284 [v_l, nt9 i, nt9 j] G Ms_l (fun v _ M' => v = .bool (decide (nth l i < nth l j)) ∧ Ms_l = M') := by
 have hl := h_l.len47
 refine Fc.go [.tmp 6] Tryz.func284 Tryz.ntmps284 rfl (fun w0 => (WC.perm (M' := (Ms_l ++ [])) (by simp) (g9 9 ?_)))
 refine h_l.a2 (i := i) om9 (fun he1 hi2 => (W.ok (Yw (i := i) Xw ty3 h_l rfl rfl ⟨om9, om9⟩) (W.ok (Y4 (vs := ic9) ty3 he1 pr9 rfl rfl rfl (by simp)) (g9 2 ?_))))
 refine h_l.a2 (i := j) om9 (fun he5 hi6 => (W.ok (Yw (i := j) Xw ty3 h_l rfl rfl ⟨om9, om9⟩) (W.ok (Y4 (vs := ic9) ty3 he5 pr9 rfl rfl rfl (by simp)) (g9 5 ?_))))
 refine ⟨.inr rfl, [_], ⟨rfl, trivial⟩, Ms_l, List.sublist_append_left _ _, ?_⟩
 exact ⟨by rw [Yp hi, Yp hj]; rfl, rfl⟩

theorem Zt6 {G : GH} {v_l : Value} {l : List Int} {Ms_l : MH} (h_l : OwnR ZA 3 G v_l l Ms_l) (i : Nat) (j : Nat) (hi : i < l.length) (hj : j < l.length) :
    Fc Tryz.prog 285 [v_l, nt9 i, nt9 j] G Ms_l (fun v G' M' => v = .tuple #[] ∧ OwnR ZA 3 G' v_l (YJ l i j) M') := by
 have hl := h_l.len47
 have ho_i : i64 l[i] := by obtain ⟨_, _, _, h⟩ := h_l.at hi; exact h
 have ho_j : i64 l[j] := by obtain ⟨_, _, _, h⟩ := h_l.at hj; exact h
 have hls : (l.set i l[j]).length = l.length := List.length_set ..
 refine Fc.go [] Tryz.func285 Tryz.ntmps285 rfl (fun w0 => (WC.perm (M' := (Ms_l ++ [])) (by simp) (WC.dw sn9 (d9 [0, 1, 2, 3, 4, 5] ?_))))
 refine h_l.a2 (i := j) om9 (fun he9 hi10 => (WD.tk 6 rfl (Yw (i := j) Xw ty3 h_l rfl rfl ⟨om9, om9⟩) (d9 [8, 9] ?_)))
 refine h_l.a2 (i := i) om9 (fun he13 hi14 => (WD.tk 10 rfl (Yw (i := i) Xw ty3 h_l rfl rfl ⟨om9, om9⟩) ?_))
 refine WD.any [7, 11] (by kernel_rfl) rfl ⟨WD.ap ?_, WD.ap ?_, trivial⟩
 ·refine W.ok (Y4 (vs := ic9) ty3 he9 pr9 rfl rfl rfl (by simp)) (W.nn (WD.a1 11 rfl (W.ok (Y4 (vs := ic9) ty3 he13 pr9 rfl rfl rfl (by simp)) (W.nn (h_l.a2 (i := i) om9 (fun he17 hi18 => (WD.tk 12 rfl (Yw (i := i) Xw ty3 h_l rfl rfl ⟨om9, om9⟩) (WD.a1 13 rfl (W.storeO (i := i) (o := 0) (vs := ic9) (a' := l[j]) ty3 rfl rfl rfl rfl rfl (h_l) pr9 om9 (by decide) (fun cs h => by rw [h.1]; exact ⟨rfl, ho_j⟩) (fun Ms21 ho22 => (W.nn (ho22.a2 (i := j) om9 (fun he23 hi24 => (WD.tk 14 rfl (Yw (i := j) Xw ty3 ho22 rfl rfl ⟨om9, om9⟩) (WD.a1 15 rfl (W.storeO (i := j) (o := 0) (vs := ic9) (a' := l[i]) ty3 rfl rfl rfl rfl rfl (ho22) pr9 om9 (by decide) (fun cs h => by rw [h.1]; exact ⟨rfl, ho_i⟩) (fun Ms27 ho28 => ?_)))))))))))))))))
  refine W.nn (WD.done (by kernel_rfl) ?_)
  refine ⟨.inl rfl, [], trivial, (Ms27 ++ []), sr9, ?_⟩
  have h := ho28
  refine ⟨rfl, ?_⟩
  rw [YJ, Yp hi, Yp hj, List.append_nil]; exact h
 refine W.ok (Y4 (vs := ic9) ty3 he13 pr9 rfl rfl rfl (by simp)) (W.nn (WD.a1 7 rfl (W.ok (Y4 (vs := ic9) ty3 he9 pr9 rfl rfl rfl (by simp)) (W.nn (h_l.a2 (i := i) om9 (fun he29 hi30 => (WD.tk 12 rfl (Yw (i := i) Xw ty3 h_l rfl rfl ⟨om9, om9⟩) (WD.a1 13 rfl (W.storeO (i := i) (o := 0) (vs := ic9) (a' := l[j]) ty3 rfl rfl rfl rfl rfl (h_l) pr9 om9 (by decide) (fun cs h => by rw [h.1]; exact ⟨rfl, ho_j⟩) (fun Ms33 ho34 => (W.nn (ho34.a2 (i := j) om9 (fun he35 hi36 => (WD.tk 14 rfl (Yw (i := j) Xw ty3 ho34 rfl rfl ⟨om9, om9⟩) (WD.a1 15 rfl (W.storeO (i := j) (o := 0) (vs := ic9) (a' := l[i]) ty3 rfl rfl rfl rfl rfl (ho34) pr9 om9 (by decide) (fun cs h => by rw [h.1]; exact ⟨rfl, ho_i⟩) (fun Ms39 ho40 => ?_)))))))))))))))))
 refine W.nn (WD.done (by kernel_rfl) ?_)
 refine ⟨.inl rfl, [], trivial, (Ms39 ++ []), sr9, ?_⟩
 have h := ho40
 refine ⟨rfl, ?_⟩
 rw [YJ, Yp hi, Yp hj, List.append_nil]; exact h

theorem Zt7 {G : GH} {b_b : Nat} {Tb : TypeId} {c0 : Value} {c1 : Value} {v_l : Value} {l : List Int} {Ms_l : MH} (h_l : OwnR ZA 3 G v_l l Ms_l) (a : Int) (hi_a : i64 a) (hb : l.length < 1000000) :
    Fc Tryz.prog 287 [.pointer (some ⟨b_b, 2, none⟩), .iface 3 (iV a)] G ((b_b, ce9 Tb [c0, c1, v_l]) :: (Ms_l)) (fun v G' M' => v = .tuple #[] ∧ ∃ v' Ms', M' = (b_b, ce9 Tb [c0, c1, v']) :: Ms' ∧ OwnR ZA 3 G' v' (l ++ [a]) Ms') := by
 obtain ⟨sa_l, sc_l, rfl⟩ := h_l.form
 refine Fc.go [] Tryz.func287 Tryz.ntmps287 rfl (fun w0 => (WC.perm (M' := ((b_b, ce9 Tb [c0, c1, lV sa_l l.length sc_l]) :: (Ms_l ++ []))) (by simp) (WC.dw (sn9.cons _) (d9 [0, 1, 2, 4] ?_))))
 refine WD.tk 5 rfl (ZeI pi3 rfl) ?_
 refine WD.any [3, 6] (by kernel_rfl) rfl ⟨WD.ap ?_, WD.ap ?_, trivial⟩
 ·refine g9 1 ?_
  refine W.nn (WD.a1 6 rfl (W.lit (e := ZA) (l := [a]) (css := [[iV _]]) Xw ty3 zr3 rfl rfl rfl rfl rfl rfl ⟨⟨rfl, hi_a⟩, trivial⟩ (fun bl41 G41 hG41 hv41 => (W.nn (WD.a1 7 rfl (W.app (e := ZA) Xw ty3 zr3 rfl by3 rfl rfl ((h_l.mono hG41)) (hv41) (pmC pr9) (by show (_ + 1) * 8 ≤ _; omega) (fun v42 Ms43 ho44 => (W.perm (pmC pr9).symm ?_))))))))
  have q48 := ho44.form
  refine match q48 with | ⟨sa45, sc46, e_47⟩ => ?_
  subst e_47
  refine W.nn (d9 [8, 9] ?_)
  refine WD.done (by kernel_rfl) ?_
  refine ⟨.inl rfl, [], trivial, ((b_b, ce9 Tb [c0, c1, lV sa45 ((l ++ [a])).length sc46]) :: (Ms43 ++ [])), sr9.k9, ?_⟩
  exact ⟨rfl, _, _, congrArg _ (List.append_nil _), ho44⟩
 refine W.lit (e := ZA) (l := [a]) (css := [[iV _]]) Xw ty3 zr3 rfl rfl rfl rfl rfl rfl ⟨⟨rfl, hi_a⟩, trivial⟩ (fun bl49 G49 hG49 hv49 => (W.nn (WD.a1 3 rfl (g9 1 ?_))))
 refine W.nn (WD.a1 7 rfl (W.app (e := ZA) Xw ty3 zr3 rfl by3 rfl rfl ((h_l.mono hG49)) (hv49) (pmC pr9) (by show (_ + 1) * 8 ≤ _; omega) (fun v50 Ms51 ho52 => (W.perm (pmC pr9).symm ?_))))
 have q56 := ho52.form
 refine match q56 with | ⟨sa53, sc54, e_55⟩ => ?_
 subst e_55
 refine W.nn (d9 [8, 9] ?_)
 refine WD.done (by kernel_rfl) ?_
 refine ⟨.inl rfl, [], trivial, ((b_b, ce9 Tb [c0, c1, lV sa53 ((l ++ [a])).length sc54]) :: (Ms51 ++ [])), sr9.k9, ?_⟩
 exact ⟨rfl, _, _, congrArg _ (List.append_nil _), ho52⟩

theorem Zt8 {G : GH} {b_b : Nat} {Tb : TypeId} {c0 : Value} {c1 : Value} {v_l : Value} {l : List Int} {Ms_l : MH} (h_l : OwnR ZA 3 G v_l l Ms_l) (h0 : 0 < l.length) :
    Fc Tryz.prog 286 [.pointer (some ⟨b_b, 2, none⟩)] G ((b_b, ce9 Tb [c0, c1, v_l]) :: (Ms_l)) (fun v G' M' => v = .iface 3 (iV (nth l (l.length - 1))) ∧ i64 (nth l (l.length - 1)) ∧ ∃ v' Ms', M' = (b_b, ce9 Tb [c0, c1, v']) :: Ms' ∧ OwnR ZA 3 G' v' (l.take (l.length - 1)) Ms') := by
 obtain ⟨sa_l, sc_l, rfl⟩ := h_l.form
 have hl := h_l.len47
 have hlast : nth l (l.length - 1) = l[l.length - 1] := Yp om9
 have ho_z : i64 l[l.length - 1] := by obtain ⟨_, _, _, h⟩ := h_l.at (i := l.length - 1) om9; exact h
 refine Fc.go [.tmp 2] Tryz.func286 Tryz.ntmps286 rfl (fun w0 => (WC.perm (M' := ((b_b, ce9 Tb [c0, c1, lV sa_l l.length sc_l]) :: (Ms_l ++ []))) (by simp) (g9 11 ?_)))
 refine W.ok (Ok.int (n := ((l.length - 1 : Nat) : Int)) (Zar rfl rfl om9) om9) (g9 9 ?_)
 refine h_l.a2 (i := l.length - 1) om9 (fun he57 hi58 => (W.ok (Yw (i := l.length - 1) Xw ty3 h_l rfl rfl ⟨om9, om9⟩) (W.ok (Y4 (vs := ic9) ty3 he57 (pmC pr9) rfl rfl rfl (by simp)) (g9 10 ?_))))
 refine W.shortO (l.length - 1) Xw ty3 h_l rfl ⟨_, _, rfl, om9⟩ om9 (fun v61 ho62 => ?_)
 have q66 := ho62.form
 refine match q66 with | ⟨sa63, sc64, e_65⟩ => ?_
 subst e_65
 refine g9 7 ?_
 refine W.ok (Zau pi3 rfl) (g9 4 ?_)
 refine ⟨.inr rfl, [_], ⟨rfl, trivial⟩, ((b_b, ce9 Tb [c0, c1, lV sa63 (((l).take (l.length - 1))).length sc64]) :: (Ms_l ++ [])), sr9.k9, ?_⟩
 exact ⟨by rw [hlast]; rfl, by rw [hlast]; exact ho_z, _, _, congrArg _ (List.append_nil _), ho62⟩

theorem ZlK {G : GH} {v_l : Value} {l : List Hd} {Ms_l : MH} (h_l : OwnR Jj 271 G v_l l Ms_l) :
    Fc Tryz.prog 213 [v_l] G Ms_l (fun v _ M' => v = iV ((l.length : Int)) ∧ Ms_l = M') := by
 refine Fc.go [.tmp 2] Tryz.func213 Tryz.ntmps213 rfl (fun w0 => (WC.perm (M' := (Ms_l ++ [])) (by simp) (g9 13 ?_)))
 refine ⟨.inr rfl, [_], ⟨rfl, trivial⟩, Ms_l, List.sublist_append_left _ _, ?_⟩
 exact ⟨rfl, rfl⟩

theorem Zt9 {G : GH} {v_l : Value} {l : List Hd} {Ms_l : MH} (h_l : OwnR Jj 271 G v_l l Ms_l) (i : Nat) (j : Nat) (hi : i < l.length) (hj : j < l.length) (hi0 : 0 < l[i].1.length) (hj0 : 0 < l[j].1.length) :
    Fc Tryz.prog 288 [v_l, nt9 i, nt9 j] G Ms_l (fun v _ M' => v = .bool (Hd.lt (nth l i) (nth l j)) ∧ Ms_l = M') := by
 have hl := h_l.len47
 refine Fc.go [.tmp 6] Tryz.func288 Tryz.ntmps288 rfl (fun w0 => (WC.perm (M' := (Ms_l ++ [])) (by simp) (g9 6 ?_)))
 refine WC.dw sr9 (d9 [0, 1] ?_)
 have q4 := h_l.at (i := i) om9
 refine match q4 with | ⟨_, he1, ⟨_, _, e_3, hw_n2, hok_n2⟩⟩ => ?_
 subst e_3
 refine WD.tk 2 rfl (Yw (i := i) XZ YQ h_l rfl rfl ⟨om9, om9⟩) (WD.tk 3 rfl (Y4 (vs := [lV _ _ _, iV _]) YQ he1 pr9 rfl rfl rfl (by simp)) (d9 [4, 5] ?_))
 have q8 := h_l.at (i := j) om9
 refine match q8 with | ⟨_, he5, ⟨_, _, e_7, hw_n6, hok_n6⟩⟩ => ?_
 subst e_7
 refine WD.tk 6 rfl (Yw (i := j) XZ YQ h_l rfl rfl ⟨om9, om9⟩) (WD.tk 7 rfl (Y4 (vs := [lV _ _ _, iV _]) YQ he5 pr9 rfl rfl rfl (by simp)) ?_)
 refine WD.any [8, 9] (by kernel_rfl) rfl ⟨WD.ap ?_, WD.ap ?_, trivial⟩
 ·refine W.alloc JQ (fun b9 => (W.nn (WD.a1 9 rfl (W.alloc JQ (fun b10 => (W.nn (d9 [10, 11] ?_)))))))
  refine g9 6 ?_
  refine hw_n2.a2 (i := 0) om9 (fun he11 hm12 => (W.ok (Yu (i := 0) Z2 Z7 hw_n2 rfl rfl ⟨om9, om9⟩) (g9 4 ?_)))
  refine hw_n6.a2 (i := 0) om9 (fun he16 hm17 => (W.ok (Yu (i := 0) Z2 Z7 hw_n6 rfl rfl ⟨om9, om9⟩) (g9 4 ?_)))
  refine W.sd 28 (fun h27 p27 => ?_) (fun h27 p27 => ?_)
  ·refine g9 23 ?_
   refine ⟨.inr rfl, [_], ⟨rfl, trivial⟩, Ms_l, ((List.sublist_append_left _ _).cons _).cons _, ?_⟩
   refine ⟨?_, rfl⟩
   refine congrArg Value.bool ?_
   rw [Yp hi, Yp hj, Hd.lt, Hd.st_at hi0, Hd.st_at hj0]
   simp_all
  refine g9 5 ?_
  refine hw_n2.a2 (i := 0) om9 (fun he21 hm22 => (W.ok (Yu (i := 0) Z2 Z7 hw_n2 rfl rfl ⟨om9, om9⟩) (g9 9 ?_)))
  refine hw_n6.a2 (i := 0) om9 (fun he26 hm27 => (W.ok (Yu (i := 0) Z2 Z7 hw_n6 rfl rfl ⟨om9, om9⟩) (g9 8 ?_)))
  refine W.sd 40 (fun h39 p39 => ?_) (fun h39 p39 => ?_)
  ·refine g9 17 ?_
   refine ⟨.inr rfl, [_], ⟨rfl, trivial⟩, Ms_l, ((List.sublist_append_left _ _).cons _).cons _, ?_⟩
   refine ⟨?_, rfl⟩
   refine congrArg Value.bool ?_
   rw [Yp hi, Yp hj, Hd.lt, Hd.st_at hi0, Hd.st_at hj0]
   simp_all
  refine g9 12 ?_
  refine ⟨.inr rfl, [_], ⟨rfl, trivial⟩, Ms_l, ((List.sublist_append_left _ _).cons _).cons _, ?_⟩
  refine ⟨?_, rfl⟩
  refine congrArg Value.bool ?_
  rw [Yp hi, Yp hj, Hd.lt, Hd.st_at hi0, Hd.st_at hj0]
  simp_all
 refine W.alloc JQ (fun b31 => (W.nn (WD.a1 8 rfl (W.alloc JQ (fun b32 => (W.nn (d9 [10, 11] ?_)))))))
 refine g9 6 ?_
 refine hw_n2.a2 (i := 0) om9 (fun he33 hm34 => (W.ok (Yu (i := 0) Z2 Z7 hw_n2 rfl rfl ⟨om9, om9⟩) (g9 4 ?_)))
 refine hw_n6.a2 (i := 0) om9 (fun he38 hm39 => (W.ok (Yu (i := 0) Z2 Z7 hw_n6 rfl rfl ⟨om9, om9⟩) (g9 4 ?_)))
 refine W.sd 28 (fun h27 p27 => ?_) (fun h27 p27 => ?_)
 ·refine g9 23 ?_
  refine ⟨.inr rfl, [_], ⟨rfl, trivial⟩, Ms_l, ((List.sublist_append_left _ _).cons _).cons _, ?_⟩
  refine ⟨?_, rfl⟩
  refine congrArg Value.bool ?_
  rw [Yp hi, Yp hj, Hd.lt, Hd.st_at hi0, Hd.st_at hj0]
  simp_all
 refine g9 5 ?_
 refine hw_n2.a2 (i := 0) om9 (fun he43 hm44 => (W.ok (Yu (i := 0) Z2 Z7 hw_n2 rfl rfl ⟨om9, om9⟩) (g9 9 ?_)))
 refine hw_n6.a2 (i := 0) om9 (fun he48 hm49 => (W.ok (Yu (i := 0) Z2 Z7 hw_n6 rfl rfl ⟨om9, om9⟩) (g9 8 ?_)))
 refine W.sd 40 (fun h39 p39 => ?_) (fun h39 p39 => ?_)
 ·refine g9 17 ?_
  refine ⟨.inr rfl, [_], ⟨rfl, trivial⟩, Ms_l, ((List.sublist_append_left _ _).cons _).cons _, ?_⟩
  refine ⟨?_, rfl⟩
  refine congrArg Value.bool ?_
  rw [Yp hi, Yp hj, Hd.lt, Hd.st_at hi0, Hd.st_at hj0]
  simp_all
 refine g9 12 ?_
 refine ⟨.inr rfl, [_], ⟨rfl, trivial⟩, Ms_l, ((List.sublist_append_left _ _).cons _).cons _, ?_⟩
 refine ⟨?_, rfl⟩
 refine congrArg Value.bool ?_
 rw [Yp hi, Yp hj, Hd.lt, Hd.st_at hi0, Hd.st_at hj0]
 simp_all

theorem Zua {G : GH} {v_l : Value} {l : List Hd} {Ms_l : MH} (h_l : OwnR Jj 271 G v_l l Ms_l) (i : Nat) (j : Nat) (hi : i < l.length) (hj : j < l.length) :
    Fc Tryz.prog 291 [v_l, nt9 i, nt9 j] G Ms_l (fun v G' M' => v = .tuple #[] ∧ OwnR Jj 271 G' v_l (YJ l i j) M') := by
 have hl := h_l.len47
 have hls : (l.set i l[j]).length = l.length := List.length_set ..
 refine Fc.go [] Tryz.func291 Tryz.ntmps291 rfl (fun w0 => (WC.perm (M' := (Ms_l ++ [])) (by simp) (WC.dw sn9 (d9 [0, 1, 2, 3, 4, 5] ?_))))
 have q56 := h_l.at (i := j) om9
 refine match q56 with | ⟨_, he53, ⟨_, _, e_55, hw_n54, hok_n54⟩⟩ => ?_
 subst e_55
 refine WD.tk 6 rfl (Yw (i := j) XZ YQ h_l rfl rfl ⟨om9, om9⟩) (d9 [8, 9] ?_)
 have q60 := h_l.at (i := i) om9
 refine match q60 with | ⟨_, he57, ⟨_, _, e_59, hw_n58, hok_n58⟩⟩ => ?_
 subst e_59
 refine WD.tk 10 rfl (Yw (i := i) XZ YQ h_l rfl rfl ⟨om9, om9⟩) ?_
 refine WD.any [7, 11] (by kernel_rfl) rfl ⟨WD.ap ?_, WD.ap ?_, trivial⟩
 ·refine W.ok (Y4 (vs := [lV _ _ _, iV _]) YQ he53 pr9 rfl rfl rfl (by simp)) (W.nn (WD.a1 11 rfl (W.ok (Y4 (vs := [lV _ _ _, iV _]) YQ he57 pr9 rfl rfl rfl (by simp)) (W.nn ?_))))
  have q64 := h_l.at (i := i) om9
  refine match q64 with | ⟨_, he61, ⟨_, _, e_63, hw_n62, hok_n62⟩⟩ => ?_
  subst e_63
  refine WD.tk 12 rfl (Yw (i := i) XZ YQ h_l rfl rfl ⟨om9, om9⟩) (WD.a1 13 rfl (W.storeO (i := i) (o := 0) (vs := [lV _ _ _, iV _]) (a' := l[j]) YQ rfl rfl rfl rfl rfl (h_l) pr9 om9 (by decide) (fun cs h => by obtain ⟨_, _, rfl, _⟩ := h; exact ⟨_, _, rfl, hw_n54, hok_n54⟩) (fun Ms65 ho66 => (W.nn ?_))))
  have q70 := ho66.at (i := j) om9
  refine match q70 with | ⟨_, he67, ⟨_, _, e_69, hw_n68, hok_n68⟩⟩ => ?_
  subst e_69
  refine WD.tk 14 rfl (Yw (i := j) XZ YQ ho66 rfl rfl ⟨om9, om9⟩) (WD.a1 15 rfl (W.storeO (i := j) (o := 0) (vs := [lV _ _ _, iV _]) (a' := l[i]) YQ rfl rfl rfl rfl rfl (ho66) pr9 om9 (by decide) (fun cs h => by obtain ⟨_, _, rfl, _⟩ := h; exact ⟨_, _, rfl, hw_n58, hok_n58⟩) (fun Ms71 ho72 => (W.nn (WD.done (by kernel_rfl) ?_)))))
  refine ⟨.inl rfl, [], trivial, (Ms71 ++ []), sr9, ?_⟩
  have h := ho72
  refine ⟨rfl, ?_⟩
  rw [YJ, Yp hi, Yp hj, List.append_nil]; exact h
 refine W.ok (Y4 (vs := [lV _ _ _, iV _]) YQ he57 pr9 rfl rfl rfl (by simp)) (W.nn (WD.a1 7 rfl (W.ok (Y4 (vs := [lV _ _ _, iV _]) YQ he53 pr9 rfl rfl rfl (by simp)) (W.nn ?_))))
 have q76 := h_l.at (i := i) om9
 refine match q76 with | ⟨_, he73, ⟨_, _, e_75, hw_n74, hok_n74⟩⟩ => ?_
 subst e_75
 refine WD.tk 12 rfl (Yw (i := i) XZ YQ h_l rfl rfl ⟨om9, om9⟩) (WD.a1 13 rfl (W.storeO (i := i) (o := 0) (vs := [lV _ _ _, iV _]) (a' := l[j]) YQ rfl rfl rfl rfl rfl (h_l) pr9 om9 (by decide) (fun cs h => by obtain ⟨_, _, rfl, _⟩ := h; exact ⟨_, _, rfl, hw_n54, hok_n54⟩) (fun Ms77 ho78 => (W.nn ?_))))
 have q82 := ho78.at (i := j) om9
 refine match q82 with | ⟨_, he79, ⟨_, _, e_81, hw_n80, hok_n80⟩⟩ => ?_
 subst e_81
 refine WD.tk 14 rfl (Yw (i := j) XZ YQ ho78 rfl rfl ⟨om9, om9⟩) (WD.a1 15 rfl (W.storeO (i := j) (o := 0) (vs := [lV _ _ _, iV _]) (a' := l[i]) YQ rfl rfl rfl rfl rfl (ho78) pr9 om9 (by decide) (fun cs h => by obtain ⟨_, _, rfl, _⟩ := h; exact ⟨_, _, rfl, hw_n58, hok_n58⟩) (fun Ms83 ho84 => (W.nn (WD.done (by kernel_rfl) ?_)))))
 refine ⟨.inl rfl, [], trivial, (Ms83 ++ []), sr9, ?_⟩
 have h := ho84
 refine ⟨rfl, ?_⟩
 rw [YJ, Yp hi, Yp hj, List.append_nil]; exact h

theorem Zub {G : GH} {b_b : Nat} {Tb : TypeId} {v_l : Value} {l : List Hd} {Ms_l : MH} (h_l : OwnR Jj 271 G v_l l Ms_l) {pa_a : Option Addr} {pc_a : Nat} {a : Hd} (hw_a : SlR Zu G (lV pa_a a.1.length pc_a) a.1) (hok_a : i64 a.2) (hb : l.length < 1000000) :
    Fc Tryz.prog 290 [pt9 b_b, .iface 271 (.agg #[lV pa_a a.1.length pc_a, iV a.2])] G ((b_b, ce9 Tb [v_l]) :: (Ms_l)) (fun v G' M' => v = .tuple #[] ∧ ∃ v' Ms', M' = (b_b, ce9 Tb [v']) :: Ms' ∧ OwnR Jj 271 G' v' (l ++ [a]) Ms') := by
 obtain ⟨sa_l, sc_l, rfl⟩ := h_l.form
 refine Fc.go [] Tryz.func290 Tryz.ntmps290 rfl (fun w0 => (WC.perm (M' := ((b_b, ce9 Tb [lV sa_l l.length sc_l]) :: (Ms_l ++ []))) (by simp) (WC.dw (sn9.cons _) (d9 [0, 1, 2, 4] ?_))))
 refine WD.tk 5 rfl (ZeI ZcP rfl) ?_
 refine WD.any [3, 6] (by kernel_rfl) rfl ⟨WD.ap ?_, WD.ap ?_, trivial⟩
 ·refine g9 1 ?_
  refine W.nn (WD.a1 6 rfl (W.lit (e := Jj) (l := [a]) (css := [[lV _ _ _, iV _]]) XZ YQ JQ rfl rfl rfl rfl rfl rfl ⟨⟨_, _, rfl, hw_a, hok_a⟩, trivial⟩ (fun bl85 G85 hG85 hv85 => (W.nn (WD.a1 7 rfl (W.app (e := Jj) XZ YQ JQ rfl Zk6 rfl rfl ((h_l.mono hG85)) (hv85) (pmC pr9) (by show (_ + 1) * 32 ≤ _; omega) (fun v86 Ms87 ho88 => (W.perm (pmC pr9).symm ?_))))))))
  have q92 := ho88.form
  refine match q92 with | ⟨sa89, sc90, e_91⟩ => ?_
  subst e_91
  refine W.nn (d9 [8, 9] ?_)
  refine WD.done (by kernel_rfl) ?_
  refine ⟨.inl rfl, [], trivial, ((b_b, ce9 Tb [lV sa89 ((l ++ [a])).length sc90]) :: (Ms87 ++ [])), sr9.k9, ?_⟩
  exact ⟨rfl, _, _, congrArg _ (List.append_nil _), ho88⟩
 refine W.lit (e := Jj) (l := [a]) (css := [[lV _ _ _, iV _]]) XZ YQ JQ rfl rfl rfl rfl rfl rfl ⟨⟨_, _, rfl, hw_a, hok_a⟩, trivial⟩ (fun bl93 G93 hG93 hv93 => (W.nn (WD.a1 3 rfl (g9 1 ?_))))
 refine W.nn (WD.a1 7 rfl (W.app (e := Jj) XZ YQ JQ rfl Zk6 rfl rfl ((h_l.mono hG93)) (hv93) (pmC pr9) (by show (_ + 1) * 32 ≤ _; omega) (fun v94 Ms95 ho96 => (W.perm (pmC pr9).symm ?_))))
 have q100 := ho96.form
 refine match q100 with | ⟨sa97, sc98, e_99⟩ => ?_
 subst e_99
 refine W.nn (d9 [8, 9] ?_)
 refine WD.done (by kernel_rfl) ?_
 refine ⟨.inl rfl, [], trivial, ((b_b, ce9 Tb [lV sa97 ((l ++ [a])).length sc98]) :: (Ms95 ++ [])), sr9.k9, ?_⟩
 exact ⟨rfl, _, _, congrArg _ (List.append_nil _), ho96⟩

theorem Zuc {G : GH} {b_b : Nat} {Tb : TypeId} {v_l : Value} {l : List Hd} {Ms_l : MH} (h_l : OwnR Jj 271 G v_l l Ms_l) (h0 : 0 < l.length) :
    Fc Tryz.prog 289 [pt9 b_b] G ((b_b, ce9 Tb [v_l]) :: (Ms_l)) (fun v G' M' => (∃ p c, v = .iface 271 (.agg (List.toArray [lV p (nth l (l.length - 1)).1.length c, iV (nth l (l.length - 1)).2])) ∧ SlR Zu G' (lV p (nth l (l.length - 1)).1.length c) (nth l (l.length - 1)).1 ∧ i64 (nth l (l.length - 1)).2) ∧ ∃ v' Ms', M' = (b_b, ce9 Tb [v']) :: Ms' ∧ OwnR Jj 271 G' v' (l.take (l.length - 1)) Ms') := by
 obtain ⟨sa_l, sc_l, rfl⟩ := h_l.form
 have hl := h_l.len47
 have hlast : nth l (l.length - 1) = l[l.length - 1] := Yp om9
 refine Fc.go [.tmp 2] Tryz.func289 Tryz.ntmps289 rfl (fun w0 => (WC.perm (M' := ((b_b, ce9 Tb [lV sa_l l.length sc_l]) :: (Ms_l ++ []))) (by simp) (g9 11 ?_)))
 refine W.ok (Ok.int (n := ((l.length - 1 : Nat) : Int)) (Zar rfl rfl om9) om9) (g9 9 ?_)
 have q104 := h_l.at (i := l.length - 1) om9
 refine match q104 with | ⟨_, he101, ⟨_, _, e_103, hw_n102, hok_n102⟩⟩ => ?_
 subst e_103
 refine W.ok (Yw (i := l.length - 1) XZ YQ h_l rfl rfl ⟨om9, om9⟩) (W.ok (Y4 (vs := [lV _ _ _, iV _]) YQ he101 (pmC pr9) rfl rfl rfl (by simp)) (W.alloc JQ (fun b105 => (g9 10 ?_))))
 refine W.shortO (l.length - 1) XZ YQ h_l rfl ⟨_, _, rfl, om9⟩ om9 (fun v106 ho107 => ?_)
 have q111 := ho107.form
 refine match q111 with | ⟨sa108, sc109, e_110⟩ => ?_
 subst e_110
 refine g9 7 ?_
 refine W.ok (Zau ZcP rfl) (g9 4 ?_)
 refine ⟨.inr rfl, [_], ⟨rfl, trivial⟩, ((b_b, ce9 Tb [lV sa108 (((l).take (l.length - 1))).length sc109]) :: (Ms_l ++ [])), sr9.k9.cons _, ?_⟩
 exact ⟨by rw [hlast]; exact ⟨_, _, rfl, hw_n102, hok_n102⟩, _, _, congrArg _ (List.append_nil _), ho107⟩


abbrev LeastR (b : Nat) (Tb : TypeId) (c0 c1 : Value) (G : GH) (l : List Int) (M : MH) : Prop := ∃ v Ms, M = (b, ce9 Tb [c0, c1, v]) :: Ms ∧ OwnR ZA 3 G v l Ms
theorem ZgN {b : Nat} {Tb : TypeId} {c0 c1 : Value} : HeapK Tryz.prog (fun a b : Int => decide (a < b)) (.iface 173 (.pointer (some ⟨b, 2, none⟩))) (LeastR b Tb c0 c1) (fun _ u a => u = .iface 3 (iV a) ∧ i64 a) where
  mono := fun hl ⟨v, Ms, h1, h2⟩ => ⟨v, Ms, h1, h2.mono hl⟩
  bound := fun ⟨v, Ms, h1, h2⟩ => h2.len47
  len := fun {G l M} ⟨v, Ms, h1, h2⟩ => by
    subst h1
    exact Inv.val (e := 169) (by kernel_rfl) (by kernel_rfl) rfl (Zt4 h2) (fun v' G' M' hl ⟨e1, e2⟩ => ⟨e1, by rw [← e2]⟩)
  less := fun {G l M i j} ⟨v, Ms, h1, h2⟩ hi hj => by
    subst h1
    exact Inv.val (e := 169) (by kernel_rfl) (by kernel_rfl) rfl (Zt5 h2 i j hi hj) (fun v' G' M' hl ⟨e1, e2⟩ => ⟨e1, by rw [← e2]⟩)
  swap := fun {G l M i j} ⟨v, Ms, h1, h2⟩ hi hj => by
    subst h1
    exact Inv.val (e := 169) (by kernel_rfl) (by kernel_rfl) rfl (Zt6 h2 i j hi hj) (fun v' G' M' hl ⟨e1, e2⟩ => ⟨e1, v, M', rfl, e2⟩)
  push := fun _ {G l M u a} ⟨v, Ms, h1, h2⟩ hb ⟨h3, h4⟩ => by
    subst h1 h3
    exact Inv.ptr (g := 287) (by kernel_rfl) (Zt7 h2 a h4 hb) (fun v' G' M' hl ⟨e1, v2, M2, e2, e3⟩ => ⟨e1, v2, M2, e2, e3⟩)
  pop := fun {G l M} ⟨v, Ms, h1, h2⟩ h0 => by
    subst h1
    exact Inv.ptr (g := 286) (by kernel_rfl) (Zt8 h2 h0) (fun v' G' M' hl ⟨e1, e4, v2, M2, e2, e3⟩ => ⟨⟨e1, e4⟩, v2, M2, e2, e3⟩)

abbrev HeadsR (b : Nat) (Tb : TypeId) (G : GH) (l : List Hd) (M : MH) : Prop := (∀ h ∈ l, 0 < h.1.length) ∧ ∃ v Ms, M = (b, ce9 Tb [v]) :: Ms ∧ OwnR Jj 271 G v l Ms
abbrev HeadV (G : GH) (u : Value) (a : Hd) : Prop := (∃ p c, u = .iface 271 (.agg (List.toArray [lV p a.1.length c, iV a.2])) ∧ SlR Zu G (lV p a.1.length c) a.1 ∧ i64 a.2) ∧ 0 < a.1.length
theorem ZlL {G G' : GH} {v : Value} {a : Hd} (hl : Le G G') (h : HeadV G v a) : HeadV G' v a := by
  obtain ⟨⟨p, c, h1, h2, h3⟩, h4⟩ := h; exact ⟨⟨p, c, h1, h2.mono hl, h3⟩, h4⟩
theorem ZcZ {b : Nat} {Tb : TypeId} : HeapK Tryz.prog Hd.lt (.iface 267 (pt9 b)) (HeadsR b Tb) HeadV where
  mono := fun hl ⟨h0, v, Ms, h1, h2⟩ => ⟨h0, v, Ms, h1, h2.mono hl⟩
  bound := fun ⟨h0, v, Ms, h1, h2⟩ => h2.len47
  len := fun {G l M} ⟨h0, v, Ms, h1, h2⟩ => by
    subst h1
    exact Inv.val (e := 269) (by kernel_rfl) (by kernel_rfl) rfl (ZlK h2) (fun v' G' M' hl ⟨e1, e2⟩ => ⟨e1, by rw [← e2]⟩)
  less := fun {G l M i j} ⟨h0, v, Ms, h1, h2⟩ hi hj => by
    subst h1
    exact Inv.val (e := 269) (by kernel_rfl) (by kernel_rfl) rfl (Zt9 h2 i j hi hj (h0 _ (List.getElem_mem hi)) (h0 _ (List.getElem_mem hj))) (fun v' G' M' hl ⟨e1, e2⟩ => ⟨e1, by rw [← e2]⟩)
  swap := fun {G l M i j} ⟨h0, v, Ms, h1, h2⟩ hi hj => by
    subst h1
    exact Inv.val (e := 269) (by kernel_rfl) (by kernel_rfl) rfl (Zua h2 i j hi hj) (fun v' G' M' hl ⟨e1, e2⟩ => ⟨e1, fun x hx => h0 x ((Zdk hi hj).mem_iff.1 hx), v, M', rfl, e2⟩)
  push := fun _ {G l M u a} ⟨h0, v, Ms, h1, h2⟩ hb ⟨⟨p, c, h3, h4, h5⟩, h6⟩ => by
    subst h1 h3
    exact Inv.ptr (g := 290) (by kernel_rfl) (Zub h2 h4 h5 hb) (fun v' G' M' hl ⟨e1, v2, M2, e2, e3⟩ => ⟨e1, fun x hx => (List.mem_append.1 hx).elim (h0 x) (fun hx => by rw [List.mem_singleton.1 hx]; exact h6), v2, M2, e2, e3⟩)
  pop := fun {G l M} ⟨h0, v, Ms, h1, h2⟩ hl0 => by
    subst h1
    exact Inv.ptr (g := 289) (by kernel_rfl) (Zuc h2 hl0) (fun v' G' M' hl ⟨e1, v2, M2, e2, e3⟩ => ⟨⟨e1, by rw [Yp om9]; exact h0 _ (List.getElem_mem _)⟩, fun x hx => h0 x (List.mem_of_mem_take hx), v2, M2, e2, e3⟩)
theorem ZlM {G : GH} {b_s : Nat} {v_c : Value} {c : List Nd} {Ms_c : MH} (h_c : OwnR Zv 60 G v_c c Ms_c) {v_u : Value} {u : List Bool} {Ms_u : MH} (h_u : OwnR J1 4 G v_u u Ms_u) {v_f : Value} {f : List Int} {Ms_f : MH} (h_f : OwnR ZA 3 G v_f f Ms_f) (i : Int) :
    Fc Tryz.prog 157 [pt9 b_s, iV i] G ((b_s, ce9 189 [v_c, v_u, v_f]) :: (Ms_c ++ (Ms_u ++ (Ms_f)))) (fun v G' M' => v = .bool (Y0 u i) ∧ M' = (b_s, ce9 189 [v_c, v_u, v_f]) :: (Ms_c ++ (Ms_u ++ Ms_f))) := by
 obtain ⟨sa_c, sc_c, rfl⟩ := h_c.form
 obtain ⟨sa_u, sc_u, rfl⟩ := h_u.form
 obtain ⟨sa_f, sc_f, rfl⟩ := h_f.form
 have hl := h_u.len47
 refine Fc.go [.tmp 4] Tryz.func157 Tryz.ntmps157 rfl (fun w0 => (WC.perm (M' := ((b_s, ce9 189 [lV sa_c c.length sc_c, lV sa_u u.length sc_u, lV sa_f f.length sc_f]) :: (Ms_c ++ (Ms_u ++ (Ms_f ++ []))))) (by simp) (g9 8 ?_)))
 refine W.ok (Zmz Zca rfl rfl) (g9 7 ?_)
 refine W.sd 11 (fun h9 p9 => ?_) (fun h9 p9 => ?_)
 ·refine g9 16 ?_
  refine W.sd 20 (fun h18 p18 => ?_) (fun h18 p18 => ?_)
  ·refine g9 11 ?_
   refine h_u.a1 (i := i.toNat) om9 (fun he1 => (W.ok (Yw (i := i.toNat) Zb8 ty4 h_u rfl rfl ⟨om9, om9⟩) (g9 1 ?_)))
   refine W.ok (Y4 (vs := bc9) ty4 he1 (pmC (pmA pr9)) rfl rfl rfl (by simp)) (g9 5 ?_)
   refine ⟨.inr rfl, [_], ⟨rfl, trivial⟩, ((b_s, ce9 189 [lV sa_c c.length sc_c, lV sa_u u.length sc_u, lV sa_f f.length sc_f]) :: (Ms_c ++ (Ms_u ++ (Ms_f ++ [])))), sr9.k9, ?_⟩
   exact ⟨congrArg Value.bool (ZnE om9 om9), by simp⟩
  refine g9 12 ?_
  refine ⟨.inr rfl, [_], ⟨rfl, trivial⟩, ((b_s, ce9 189 [lV sa_c c.length sc_c, lV sa_u u.length sc_u, lV sa_f f.length sc_f]) :: (Ms_c ++ (Ms_u ++ (Ms_f ++ [])))), sr9.k9, ?_⟩
  exact ⟨congrArg Value.bool (ZnG om9), by simp⟩
 refine g9 21 ?_
 refine ⟨.inr rfl, [_], ⟨rfl, trivial⟩, ((b_s, ce9 189 [lV sa_c c.length sc_c, lV sa_u u.length sc_u, lV sa_f f.length sc_f]) :: (Ms_c ++ (Ms_u ++ (Ms_f ++ [])))), sr9.k9, ?_⟩
 exact ⟨congrArg Value.bool (ZnF om9), by simp⟩

theorem Zud {G : GH} {b_s : Nat} {v_c : Value} {c : List Nd} {Ms_c : MH} (h_c : OwnR Zv 60 G v_c c Ms_c) {v_u : Value} {u : List Bool} {Ms_u : MH} (h_u : OwnR J1 4 G v_u u Ms_u) {v_f : Value} {f : List Int} {Ms_f : MH} (h_f : OwnR ZA 3 G v_f f Ms_f) (i : Int) {cs_x : List Value} {x : Nd} (h_x : NodeC G cs_x x) (hcu : c.length = u.length) (hn : u.length ≤ 4096) (hh : Heap ltI f) (hp : f.Perm (Y7 u)) :
    Fc Tryz.prog 178 [pt9 b_s, iV i, .agg (List.toArray cs_x)] G ((b_s, ce9 189 [v_c, v_u, v_f]) :: (Ms_c ++ (Ms_u ++ (Ms_f)))) (fun v G' M' => v = iV (X3 (c, u) i x).1 ∧ ArR Zv 60 4 3 189 b_s G' (X3 (c, u) i x).2 M') := by
 obtain ⟨pa_x, pc_x, ka_x, kc_x, ma_x, mc_x, ra_x, rc_x, rfl, hp_x, hk_x, hm_x, hr_x, hok_x⟩ := h_x
 obtain ⟨sa_c, sc_c, rfl⟩ := h_c.form
 obtain ⟨sa_u, sc_u, rfl⟩ := h_u.form
 obtain ⟨sa_f, sc_f, rfl⟩ := h_f.form
 have hl := h_u.len47
 have hlc := h_c.len47
 refine Fc.go [.tmp 6] Tryz.func178 Tryz.ntmps178 rfl (fun w0 => (WC.perm (M' := ((b_s, ce9 189 [lV sa_c c.length sc_c, lV sa_u u.length sc_u, lV sa_f f.length sc_f]) :: (Ms_c ++ (Ms_u ++ (Ms_f ++ []))))) (by simp) (g9 2 ?_)))
 refine W.box (L := [iV _, iV _, lV _ _ _, lV _ _ _, sV _, .bool _, iV _, iV _, lV _ _ _, lV _ _ _]) rfl rfl (fun b5 => (g9 7 ?_))
 refine W.ok (Xi Zca rfl rfl) (g9 10 ?_)
 refine W.call (Mp := ((b_s, ce9 189 [lV sa_c c.length sc_c, lV sa_u u.length sc_u, lV sa_f f.length sc_f]) :: (Ms_c ++ (Ms_u ++ Ms_f)))) (Mr := ((b5, ce9 60 (ndl x pa_x pc_x ka_x kc_x ma_x mc_x ra_x rc_x)) :: [])) (ZlM h_c h_u h_f _) rfl (((pmC ((pmF ((pmF pr9).trans pr9)).trans pr9)).cons _).trans ((List.Perm.swap _ _ _).trans (pr9.cons _))) ?_
 intro v9 G6 Ms8 hG6 q7
 refine match q7 with | ⟨e_10, e_11⟩ => ?_
 subst e_10
 subst e_11
 refine W.perm (M' := ((b_s, ce9 189 [lV sa_c c.length sc_c, lV sa_u u.length sc_u, lV sa_f f.length sc_f]) :: ((b5, ce9 60 (ndl x pa_x pc_x ka_x kc_x ma_x mc_x ra_x rc_x)) :: (Ms_c ++ (Ms_u ++ (Ms_f ++ [])))))) (((pmC ((pmF ((pmF pr9).trans pr9)).trans pr9)).cons _).trans pr9).symm (g9 3 ?_)
 refine WC.cond rfl (fun h12 => ?_) (fun h12 => ?_)
 ·refine g9 7 ?_
  refine ⟨.inr rfl, [_], ⟨rfl, trivial⟩, ((b_s, ce9 189 [lV sa_c c.length sc_c, lV sa_u u.length sc_u, lV sa_f f.length sc_f]) :: (Ms_c ++ (Ms_u ++ (Ms_f ++ [])))), (sr9.cons _).k9, ?_⟩
  exact ⟨congrArg (Value.int .i64) (congrArg Prod.fst (Ze3 (st := (c, u)) (by simpa using h12))).symm, ArR.cast (st := (c, u)) ⟨_, ⟨_, _, _, _, _, _, rfl, (h_c.mono hG6), (h_u.mono hG6), (h_f.mono hG6)⟩, hcu, hn, hh, hp⟩ (congrArg Prod.snd (Ze3 (st := (c, u)) (by simpa using h12))).symm (by simp)⟩
 have hhi : Y0 u i = true := by simpa using h12
 have hil := ZhW hhi
 refine g9 3 ?_
 refine WC.dw (sn9.k9.k9) (d9 [0, 1, 2, 3, 4, 5] ?_)
 refine (h_c.mono hG6).aN (i := i.toNat) om9 (fun _ _ _ _ _ _ _ _ he12 hp_n13 hk_n13 hm_n13 hr_n13 hok_n13 => (WD.tk 6 rfl (Yw (i := i.toNat) Xm Yd (h_c.mono hG6) rfl rfl ⟨om9, om9⟩) (WD.a1 7 rfl (W.storeO (i := i.toNat) (o := 0) (vs := nd9) (a' := x) Yd rfl rfl rfl rfl rfl ((h_c.mono hG6)) (pmC (pmC pr9)) om9 (by decide) (fun cs h => by obtain ⟨_, _, _, _, _, _, _, _, rfl, _⟩ := h; exact (nm9 hG6 hp_x hk_x hm_x hr_x hok_x)) (fun Ms16 ho17 => (W.perm (pmC (pmC pr9)).symm (W.nn (g9 8 ?_))))))))
 refine ⟨.inr rfl, [_], ⟨rfl, trivial⟩, ((b_s, ce9 189 [lV sa_c c.length sc_c, lV sa_u u.length sc_u, lV sa_f f.length sc_f]) :: (Ms16 ++ (Ms_u ++ (Ms_f ++ [])))), (sr9.cons _).k9, ?_⟩
 exact ⟨congrArg (Value.int .i64) (congrArg Prod.fst (Ze2 (st := (c, u)) (by simpa using h12))).symm, ArR.cast (st := (c.set i.toNat x, u)) ⟨_, ⟨_, _, _, _, _, _, rfl, ho17, (h_u.mono hG6), (h_f.mono hG6)⟩, (by rw [List.length_set]; exact hcu), hn, hh, hp⟩ (congrArg Prod.snd (Ze2 (st := (c, u)) (by simpa using h12))).symm (by simp)⟩

theorem Zue {G : GH} {b_s : Nat} {v_c : Value} {c : List Nd} {Ms_c : MH} (h_c : OwnR Zv 60 G v_c c Ms_c) {v_u : Value} {u : List Bool} {Ms_u : MH} (h_u : OwnR J1 4 G v_u u Ms_u) {v_f : Value} {f : List Int} {Ms_f : MH} (h_f : OwnR ZA 3 G v_f f Ms_f) {cs_x : List Value} {x : Nd} (h_x : NodeC G cs_x x) (hcu : c.length = u.length) (hn : u.length ≤ 4096) (hh : Heap ltI f) (hp : f.Perm (Y7 u)) :
    Fc Tryz.prog 139 [pt9 b_s, .agg (List.toArray cs_x)] G ((b_s, ce9 189 [v_c, v_u, v_f]) :: (Ms_c ++ (Ms_u ++ (Ms_f)))) (fun v G' M' => v = .tuple #[iV (Yq (c, u) x).1.1, iV (Yq (c, u) x).1.2] ∧ ArR Zv 60 4 3 189 b_s G' (Yq (c, u) x).2 M') := by
 obtain ⟨pa_x, pc_x, ka_x, kc_x, ma_x, mc_x, ra_x, rc_x, rfl, hp_x, hk_x, hm_x, hr_x, hok_x⟩ := h_x
 obtain ⟨sa_c, sc_c, rfl⟩ := h_c.form
 obtain ⟨sa_u, sc_u, rfl⟩ := h_u.form
 obtain ⟨sa_f, sc_f, rfl⟩ := h_f.form
 have hl := h_u.len47
 have hlc := h_c.len47
 have hlf := h_f.len47
 refine Fc.go [.tmp 4, .tmp 5] Tryz.func139 Tryz.ntmps139 rfl (fun w0 => (WC.perm (M' := ((b_s, ce9 189 [lV sa_c c.length sc_c, lV sa_u u.length sc_u, lV sa_f f.length sc_f]) :: (Ms_c ++ (Ms_u ++ (Ms_f ++ []))))) (by simp) (g9 2 ?_)))
 refine W.box (L := [iV _, iV _, lV _ _ _, lV _ _ _, sV _, .bool _, iV _, iV _, lV _ _ _, lV _ _ _]) rfl rfl (fun b18 => (g9 8 ?_))
 refine W.ok (Xi Zca rfl rfl) (g9 16 ?_)
 refine WC.cd (fun h14 p14 => ?_) (fun h14 p14 => ?_)
 ·refine g9 8 ?_
  refine ⟨.inr rfl, [_, _], ⟨rfl, rfl, trivial⟩, ((b_s, ce9 189 [lV sa_c c.length sc_c, lV sa_u u.length sc_u, lV sa_f f.length sc_f]) :: (Ms_c ++ (Ms_u ++ (Ms_f ++ [])))), sr9.k9.cons _, ?_⟩
  have hE := ZhY (st := (c, u)) (x := x) (ZnB (u := u) (by have := hp.length_eq; omega))
  exact ⟨congrArg (fun r : Int × Int => Value.tuple #[iV r.1, iV r.2]) (congrArg Prod.fst hE).symm, ArR.cast (st := (c, u)) ⟨_, ⟨_, _, _, _, _, _, rfl, h_c, h_u, h_f⟩, hcu, hn, hh, hp⟩ (congrArg Prod.snd hE).symm (by simp)⟩
 refine g9 7 ?_
 refine W.ok (Zau ZgB rfl) (W.call (Mp := ((b_s, ce9 189 [lV sa_c c.length sc_c, lV sa_u u.length sc_u, lV sa_f f.length sc_f]) :: Ms_f)) (Mr := ((b18, ce9 60 (ndl x pa_x pc_x ka_x kc_x ma_x mc_x ra_x rc_x)) :: (Ms_c ++ (Ms_u ++ [])))) (ZlH (ZgN (b := b_s) (Tb := 189) (c0 := lV sa_c c.length sc_c) (c1 := lV sa_u u.length sc_u)) ⟨_, _, rfl, h_f⟩ om9) rfl (((pmC (pmA (pmA pr9))).cons _).trans ((List.Perm.swap _ _ _).trans (pr9.cons _))) ?_)
 intro v22 G19 Ms21 hG19 q20
 refine match q20 with | ⟨⟨hv_z23, hi_z23⟩, ⟨vf_z23, Mf_z23, e_24, hf_z23⟩⟩ => ?_
 subst e_24
 have q26 := hf_z23.form
 refine match q26 with | ⟨sa_z23, sc_z23, e_25⟩ => ?_
 subst e_25
 obtain ⟨hlt, hee, hh2, hp2⟩ := ZnD hh hp om9
 rw [hee] at hv_z23
 subst hv_z23
 refine W.perm (M' := ((b_s, ce9 189 [lV sa_c c.length sc_c, lV sa_u u.length sc_u, lV sa_z23 ((Y6 ltI f)).length sc_z23]) :: ((b18, ce9 60 (ndl x pa_x pc_x ka_x kc_x ma_x mc_x ra_x rc_x)) :: (Mf_z23 ++ (Ms_c ++ (Ms_u ++ [])))))) (((pmC pr9).cons _).trans pr9).symm (W.ok (ZeI pi3 rfl) (g9 4 ?_))
 refine WC.dw (sn9.k9.k9) (d9 [0, 1, 2, 3, 4, 5, 6, 7, 8, 9, 10] ?_)
 refine (h_c.mono hG19).aN (i := (Yx u)) om9 (fun _ _ _ _ _ _ _ _ he27 hp_n28 hk_n28 hm_n28 hr_n28 hok_n28 => (WD.tk 11 rfl (Yw (i := (Yx u)) Xm Yd (h_c.mono hG19) rfl rfl ⟨om9, om9⟩) (WD.a1 12 rfl (W.storeO (i := (Yx u)) (o := 0) (vs := nd9) (a' := x) Yd rfl rfl rfl rfl rfl ((h_c.mono hG19)) (pmC (pmC (pmA pr9))) om9 (by decide) (fun cs h => by obtain ⟨_, _, _, _, _, _, _, _, rfl, _⟩ := h; exact (nm9 hG19 hp_x hk_x hm_x hr_x hok_x)) (fun Ms31 ho32 => (W.perm (pmC (pmC pr9)).symm (W.nn ((h_u.mono hG19).a1 (i := (Yx u)) om9 (fun he33 => (WD.tk 13 rfl (Yw (i := (Yx u)) Zb8 ty4 (h_u.mono hG19) rfl rfl ⟨om9, om9⟩) (WD.a1 14 rfl (W.storeO (i := (Yx u)) (o := 0) (vs := bc9) (a' := true) ty4 rfl rfl rfl rfl rfl ((h_u.mono hG19)) (pmC (pmC (pmA (pmA pr9)))) om9 (by decide) (fun cs h => by rw [h]; rfl) (fun Ms37 ho38 => (W.perm (pmC (pmC pr9)).symm (W.nn (g9 9 ?_))))))))))))))))
 refine WC.perm (M' := ((b_s, ce9 189 [lV sa_c c.length sc_c, lV sa_u u.length sc_u, lV sa_z23 ((Y6 ltI f)).length sc_z23]) :: ((b18, ce9 60 (ndl x pa_x pc_x ka_x kc_x ma_x mc_x ra_x rc_x)) :: (Ms31 ++ (Ms37 ++ (Mf_z23 ++ [])))))) ((((List.Perm.append_left _ ((List.Perm.append_left _ ((List.Perm.append_left _ pr9).trans pr9)).trans pr9)).trans (pmA pr9)).cons _).cons _) (WC.ret ?_)
 refine ⟨.inr rfl, [_, _], ⟨rfl, rfl, trivial⟩, ((b_s, ce9 189 [lV sa_c c.length sc_c, lV sa_u u.length sc_u, lV sa_z23 ((Y6 ltI f)).length sc_z23]) :: (Ms31 ++ (Ms37 ++ (Mf_z23 ++ [])))), (sr9.cons _).k9, ?_⟩
 have hE := ZhX (st := (c, u)) (x := x) hlt
 exact ⟨congrArg (fun r : Int × Int => Value.tuple #[iV r.1, iV r.2]) (congrArg Prod.fst hE).symm, ArR.cast (st := (c.set (Yx u) x, u.set (Yx u) true)) ⟨_, ⟨_, _, _, _, _, _, rfl, ho32, ho38, hf_z23⟩, (by rw [List.length_set, List.length_set]; exact hcu), (by rw [List.length_set]; exact hn), hh2, hp2⟩ (congrArg Prod.snd hE).symm (by simp)⟩

theorem Zuf {G : GH} {b_s : Nat} {v_c : Value} {c : List Nd} {Ms_c : MH} (h_c : OwnR Zv 60 G v_c c Ms_c) {v_u : Value} {u : List Bool} {Ms_u : MH} (h_u : OwnR J1 4 G v_u u Ms_u) {v_f : Value} {f : List Int} {Ms_f : MH} (h_f : OwnR ZA 3 G v_f f Ms_f) (i : Int) (hcu : c.length = u.length) :
    Fc Tryz.prog 117 [pt9 b_s, iV i] G ((b_s, ce9 189 [v_c, v_u, v_f]) :: (Ms_c ++ (Ms_u ++ (Ms_f)))) (fun v G' M' => ∃ cs, v = .tuple #[.agg (List.toArray cs), .bool (Y0 u i)] ∧ NodeC G' cs (JH (c, u) i Nd.zero) ∧ M' = (b_s, ce9 189 [v_c, v_u, v_f]) :: (Ms_c ++ (Ms_u ++ Ms_f))) := by
 obtain ⟨sa_c, sc_c, rfl⟩ := h_c.form
 obtain ⟨sa_u, sc_u, rfl⟩ := h_u.form
 obtain ⟨sa_f, sc_f, rfl⟩ := h_f.form
 have hl := h_u.len47
 have hlc := h_c.len47
 refine Fc.go [.cell 4 60, .tmp 5] Tryz.func117 Tryz.ntmps117 rfl (fun w0 => (WC.perm (M' := ((b_s, ce9 189 [lV sa_c c.length sc_c, lV sa_u u.length sc_u, lV sa_f f.length sc_f]) :: (Ms_c ++ (Ms_u ++ (Ms_f ++ []))))) (by simp) (g9 2 ?_)))
 refine W.alloc Zm (fun b39 => (g9 8 ?_))
 refine W.call (Mp := ((b_s, ce9 189 [lV sa_c c.length sc_c, lV sa_u u.length sc_u, lV sa_f f.length sc_f]) :: (Ms_c ++ (Ms_u ++ Ms_f)))) (Mr := ((b39, ce9 60 nz9) :: [])) (ZlM h_c h_u h_f _) rfl (((pmC ((pmF ((pmF pr9).trans pr9)).trans pr9)).cons _).trans ((List.Perm.swap _ _ _).trans (pr9.cons _))) ?_
 intro v43 G40 Ms42 hG40 q41
 refine match q41 with | ⟨e_44, e_45⟩ => ?_
 subst e_44
 subst e_45
 refine W.perm (M' := ((b_s, ce9 189 [lV sa_c c.length sc_c, lV sa_u u.length sc_u, lV sa_f f.length sc_f]) :: ((b39, ce9 60 nz9) :: (Ms_c ++ (Ms_u ++ (Ms_f ++ [])))))) (((pmC ((pmF ((pmF pr9).trans pr9)).trans pr9)).cons _).trans pr9).symm (g9 3 ?_)
 refine WC.cond rfl (fun h9 => ?_) (fun h9 => ?_)
 ·have hhi : Y0 u i = false := by simpa using h9
  refine g9 9 ?_
  refine ⟨.inr rfl, [_, _], ⟨⟨_, _, _, _, _, rfl, YI (i := 1) rfl, Yd, (by simp), rfl, rfl⟩, rfl, trivial⟩, ((b_s, ce9 189 [lV sa_c c.length sc_c, lV sa_u u.length sc_u, lV sa_f f.length sc_f]) :: (Ms_c ++ (Ms_u ++ (Ms_f ++ [])))), (sr9.cons _).k9, ?_⟩
  refine ⟨_, ?_, NodeC.cast ⟨_, _, _, _, _, _, _, _, rfl, SlR.nil, SlR.nil, SlR.nil, SlR.nil, Nd.zero_ok⟩ (ZnI (st := (c, u)) hhi).symm, by simp⟩
  rw [hhi]; rfl
 have hhi : Y0 u i = true := by simpa using h9
 have hil := ZhW hhi
 refine g9 9 ?_
 refine (h_c.mono hG40).aN (i := i.toNat) om9 (fun _ _ _ _ _ _ _ _ he46 hp_n47 hk_n47 hm_n47 hr_n47 hok_n47 => (W.ok (Yw (i := i.toNat) Xm Yd (h_c.mono hG40) rfl rfl ⟨om9, om9⟩) (W.ok (Y4 (vs := nd9) Yd he46 (pmC (pmC pr9)) rfl rfl rfl (by simp)) (g9 5 ?_))))
 refine ⟨.inr rfl, [_, _], ⟨⟨_, _, _, _, _, rfl, YI (i := 1) rfl, Yd, (by simp), rfl, rfl⟩, rfl, trivial⟩, ((b_s, ce9 189 [lV sa_c c.length sc_c, lV sa_u u.length sc_u, lV sa_f f.length sc_f]) :: (Ms_c ++ (Ms_u ++ (Ms_f ++ [])))), (sr9.cons _).k9, ?_⟩
 refine ⟨_, ?_, NodeC.cast (nk9 hp_n47 hk_n47 hm_n47 hr_n47 hok_n47) (ZnH (st := (c, u)) hhi (by show _ < c.length; omega)).symm, by simp⟩
 rw [hhi]; rfl

theorem Zug {G : GH} {b_s : Nat} {v_c : Value} {c : List Nd} {Ms_c : MH} (h_c : OwnR Zv 60 G v_c c Ms_c) {v_u : Value} {u : List Bool} {Ms_u : MH} (h_u : OwnR J1 4 G v_u u Ms_u) {v_f : Value} {f : List Int} {Ms_f : MH} (h_f : OwnR ZA 3 G v_f f Ms_f) (hcu : c.length = u.length) (hn : u.length ≤ 4096) (hh : Heap ltI f) (hp : f.Perm (Y7 u)) :
    Fc Tryz.prog 112 [pt9 b_s] G ((b_s, ce9 189 [v_c, v_u, v_f]) :: (Ms_c ++ (Ms_u ++ (Ms_f)))) (fun v G' M' => v = iV ((Xj u).length : Int) ∧ M' = (b_s, ce9 189 [v_c, v_u, v_f]) :: (Ms_c ++ (Ms_u ++ Ms_f))) := by
 obtain ⟨sa_c, sc_c, rfl⟩ := h_c.form
 obtain ⟨sa_u, sc_u, rfl⟩ := h_u.form
 obtain ⟨sa_f, sc_f, rfl⟩ := h_f.form
 have hl := h_u.len47
 have hlf := h_f.len47
 have hfu := Zdn u
 have hpl := hp.length_eq
 refine Fc.go [.tmp 2] Tryz.func112 Tryz.ntmps112 rfl (fun w0 => (WC.perm (M' := ((b_s, ce9 189 [lV sa_c c.length sc_c, lV sa_u u.length sc_u, lV sa_f f.length sc_f]) :: (Ms_c ++ (Ms_u ++ (Ms_f ++ []))))) (by simp) (g9 9 ?_)))
 refine W.ok (Xi Zca rfl rfl) (g9 22 ?_)
 refine ⟨.inr rfl, [_], ⟨rfl, trivial⟩, ((b_s, ce9 189 [lV sa_c c.length sc_c, lV sa_u u.length sc_u, lV sa_f f.length sc_f]) :: (Ms_c ++ (Ms_u ++ (Ms_f ++ [])))), sr9.k9, ?_⟩
 exact ⟨congrArg (Value.int .i64) om9, by simp⟩

theorem Zuh {G : GH} {b_s : Nat} {v_c : Value} {c : List Nd} {Ms_c : MH} (h_c : OwnR Zv 60 G v_c c Ms_c) {v_u : Value} {u : List Bool} {Ms_u : MH} (h_u : OwnR J1 4 G v_u u Ms_u) {v_f : Value} {f : List Int} {Ms_f : MH} (h_f : OwnR ZA 3 G v_f f Ms_f) (hcu : c.length = u.length) (hn : u.length ≤ 4096) (hh : Heap ltI f) (hp : f.Perm (Y7 u)) :
    Fc Tryz.prog 218 [pt9 b_s] G ((b_s, ce9 189 [v_c, v_u, v_f]) :: (Ms_c ++ (Ms_u ++ (Ms_f)))) (fun v G' M' => v = iV ((Y7 u).length : Int) ∧ M' = (b_s, ce9 189 [v_c, v_u, v_f]) :: (Ms_c ++ (Ms_u ++ Ms_f))) := by
 obtain ⟨sa_c, sc_c, rfl⟩ := h_c.form
 obtain ⟨sa_u, sc_u, rfl⟩ := h_u.form
 obtain ⟨sa_f, sc_f, rfl⟩ := h_f.form
 have hl := h_u.len47
 have hlf := h_f.len47
 have hfu := Zdn u
 have hpl := hp.length_eq
 refine Fc.go [.tmp 2] Tryz.func218 Tryz.ntmps218 rfl (fun w0 => (WC.perm (M' := ((b_s, ce9 189 [lV sa_c c.length sc_c, lV sa_u u.length sc_u, lV sa_f f.length sc_f]) :: (Ms_c ++ (Ms_u ++ (Ms_f ++ []))))) (by simp) (g9 9 ?_)))
 refine W.ok (Xi Zca rfl rfl) (g9 16 ?_)
 refine ⟨.inr rfl, [_], ⟨rfl, trivial⟩, ((b_s, ce9 189 [lV sa_c c.length sc_c, lV sa_u u.length sc_u, lV sa_f f.length sc_f]) :: (Ms_c ++ (Ms_u ++ (Ms_f ++ [])))), sr9.k9, ?_⟩
 exact ⟨congrArg (Value.int .i64) om9, by simp⟩

theorem Zui {G : GH} {b_s : Nat} {v_c : Value} {c : List Nd} {Ms_c : MH} (h_c : OwnR Zv 60 G v_c c Ms_c) {v_u : Value} {u : List Bool} {Ms_u : MH} (h_u : OwnR J1 4 G v_u u Ms_u) {v_f : Value} {f : List Int} {Ms_f : MH} (h_f : OwnR ZA 3 G v_f f Ms_f) (hcu : c.length = u.length) (hn : u.length ≤ 4096) (hh : Heap ltI f) (hp : f.Perm (Y7 u)) :
    Fc Tryz.prog 107 [pt9 b_s] G ((b_s, ce9 189 [v_c, v_u, v_f]) :: (Ms_c ++ (Ms_u ++ (Ms_f)))) (fun v G' M' => SlR ZA G' v (Xj u) ∧ M' = (b_s, ce9 189 [v_c, v_u, v_f]) :: (Ms_c ++ (Ms_u ++ Ms_f))) := by
 obtain ⟨sa_c, sc_c, rfl⟩ := h_c.form
 obtain ⟨sa_u, sc_u, rfl⟩ := h_u.form
 obtain ⟨sa_f, sc_f, rfl⟩ := h_f.form
 have hl := h_u.len47
 have hlf := h_f.len47
 have hfu := Zdn u
 have hpl := hp.length_eq
 refine Fc.go [.tmp 2] Tryz.func107 Tryz.ntmps107 rfl (fun w0 => (WC.perm (M' := ((b_s, ce9 189 [lV sa_c c.length sc_c, lV sa_u u.length sc_u, lV sa_f f.length sc_f]) :: (Ms_c ++ (Ms_u ++ (Ms_f ++ []))))) (by simp) (g9 14 ?_)))
 refine W.ok (Zmz Zca rfl rfl) (g9 14 ?_)
 refine WC.loop (X := (Nat) × Value × MH) (fun k => [(13, nt9 k.1), (11, lV sa_u u.length sc_u), (12, nt9 ((u).length)), (3, k.2.1)]) (fun k G Ml => Ml = ((b_s, ce9 189 [lV sa_c c.length sc_c, lV sa_u u.length sc_u, lV sa_f f.length sc_f]) :: (k.2.2 ++ (Ms_c ++ (Ms_u ++ (Ms_f ++ []))))) ∧ OwnR ZA 3 G k.2.1 (J2 u k.1) k.2.2 ∧ k.1 ≤ u.length) (fun k => u.length - k.1) (0, lV none 0 0, ([] : MH)) hs9 ?_ ?_
 ·exact ⟨rfl, (by exact OwnR.nil), om9⟩
 rintro ⟨k, v_3, M_3⟩ gG50 G50 _ hG50 ⟨rfl, ho_3, hk⟩
 try dsimp only at ho_3 hk
 have hkl := ZhZ u k
 refine WC.fr (f := ZX gG50 [(13, nt9 k), (11, lV sa_u u.length sc_u), (12, nt9 ((u).length)), (3, v_3)]) rfl (g9 6 ?_)
 refine WC.cd (fun h14 p14 => ?_) (fun h14 p14 => ?_)
 ·refine g9 7 ?_
  refine (h_u.mono hG50).a1 (i := k) om9 (fun he51 => (W.ok (Yw (i := k) Zb8 ty4 (h_u.mono hG50) rfl rfl ⟨om9, om9⟩) (W.ok (Y4 (vs := bc9) ty4 he51 (pmC (pmA (pmA pr9))) rfl rfl rfl (by simp)) (g9 9 ?_))))
  refine WC.cond rfl (fun he52 => ?_) (fun he52 => ?_)
  ·refine g9 3 ?_
   refine W.lit (e := ZA) (l := [_]) (css := [[iV _]]) Z8 ty3 zr3 rfl rfl rfl rfl rfl rfl ⟨⟨rfl, om9, om9⟩, trivial⟩ (fun bl55 G55 hG55 hv55 => (W.app (e := ZA) Z8 ty3 zr3 rfl by3 rfl rfl ((ho_3.mono hG55)) (hv55) (pmC pr9) (by show (_ + 1) * 8 ≤ _; omega) (fun v56 Ms57 ho58 => (W.perm (pmC pr9).symm ?_))))
   have q62 := ho58.form
   refine match q62 with | ⟨sa59, sc60, e_61⟩ => ?_
   subst e_61
   refine g9 9 ?_
   exact ⟨hG55, (k + 1, lV sa59 ((J2 u k ++ _)).length sc60, Ms57), hs9, ⟨rfl, (by have h := ho58; rw [ZnJ om9 he52]; exact h), om9⟩, om9⟩
  refine g9 8 ?_
  exact ⟨Le.rfl, (k + 1, v_3, M_3), hs9, ⟨rfl, (by have h := ho_3; rw [ZnK om9 he52]; exact h), om9⟩, om9⟩
 refine g9 11 ?_
 refine WC.giveO ho_3 (pmC pr9) (fun G63 hG63 hv63 => (WC.ret ?_))
 refine ⟨.inr rfl, [_], ⟨rfl, trivial⟩, ((b_s, ce9 189 [lV sa_c c.length sc_c, lV sa_u u.length sc_u, lV sa_f f.length sc_f]) :: (Ms_c ++ (Ms_u ++ (Ms_f ++ [])))), sr9.k9, ?_⟩
 exact ⟨SlR.cast hv63 (by rw [Zh0]; congr 1; omega), by simp⟩

theorem Zuj {G : GH} (n : Int) :
    Fc Tryz.prog 83 [iV n] G [] (fun v G' M' => (¬ (1 ≤ n ∧ n ≤ 4096) ∧ v = .tuple #[.pointer none, iV 2] ∧ M' = []) ∨ ((1 ≤ n ∧ n ≤ 4096) ∧ ∃ b, v = .tuple #[pt9 b, iV 0] ∧ ArR Zv 60 4 3 189 b G' (List.replicate n.toNat Nd.zero, List.replicate n.toNat false) M')) := by
 refine Fc.go [.tmp 2, .tmp 3] Tryz.func83 Tryz.ntmps83 rfl (fun w0 => (g9 12 ?_))
 refine W.sd 8 (fun h7 p7 => ?_) (fun h7 p7 => ?_)
 ·refine g9 14 ?_
  refine ⟨.inr rfl, [_, _], ⟨rfl, rfl, trivial⟩, [], sr9, ?_⟩
  exact .inl ⟨om9, rfl, rfl⟩
 refine g9 7 ?_
 refine WC.cd (fun h10 p10 => ?_) (fun h10 p10 => ?_)
 ·refine g9 8 ?_
  refine ⟨.inr rfl, [_, _], ⟨rfl, rfl, trivial⟩, [], sr9, ?_⟩
  exact .inl ⟨om9, rfl, rfl⟩
 obtain ⟨m, rfl⟩ : ∃ m : Nat, n = (m : Int) := ⟨n.toNat, om9⟩
 refine g9 3 ?_
 refine WC.dw sr9 (d9 [0, 2] ?_)
 refine WD.any [1, 3] (by kernel_rfl) rfl ⟨WD.ap ?_, WD.ap ?_, trivial⟩
 ·refine W.mkSl (e := Zv) (a0 := Nd.zero) (n := (m)) Xm Yd Zm rfl ZaN (⟨_, _, _, _, _, _, _, _, rfl, SlR.nil, SlR.nil, SlR.nil, SlR.nil, Nd.zero_ok⟩) rfl rfl (by first | (show _ * 152 ≤ 140737488355328; omega) | (show _ * 10 ≤ 16777216; omega) | (show _ * 1 ≤ 140737488355328; omega) | (show _ * 1 ≤ 16777216; omega)) (by first | (show _ * 152 ≤ 140737488355328; omega) | (show _ * 10 ≤ 16777216; omega) | (show _ * 1 ≤ 140737488355328; omega) | (show _ * 1 ≤ 16777216; omega)) (fun v1 Ms2 ho3 => ?_)
  have q7 := ho3.form
  refine match q7 with | ⟨sa4, sc5, e_6⟩ => ?_
  subst e_6
  refine W.nn (WD.a1 3 rfl (W.mkSl (e := J1) (a0 := false) (n := (m)) Zb8 ty4 zr4 rfl by4 (rfl) rfl rfl (by first | (show _ * 152 ≤ 140737488355328; omega) | (show _ * 10 ≤ 16777216; omega) | (show _ * 1 ≤ 140737488355328; omega) | (show _ * 1 ≤ 16777216; omega)) (by first | (show _ * 152 ≤ 140737488355328; omega) | (show _ * 10 ≤ 16777216; omega) | (show _ * 1 ≤ 140737488355328; omega) | (show _ * 1 ≤ 16777216; omega)) (fun v8 Ms9 ho10 => ?_)))
  have q14 := ho10.form
  refine match q14 with | ⟨sa11, sc12, e_13⟩ => ?_
  subst e_13
  refine W.nn (WD.tk 4 rfl (Ya (L := [lV _ _ _, lV _ _ _, lV _ _ _]) Zk3 Zk2 rfl rfl rfl) (WD.a1 5 rfl (W.box (L := [lV _ _ _, lV _ _ _, lV _ _ _]) rfl rfl (fun b15 => (W.nn (d9 [6] ?_))))))
  refine g9 4 ?_
  have hR16 : ArP Zv 60 4 3 189 b15 G (List.replicate m Nd.zero, List.replicate m false, Yi 0) ((b15, ce9 189 [lV sa4 ((List.replicate ((m)) Nd.zero)).length sc5, lV sa11 ((List.replicate ((m)) false)).length sc12, lV none 0 0]) :: (Ms2 ++ (Ms9 ++ []))) := ⟨_, _, _, _, _, _, rfl, ho3, ho10, OwnR.nil⟩
  refine WC.perm (M' := (((b15, ce9 189 [lV sa4 ((List.replicate ((m)) Nd.zero)).length sc5, lV sa11 ((List.replicate ((m)) false)).length sc12, lV none 0 0]) :: (Ms2 ++ (Ms9 ++ []))) ++ [])) (pr9.symm.trans ((((pmF ((pmF pr9).trans pr9)).trans (pmA pr9)).cons _).trans pr9)) (g9 6 ?_)
  refine WC.loop (X := (Nat) × MH) (fun k => [(19, nt9 k.1), (18, nt9 m), (4, pt9 b15)]) (fun k G Ml => Ml = (k.2 ++ []) ∧ ArP Zv 60 4 3 189 b15 G ((List.replicate m Nd.zero, List.replicate m false, Yi k.1)) k.2 ∧ k.1 ≤ m) (fun k => m - k.1) (0, ((b15, ce9 189 [lV sa4 ((List.replicate ((m)) Nd.zero)).length sc5, lV sa11 ((List.replicate ((m)) false)).length sc12, lV none 0 0]) :: (Ms2 ++ (Ms9 ++ [])))) hs9 ?_ ?_
  ·exact ⟨rfl, (by exact hR16), om9⟩
  rintro ⟨k, M_4⟩ gG17 G17 _ hG17 ⟨rfl, ho_4, hk⟩
  try dsimp only at ho_4 hk
  refine WC.fr (f := ZX gG17 [(19, nt9 k), (18, nt9 m), (4, pt9 b15)]) rfl (g9 6 ?_)
  refine WC.cd (fun h20 p20 => ?_) (fun h20 p20 => ?_)
  ·refine g9 10 ?_
   refine match ho_4 with | ⟨vc_u18, vu_u18, vf_u18, Mc_u18, Mu_u18, Mf_u18, eM_, hc_u18, hu_u18, hf_u18⟩ => ?_
   subst eM_
   refine WC.perm (M' := ((b15, ce9 189 [vc_u18, vu_u18, vf_u18]) :: (Mc_u18 ++ (Mu_u18 ++ (Mf_u18 ++ []))))) ((pmF (pmF pr9)).cons _).symm ?_
   dsimp only at hc_u18 hu_u18 hf_u18
   refine match hc_u18.form with | ⟨sac_u18, scc_u18, eV_⟩ => ?_
   subst eV_
   refine match hu_u18.form with | ⟨sau_u18, scu_u18, eV_⟩ => ?_
   subst eV_
   refine match hf_u18.form with | ⟨saf_u18, scf_u18, eV_⟩ => ?_
   subst eV_
   refine g9 7 ?_
   refine W.lit (e := ZA) (l := [((k : Nat) : Int)]) (css := [[iV _]]) Xw ty3 zr3 rfl rfl rfl rfl rfl rfl ⟨⟨rfl, om9, om9⟩, trivial⟩ (fun bl19 G19 hG19 hv19 => (W.app (e := ZA) Xw ty3 zr3 rfl by3 rfl rfl ((hf_u18.mono hG19)) (hv19) (pmC (pmA (pmA pr9))) (by show (_ + 1) * 8 ≤ _; rw [ZaA]; omega) (fun v20 Ms21 ho22 => (W.perm (pmC pr9).symm ?_))))
   have q26 := ho22.form
   refine match q26 with | ⟨sa23, sc24, e_25⟩ => ?_
   subst e_25
   refine g9 6 ?_
   have hR27 : ArP Zv 60 4 3 189 b15 G19 (List.replicate m Nd.zero, List.replicate m false, Yi (k + 1)) ((b15, ce9 189 [lV sac_u18 (List.replicate m Nd.zero).length scc_u18, lV sau_u18 (List.replicate m false).length scu_u18, lV sa23 ((Yi k ++ [((k : Nat) : Int)])).length sc24]) :: (Mc_u18 ++ (Mu_u18 ++ Ms21))) := ⟨_, _, _, _, _, _, rfl, (hc_u18.mono hG19), (hu_u18.mono hG19), (by rw [ZhU]; exact ho22)⟩
   refine WC.perm (M' := (((b15, ce9 189 [lV sac_u18 (List.replicate m Nd.zero).length scc_u18, lV sau_u18 (List.replicate m false).length scu_u18, lV sa23 ((Yi k ++ [((k : Nat) : Int)])).length sc24]) :: (Mc_u18 ++ (Mu_u18 ++ Ms21))) ++ [])) (pr9.symm.trans ((((pmF ((pmF pr9).trans (pmA pr9))).trans (pmA pr9)).cons _).trans pr9)) (g9 5 ?_)
   exact ⟨hG19, (k + 1, ((b15, ce9 189 [lV sac_u18 (List.replicate m Nd.zero).length scc_u18, lV sau_u18 (List.replicate m false).length scu_u18, lV sa23 ((Yi k ++ [((k : Nat) : Int)])).length sc24]) :: (Mc_u18 ++ (Mu_u18 ++ Ms21)))), hs9, ⟨rfl, (by exact hR27), om9⟩, om9⟩
  refine g9 6 ?_
  obtain rfl : k = m := by omega
  refine match ho_4 with | ⟨vc_u28, vu_u28, vf_u28, Mc_u28, Mu_u28, Mf_u28, eM_, hc_u28, hu_u28, hf_u28⟩ => ?_
  subst eM_
  refine WC.perm (M' := ((b15, ce9 189 [vc_u28, vu_u28, vf_u28]) :: (Mc_u28 ++ (Mu_u28 ++ (Mf_u28 ++ []))))) ((pmF (pmF pr9)).cons _).symm ?_
  dsimp only at hc_u28 hu_u28 hf_u28
  refine match hc_u28.form with | ⟨sac_u28, scc_u28, eV_⟩ => ?_
  subst eV_
  refine match hu_u28.form with | ⟨sau_u28, scu_u28, eV_⟩ => ?_
  subst eV_
  refine match hf_u28.form with | ⟨saf_u28, scf_u28, eV_⟩ => ?_
  subst eV_
  refine g9 4 ?_
  refine W.ok (Zau ZgB rfl) (W.call (Mp := ((b15, ce9 189 [lV sac_u28 (List.replicate k Nd.zero).length scc_u28, lV sau_u28 (List.replicate k false).length scu_u28, lV saf_u28 (Yi k).length scf_u28]) :: Mf_u28)) (Mr := (Mc_u28 ++ (Mu_u28 ++ []))) (ZlJ (ZgN (b := b15) (Tb := 189) (c0 := lV sac_u28 (List.replicate k Nd.zero).length scc_u28) (c1 := lV sau_u28 (List.replicate k false).length scu_u28)) ⟨_, _, rfl, hf_u28⟩ (Zdo k) (by rw [ZaA]; omega)) rfl (((pmA (pmA pr9)).cons _).trans pr9) ?_)
  intro v32 G29 Ms31 hG29 q30
  refine match q30 with | ⟨e_34, ⟨vf_z33, Mf_z33, e_35, hf_z33⟩⟩ => ?_
  subst e_34
  subst e_35
  have q37 := hf_z33.form
  refine match q37 with | ⟨sa_z33, sc_z33, e_36⟩ => ?_
  subst e_36
  refine W.perm (M' := ((b15, ce9 189 [lV sac_u28 (List.replicate k Nd.zero).length scc_u28, lV sau_u28 (List.replicate k false).length scu_u28, lV sa_z33 (Yi k).length sc_z33]) :: (Mf_z33 ++ (Mc_u28 ++ (Mu_u28 ++ []))))) ((pr9.cons _).trans pr9).symm (g9 9 ?_)
  refine WC.perm (M' := ((b15, ce9 189 [lV sac_u28 (List.replicate k Nd.zero).length scc_u28, lV sau_u28 (List.replicate k false).length scu_u28, lV sa_z33 (Yi k).length sc_z33]) :: (Mc_u28 ++ (Mu_u28 ++ (Mf_z33 ++ []))))) (((List.Perm.append_left _ ((List.Perm.append_left _ ((List.Perm.append_left _ pr9).trans pr9)).trans (pmA pr9))).trans (pmA pr9)).cons _) (WC.ret ?_)
  refine ⟨.inr rfl, [_, _], ⟨rfl, rfl, trivial⟩, ((b15, ce9 189 [lV sac_u28 (List.replicate k Nd.zero).length scc_u28, lV sau_u28 (List.replicate k false).length scu_u28, lV sa_z33 (Yi k).length sc_z33]) :: (Mc_u28 ++ (Mu_u28 ++ (Mf_z33 ++ [])))), sr9.k9, ?_⟩
  exact .inr ⟨om9, _, rfl, ArR.cast (st := (List.replicate k Nd.zero, List.replicate k false)) ⟨_, ⟨_, _, _, _, _, _, rfl, (hc_u28.mono hG29), (hu_u28.mono hG29), hf_z33⟩, by simp, by simp; omega, Zdo k, List.Perm.of_eq (ZhV k)⟩ (by simp) (by simp)⟩
 refine W.mkSl (e := J1) (a0 := false) (n := (m)) Zb8 ty4 zr4 rfl by4 (rfl) rfl rfl (by first | (show _ * 152 ≤ 140737488355328; omega) | (show _ * 10 ≤ 16777216; omega) | (show _ * 1 ≤ 140737488355328; omega) | (show _ * 1 ≤ 16777216; omega)) (by first | (show _ * 152 ≤ 140737488355328; omega) | (show _ * 10 ≤ 16777216; omega) | (show _ * 1 ≤ 140737488355328; omega) | (show _ * 1 ≤ 16777216; omega)) (fun v38 Ms39 ho40 => ?_)
 have q44 := ho40.form
 refine match q44 with | ⟨sa41, sc42, e_43⟩ => ?_
 subst e_43
 refine W.nn (WD.a1 1 rfl (W.mkSl (e := Zv) (a0 := Nd.zero) (n := (m)) Xm Yd Zm rfl ZaN (⟨_, _, _, _, _, _, _, _, rfl, SlR.nil, SlR.nil, SlR.nil, SlR.nil, Nd.zero_ok⟩) rfl rfl (by first | (show _ * 152 ≤ 140737488355328; omega) | (show _ * 10 ≤ 16777216; omega) | (show _ * 1 ≤ 140737488355328; omega) | (show _ * 1 ≤ 16777216; omega)) (by first | (show _ * 152 ≤ 140737488355328; omega) | (show _ * 10 ≤ 16777216; omega) | (show _ * 1 ≤ 140737488355328; omega) | (show _ * 1 ≤ 16777216; omega)) (fun v45 Ms46 ho47 => ?_)))
 have q51 := ho47.form
 refine match q51 with | ⟨sa48, sc49, e_50⟩ => ?_
 subst e_50
 refine W.nn (WD.tk 4 rfl (Ya (L := [lV _ _ _, lV _ _ _, lV _ _ _]) Zk3 Zk2 rfl rfl rfl) (WD.a1 5 rfl (W.box (L := [lV _ _ _, lV _ _ _, lV _ _ _]) rfl rfl (fun b52 => (W.nn (d9 [6] ?_))))))
 refine g9 4 ?_
 have hR53 : ArP Zv 60 4 3 189 b52 G (List.replicate m Nd.zero, List.replicate m false, Yi 0) ((b52, ce9 189 [lV sa48 ((List.replicate ((m)) Nd.zero)).length sc49, lV sa41 ((List.replicate ((m)) false)).length sc42, lV none 0 0]) :: (Ms46 ++ (Ms39 ++ []))) := ⟨_, _, _, _, _, _, rfl, ho47, ho40, OwnR.nil⟩
 refine WC.perm (M' := (((b52, ce9 189 [lV sa48 ((List.replicate ((m)) Nd.zero)).length sc49, lV sa41 ((List.replicate ((m)) false)).length sc42, lV none 0 0]) :: (Ms46 ++ (Ms39 ++ []))) ++ [])) (pr9.symm.trans ((((pmF ((pmF pr9).trans pr9)).trans pr9).cons _).trans pr9)) (g9 6 ?_)
 refine WC.loop (X := (Nat) × MH) (fun k => [(19, nt9 k.1), (18, nt9 m), (4, pt9 b52)]) (fun k G Ml => Ml = (k.2 ++ []) ∧ ArP Zv 60 4 3 189 b52 G ((List.replicate m Nd.zero, List.replicate m false, Yi k.1)) k.2 ∧ k.1 ≤ m) (fun k => m - k.1) (0, ((b52, ce9 189 [lV sa48 ((List.replicate ((m)) Nd.zero)).length sc49, lV sa41 ((List.replicate ((m)) false)).length sc42, lV none 0 0]) :: (Ms46 ++ (Ms39 ++ [])))) hs9 ?_ ?_
 ·exact ⟨rfl, (by exact hR53), om9⟩
 rintro ⟨k, M_4⟩ gG54 G54 _ hG54 ⟨rfl, ho_4, hk⟩
 try dsimp only at ho_4 hk
 refine WC.fr (f := ZX gG54 [(19, nt9 k), (18, nt9 m), (4, pt9 b52)]) rfl (g9 6 ?_)
 refine WC.cd (fun h20 p20 => ?_) (fun h20 p20 => ?_)
 ·refine g9 10 ?_
  refine match ho_4 with | ⟨vc_u55, vu_u55, vf_u55, Mc_u55, Mu_u55, Mf_u55, eM_, hc_u55, hu_u55, hf_u55⟩ => ?_
  subst eM_
  refine WC.perm (M' := ((b52, ce9 189 [vc_u55, vu_u55, vf_u55]) :: (Mc_u55 ++ (Mu_u55 ++ (Mf_u55 ++ []))))) ((pmF (pmF pr9)).cons _).symm ?_
  dsimp only at hc_u55 hu_u55 hf_u55
  refine match hc_u55.form with | ⟨sac_u55, scc_u55, eV_⟩ => ?_
  subst eV_
  refine match hu_u55.form with | ⟨sau_u55, scu_u55, eV_⟩ => ?_
  subst eV_
  refine match hf_u55.form with | ⟨saf_u55, scf_u55, eV_⟩ => ?_
  subst eV_
  refine g9 7 ?_
  refine W.lit (e := ZA) (l := [((k : Nat) : Int)]) (css := [[iV _]]) Xw ty3 zr3 rfl rfl rfl rfl rfl rfl ⟨⟨rfl, om9, om9⟩, trivial⟩ (fun bl56 G56 hG56 hv56 => (W.app (e := ZA) Xw ty3 zr3 rfl by3 rfl rfl ((hf_u55.mono hG56)) (hv56) (pmC (pmA (pmA pr9))) (by show (_ + 1) * 8 ≤ _; rw [ZaA]; omega) (fun v57 Ms58 ho59 => (W.perm (pmC pr9).symm ?_))))
  have q63 := ho59.form
  refine match q63 with | ⟨sa60, sc61, e_62⟩ => ?_
  subst e_62
  refine g9 6 ?_
  have hR64 : ArP Zv 60 4 3 189 b52 G56 (List.replicate m Nd.zero, List.replicate m false, Yi (k + 1)) ((b52, ce9 189 [lV sac_u55 (List.replicate m Nd.zero).length scc_u55, lV sau_u55 (List.replicate m false).length scu_u55, lV sa60 ((Yi k ++ [((k : Nat) : Int)])).length sc61]) :: (Mc_u55 ++ (Mu_u55 ++ Ms58))) := ⟨_, _, _, _, _, _, rfl, (hc_u55.mono hG56), (hu_u55.mono hG56), (by rw [ZhU]; exact ho59)⟩
  refine WC.perm (M' := (((b52, ce9 189 [lV sac_u55 (List.replicate m Nd.zero).length scc_u55, lV sau_u55 (List.replicate m false).length scu_u55, lV sa60 ((Yi k ++ [((k : Nat) : Int)])).length sc61]) :: (Mc_u55 ++ (Mu_u55 ++ Ms58))) ++ [])) (pr9.symm.trans ((((pmF ((pmF pr9).trans (pmA pr9))).trans (pmA pr9)).cons _).trans pr9)) (g9 5 ?_)
  exact ⟨hG56, (k + 1, ((b52, ce9 189 [lV sac_u55 (List.replicate m Nd.zero).length scc_u55, lV sau_u55 (List.replicate m false).length scu_u55, lV sa60 ((Yi k ++ [((k : Nat) : Int)])).length sc61]) :: (Mc_u55 ++ (Mu_u55 ++ Ms58)))), hs9, ⟨rfl, (by exact hR64), om9⟩, om9⟩
 refine g9 6 ?_
 obtain rfl : k = m := by omega
 refine match ho_4 with | ⟨vc_u65, vu_u65, vf_u65, Mc_u65, Mu_u65, Mf_u65, eM_, hc_u65, hu_u65, hf_u65⟩ => ?_
 subst eM_
 refine WC.perm (M' := ((b52, ce9 189 [vc_u65, vu_u65, vf_u65]) :: (Mc_u65 ++ (Mu_u65 ++ (Mf_u65 ++ []))))) ((pmF (pmF pr9)).cons _).symm ?_
 dsimp only at hc_u65 hu_u65 hf_u65
 refine match hc_u65.form with | ⟨sac_u65, scc_u65, eV_⟩ => ?_
 subst eV_
 refine match hu_u65.form with | ⟨sau_u65, scu_u65, eV_⟩ => ?_
 subst eV_
 refine match hf_u65.form with | ⟨saf_u65, scf_u65, eV_⟩ => ?_
 subst eV_
 refine g9 4 ?_
 refine W.ok (Zau ZgB rfl) (W.call (Mp := ((b52, ce9 189 [lV sac_u65 (List.replicate k Nd.zero).length scc_u65, lV sau_u65 (List.replicate k false).length scu_u65, lV saf_u65 (Yi k).length scf_u65]) :: Mf_u65)) (Mr := (Mc_u65 ++ (Mu_u65 ++ []))) (ZlJ (ZgN (b := b52) (Tb := 189) (c0 := lV sac_u65 (List.replicate k Nd.zero).length scc_u65) (c1 := lV sau_u65 (List.replicate k false).length scu_u65)) ⟨_, _, rfl, hf_u65⟩ (Zdo k) (by rw [ZaA]; omega)) rfl (((pmA (pmA pr9)).cons _).trans pr9) ?_)
 intro v69 G66 Ms68 hG66 q67
 refine match q67 with | ⟨e_71, ⟨vf_z70, Mf_z70, e_72, hf_z70⟩⟩ => ?_
 subst e_71
 subst e_72
 have q74 := hf_z70.form
 refine match q74 with | ⟨sa_z70, sc_z70, e_73⟩ => ?_
 subst e_73
 refine W.perm (M' := ((b52, ce9 189 [lV sac_u65 (List.replicate k Nd.zero).length scc_u65, lV sau_u65 (List.replicate k false).length scu_u65, lV sa_z70 (Yi k).length sc_z70]) :: (Mf_z70 ++ (Mc_u65 ++ (Mu_u65 ++ []))))) ((pr9.cons _).trans pr9).symm (g9 9 ?_)
 refine WC.perm (M' := ((b52, ce9 189 [lV sac_u65 (List.replicate k Nd.zero).length scc_u65, lV sau_u65 (List.replicate k false).length scu_u65, lV sa_z70 (Yi k).length sc_z70]) :: (Mc_u65 ++ (Mu_u65 ++ (Mf_z70 ++ []))))) (((List.Perm.append_left _ ((List.Perm.append_left _ ((List.Perm.append_left _ pr9).trans pr9)).trans (pmA pr9))).trans (pmA pr9)).cons _) (WC.ret ?_)
 refine ⟨.inr rfl, [_, _], ⟨rfl, rfl, trivial⟩, ((b52, ce9 189 [lV sac_u65 (List.replicate k Nd.zero).length scc_u65, lV sau_u65 (List.replicate k false).length scu_u65, lV sa_z70 (Yi k).length sc_z70]) :: (Mc_u65 ++ (Mu_u65 ++ (Mf_z70 ++ [])))), sr9.k9, ?_⟩
 exact .inr ⟨om9, _, rfl, ArR.cast (st := (List.replicate k Nd.zero, List.replicate k false)) ⟨_, ⟨_, _, _, _, _, _, rfl, (hc_u65.mono hG66), (hu_u65.mono hG66), hf_z70⟩, by simp, by simp; omega, Zdo k, List.Perm.of_eq (ZhV k)⟩ (by simp) (by simp)⟩

theorem Zuk {G : GH} {b : Nat} {st : List Nd × List Bool} {M : MH} (h : ArR Zv 60 4 3 189 b G st M) (i : Int) {cs : List Value} {x : Nd} (hx : NodeC G cs x) : Fc Tryz.prog 178 [pt9 b, iV i, .agg (List.toArray cs)] G M (fun v G' M' => v = iV (X3 st i x).1 ∧ ArR Zv 60 4 3 189 b G' (X3 st i x).2 M') := by
  have h0 := h
  obtain ⟨f, ⟨vc, vu, vf, Mc, Mu, Mf, rfl, h1, h2, h3⟩, h4, h5, h6, h7⟩ := h
  exact Zud h1 h2 h3 i hx h4 h5 h6 h7
theorem Zul {G : GH} {b : Nat} {st : List Nd × List Bool} {M : MH} (h : ArR Zv 60 4 3 189 b G st M) {cs : List Value} {x : Nd} (hx : NodeC G cs x) : Fc Tryz.prog 139 [pt9 b, .agg (List.toArray cs)] G M (fun v G' M' => v = .tuple #[iV (Yq st x).1.1, iV (Yq st x).1.2] ∧ ArR Zv 60 4 3 189 b G' (Yq st x).2 M') := by
  have h0 := h
  obtain ⟨f, ⟨vc, vu, vf, Mc, Mu, Mf, rfl, h1, h2, h3⟩, h4, h5, h6, h7⟩ := h
  exact Zue h1 h2 h3 hx h4 h5 h6 h7
theorem Zum {G : GH} {b : Nat} {st : List Nd × List Bool} {M : MH} (h : ArR Zv 60 4 3 189 b G st M) (i : Int) : Fc Tryz.prog 117 [pt9 b, iV i] G M (fun v G' M' => (∃ cs, v = .tuple #[.agg (List.toArray cs), .bool (Y0 st.2 i)] ∧ NodeC G' cs (JH st i Nd.zero)) ∧ M' = M) := by
  have h0 := h
  obtain ⟨f, ⟨vc, vu, vf, Mc, Mu, Mf, rfl, h1, h2, h3⟩, h4, h5, h6, h7⟩ := h
  exact (Zuf h1 h2 h3 i h4).mono fun v G' M' hl ⟨cs, e1, e2, e3⟩ => ⟨⟨cs, e1, e2⟩, e3⟩
theorem Zun {G : GH} {b : Nat} {st : List Nd × List Bool} {M : MH} (h : ArR Zv 60 4 3 189 b G st M)  : Fc Tryz.prog 112 [pt9 b] G M (fun v G' M' => v = iV ((Xj st.2).length : Int) ∧ M' = M) := by
  have h0 := h
  obtain ⟨f, ⟨vc, vu, vf, Mc, Mu, Mf, rfl, h1, h2, h3⟩, h4, h5, h6, h7⟩ := h
  exact (Zug h1 h2 h3 h4 h5 h6 h7).mono fun v G' M' hl hq => hq
theorem Zuo {G : GH} {b : Nat} {st : List Nd × List Bool} {M : MH} (h : ArR Zv 60 4 3 189 b G st M)  : Fc Tryz.prog 218 [pt9 b] G M (fun v G' M' => v = iV ((Y7 st.2).length : Int) ∧ M' = M) := by
  have h0 := h
  obtain ⟨f, ⟨vc, vu, vf, Mc, Mu, Mf, rfl, h1, h2, h3⟩, h4, h5, h6, h7⟩ := h
  exact (Zuh h1 h2 h3 h4 h5 h6 h7).mono fun v G' M' hl hq => hq
theorem Zup {G : GH} {b : Nat} {st : List Nd × List Bool} {M : MH} (h : ArR Zv 60 4 3 189 b G st M)  : Fc Tryz.prog 107 [pt9 b] G M (fun v G' M' => SlR ZA G' v (Xj st.2) ∧ M' = M) := by
  have h0 := h
  obtain ⟨f, ⟨vc, vu, vf, Mc, Mu, Mf, rfl, h1, h2, h3⟩, h4, h5, h6, h7⟩ := h
  exact (Zui h1 h2 h3 h4 h5 h6 h7).mono fun v G' M' hl hq => hq
theorem Zuq {G : GH} (ek : Int) (ev : Str) :
    Fc Tryz.prog 173 [.agg #[iV ek, sV ev.b]] G [] (fun v _ _ => v = .bool (decide (ek = 1) || decide (ek = 2))) := by
 refine Fc.go [.tmp 2] Tryz.func173 Tryz.ntmps173 rfl (fun w0 => (g9 2 ?_))
 refine W.box (L := [iV _, sV _]) rfl rfl (fun b1 => (g9 9 ?_))
 refine W.sd 6 (fun h5 p5 => ?_) (fun h5 p5 => ?_)
 ·refine g9 9 ?_
  refine congrArg Value.bool ?_
  simp_all
 refine g9 12 ?_
 refine congrArg Value.bool ?_
 simp_all

theorem Zur {G : GH} {v_l : Value} {l : List Pair} (h_l : SlR Zp G v_l l) (k : Str) (ek : Int) (ev : Str) (n : Int) (hr : Srt l) :
    Fc Tryz.prog 132 [v_l, sV k.b, .agg #[iV ek, sV ev.b], iV n] G [] (fun v _ _ => v = .bool (Zbd l k (⟨ek, ev⟩ : Eff) n)) := by
 obtain ⟨sa_l, sc_l, rfl⟩ := h_l.form
 refine Fc.go [.tmp 8] Tryz.func132 Tryz.ntmps132 rfl (fun w0 => (g9 2 ?_))
 refine W.box (L := [iV _, sV _]) rfl rfl (fun b2 => (g9 7 ?_))
 refine W.qcall (ZsN h_l _ (by assumption)) rfl (g9 11 ?_)
 refine W.sp 18 rfl (fun h14_1 => ?_) (fun h14_1 => ?_)
 ·refine g9 15 ?_
  refine congrArg Value.bool ?_
  simp_all [Zbd]
 refine g9 3 ?_
 refine W.qcall (Zuq _ _) rfl (g9 4 ?_)
 refine W.sp 23 rfl (fun h21 => ?_) (fun h21 => ?_)
 ·refine g9 10 ?_
  refine congrArg Value.bool ?_
  simp_all [Zbd]
 refine g9 14 ?_
 refine congrArg Value.bool ?_
 simp_all [Zbd]

theorem Zus {G : GH} {v_l : Value} {l : List Pair} (h_l : SlR Zp G v_l l) (ms : Int) (mk : Int) (mkey : Str) (mhi : Str) (mo : Bool) (mv : Str) (n : Int) (hP : PairsR l) (hk : Msg.fit (⟨ms, mk, mkey, mhi, mo, mv⟩ : Msg)) :
    Fc Tryz.prog 215 [v_l, .agg #[iV ms, iV mk, sV mkey.b, sV mhi.b, .bool mo, sV mv.b], iV n] G [] (fun v _ _ => v = .bool (Yj l (⟨ms, mk, mkey, mhi, mo, mv⟩ : Msg) n)) := by
 obtain ⟨sa_l, sc_l, rfl⟩ := h_l.form
 have hk1 := hk.1
 dsimp only at hk1
 have hr := hP.srt
 have hl := h_l.len47
 refine Fc.go [.tmp 6] Tryz.func215 Tryz.ntmps215 rfl (fun w0 => (g9 2 ?_))
 refine W.box (L := [iV _, iV _, sV _, sV _, .bool _, sV _]) rfl rfl (fun b3 => (g9 9 ?_))
 refine W.sd 10 (fun h9 p9 => ?_) (fun h9 p9 => ?_)
 ·refine g9 15 ?_
  refine congrArg Value.bool ?_
  simp_all [Yj]
 refine g9 13 ?_
 refine W.qcall (Zel ms mk mkey mhi mo mv mkey om9) rfl (g9 3 ?_)
 refine W.qcall (Zur h_l _ _ _ _ (by assumption)) rfl (g9 6 ?_)
 refine congrArg Value.bool ?_
 simp_all [Yj]

theorem ZgO {G : GH} {v_l : Value} {l : List Pair} (h_l : SlR Zp G v_l l) (ms : Int) (mk : Int) (mkey : Str) (mhi : Str) (mo : Bool) (mv : Str) (n : Int) (hP : PairsR l) (hn : l.length ≤ 1000000) (hk : Msg.fit (⟨ms, mk, mkey, mhi, mo, mv⟩ : Msg)) :
    Fc Tryz.prog 186 [v_l, .agg #[iV ms, iV mk, sV mkey.b, sV mhi.b, .bool mo, sV mv.b], iV n] G [] (fun v G' M' => M' = [] ∧ ∃ r : List Pair × Bool, r = ZaD l (⟨ms, mk, mkey, mhi, mo, mv⟩ : Msg) n ∧ ∃ u0, v = .tuple #[u0, .bool (r.2)] ∧ SlR Zp G' u0 (r.1)) := by
 obtain ⟨sa_l, sc_l, rfl⟩ := h_l.form
 refine Fc.go [.tmp 6, .tmp 7] Tryz.func186 Tryz.ntmps186 rfl (fun w0 => (g9 2 ?_))
 refine W.box (L := [iV _, iV _, sV _, sV _, .bool _, sV _]) rfl rfl (fun b4 => (g9 10 ?_))
 refine W.qcall (Zus h_l _ _ _ _ _ _ _ (by first | assumption | omega | (simp; omega) | (exact PairsR.fold (by assumption) (by assumption))) (by first | assumption | exact Zcz (by assumption))) rfl (g9 3 ?_)
 refine WC.cond rfl (fun h12 => ?_) (fun h12 => ?_)
 ·refine g9 9 ?_
  refine ⟨rfl, _, (Zfg (by simpa using h12)).symm, _, rfl, ?_⟩
  · exact SlR.nil
 refine g9 6 ?_
 refine W.cS (ZlE h_l _ _ _ _ _ _ (by first | assumption | omega | (simp; omega) | (exact PairsR.fold (by assumption) (by assumption))) (by first | assumption | omega | (simp; omega) | (exact PairsR.fold (by assumption) (by assumption))) (by first | assumption | exact Zcz (by assumption))) rfl (fun sa_hv6 sc_hv6 G5 hG5 hv6 => (g9 6 ?_))
 refine ⟨rfl, _, (Zcy (by simpa using h12)).symm, _, rfl, ?_⟩
 · exact hv6

theorem Zut {G : GH} (a : Str) (b : Str) :
    Fc Tryz.prog 234 [sV a.b, sV b.b] G [] (fun v _ _ => v = nt9 (Z6 a b)) := by
 have ha := a.le
 have hb := b.le
 refine Fc.go [.tmp 4] Tryz.func234 Tryz.ntmps234 rfl (fun w0 => (g9 12 ?_))
 refine WC.loop (X := Nat) (fun k => [(5, nt9 k), (0, sV a.b), (1, sV b.b)]) (fun k _ Ml => Ml = [] ∧ k ≤ a.b.size ∧ k ≤ b.b.size ∧ ∀ i, i < k → a.b[i]? = b.b[i]?) (fun k => a.b.size - k) 0 hs9 ?_ ?_
 ·exact ⟨rfl, om9, om9, fun i hi => by omega⟩
 rintro k gG1 G1 _ hG1 ⟨rfl, hk1, hk2, hk3⟩
 refine g9 8 ?_
 refine W.ok (Zev rfl rfl) (g9 2 ?_)
 refine W.sd 13 (fun h12 p12 => ?_) (fun h12 p12 => ?_)
 ·refine g9 5 ?_
  refine W.ok (ZlX (i := k) st9 rfl rfl ⟨om9, om9⟩) (g9 5 ?_)
  refine W.ok (ZlX (i := k) st9 rfl rfl ⟨om9, om9⟩) (g9 5 ?_)
  refine WC.cd (fun h20 p20 => ?_) (fun h20 p20 => ?_)
  ·refine g9 10 ?_
   exact ⟨Le.rfl, k + 1, hs9, ⟨rfl, om9, om9, Zu3 hk3 om9 om9 p20⟩, om9⟩
  refine g9 13 ?_
  refine congrArg (Value.int .i64) ?_
  exact congrArg Nat.cast (Zm6 hk3 om9 om9 p20).symm
 refine g9 24 ?_
 refine congrArg (Value.int .i64) ?_
 exact congrArg Nat.cast (Zm5 hk1 hk2 hk3 om9).symm

theorem Zuu {G : GH} (a : Str) (b : Str) :
    Fc Tryz.prog 207 [sV a.b, sV b.b] G [] (fun v _ _ => v = .tuple #[sV (Str.b ((Jr a b).1)), .bool ((Jr a b).2)]) := by
 have ha := a.le
 have hb := b.le
 refine Fc.go [.tmp 4, .tmp 5] Tryz.func207 Tryz.ntmps207 rfl (fun w0 => (g9 11 ?_))
 refine W.ok (Zew rfl rfl) (g9 2 ?_)
 refine WC.cond rfl (fun h8 => ?_) (fun h8 => ?_)
 ·refine g9 9 ?_
  show Value.tuple #[Value.string _, Value.bool _] = _
  rw [Zm7 (by simpa [Str.lt] using h8)]; rfl
 have hlt : a.lt b = true := by simpa [Str.lt] using h8
 have hcm := Zhh hlt
 have hcl := ZeM a b
 refine g9 7 ?_
 refine W.qcall (Zut _ _) rfl (g9 1 ?_)
 refine W.ok (Zms (0) (Z6 a b + 1) st9 rfl rfl ⟨_, _, rfl, om9⟩ ⟨om9, om9⟩) (g9 6 ?_)
 show Value.tuple #[Value.string _, Value.bool _] = _
 rw [Zhi hlt]

theorem Zuv {G : GH} {v_l : Value} {l : List Pair} (h_l : SlR Zp G v_l l) :
    Fc Tryz.prog 175 [v_l] G [] (fun v G' M' => M' = [] ∧ ∃ r : List Pair × List Pair × Str × Bool, r = XG l ∧ ∃ u0 u1, v = .tuple #[u0, u1, sV (Str.b (r.2.2.1)), .bool (r.2.2.2)] ∧ SlR Zp G' u0 (r.1) ∧ SlR Zp G' u1 (r.2.1)) := by
 obtain ⟨sa_l, sc_l, rfl⟩ := h_l.form
 have hl := h_l.len47
 have hlb : l.length * 32 ≤ 140737488355328 := h_l.bytes
 refine Fc.go [.tmp 2, .tmp 3, .tmp 4, .tmp 5] Tryz.func175 Tryz.ntmps175 rfl (fun w0 => (g9 16 ?_))
 refine WC.cd (fun h9 p9 => ?_) (fun h9 p9 => ?_)
 ·refine g9 11 ?_
  refine ⟨rfl, _, (Zhk om9).symm, _, _, rfl, ?_, ?_⟩
  · exact SlR.nil
  exact SlR.nil
 refine g9 7 ?_
 refine W.ok (Zce rfl rfl om9 om9 om9) (g9 8 ?_)
 refine h_l.a1 (i := (l.length + 1) / 2 - 1) om9 (fun he2 => (W.ok (Yu (i := (l.length + 1) / 2 - 1) ZL ZM h_l rfl rfl ⟨om9, om9⟩) (g9 4 ?_)))
 refine h_l.a1 (i := (l.length + 1) / 2) om9 (fun he5 => (W.ok (Yu (i := (l.length + 1) / 2) ZL ZM h_l rfl rfl ⟨om9, om9⟩) (g9 2 ?_)))
 refine W.qcall (Zuu _ _) rfl (g9 7 ?_)
 refine WC.dw sr9 (d9 [0, 1] ?_)
 have hs8 := SlR.slice h_l (lo := 0) (hi := (l.length + 1) / 2) om9 om9
 refine WD.tk 2 rfl (JE (0) ((l.length + 1) / 2) ZL ZM h_l rfl rfl ⟨_, _, rfl, om9⟩ ⟨om9, om9⟩) (d9 [4, 5] ?_)
 have hs9 := SlR.slice h_l (lo := (l.length + 1) / 2) (hi := l.length) om9 om9
 refine WD.tk 6 rfl (JE ((l.length + 1) / 2) (l.length) ZL ZM h_l rfl ⟨_, _, rfl, om9⟩ rfl ⟨om9, om9⟩) (d9 [8] ?_)
 refine WD.a1 3 rfl (W.cS (Jf hs8) rfl (fun sa_hv11 sc_hv11 G10 hG10 hv11 => (W.nn (WD.a1 7 rfl (W.cS (Jf (hs9.mono hG10)) rfl (fun sa_hv18 sc_hv18 G17 hG17 hv18 => (W.nn (d9 [9, 10, 11, 12] ?_))))))))
 refine g9 4 ?_
 refine ⟨rfl, _, (Zcm om9).symm, _, _, rfl, ?_, ?_⟩
 · exact SlR.cast ((hv11.mono hG17)) (by simp)
 exact SlR.cast (hv18) (by simp)

theorem Zuw {G : GH} {v_s : Value} {s : List Str} {Ms_s : MH} (h_s : OwnR Yh 9 G v_s s Ms_s) (i : Nat) {v_u : Value} {u : List Str} {Ms_u : MH} (h_u : OwnR Yh 9 G v_u u Ms_u) (hi : i ≤ s.length) (hu : 0 < u.length) (hw : (s.length + u.length) * 16 ≤ 140737488355328) :
    Fc Tryz.prog 208 [v_s, nt9 i, v_u] G (Ms_s ++ Ms_u) (fun v G' M' => OwnR Yh 9 G' v ((s.take i ++ u) ++ s.drop i) M') := by
 have hs := h_s.len47
 have hul := h_u.len47
 have hcs := h_s.cap_le
 refine Fc.go [.tmp 6] Tryz.func208 Tryz.ntmps208 rfl (fun w0 => (WC.perm (M' := (Ms_s ++ (Ms_u ++ []))) (by simp) (g9 9 ?_)))
 refine W.ok (XP (i) (s.length) Yb ty9 h_s rfl ⟨_, _, rfl, om9⟩ rfl ⟨om9, .inl om9⟩) (g9 16 ?_)
 refine WC.cd (fun h16 p16 => ?_) (fun h16 p16 => ?_)
 ·exact absurd p16 om9
 refine g9 17 ?_
 refine WC.cd (fun h22 p22 => ?_) (fun h22 p22 => ?_)
 ·refine g9 4 ?_
  refine W.giveO h_u (pmA pr9) (fun G1 hG1 hv1 => ?_)
  have q3 := hv1.form
  refine match q3 with | ⟨_, _, e_2⟩ => ?_
  subst e_2
  refine W.app (e := Yh) Yb ty9 zr9 rfl by9 rfl rfl ((h_s.mono hG1)) (hv1) pr9 (hw) (fun v4 Ms5 ho6 => (g9 5 ?_))
  refine ⟨.inr rfl, [_], ⟨rfl, trivial⟩, Ms5, List.sublist_append_left _ _, ?_⟩
  have h := ho6
  rw [show (s.take i ++ u) ++ s.drop i = s ++ u from by rw [List.take_of_length_le om9, List.drop_eq_nil_of_le om9, List.append_nil]]
  exact h
 refine g9 7 ?_
 refine W.ok (Ok.int (n := ((s.length + u.length : Nat) : Int)) (YY rfl rfl om9) om9) (W.mv ?_)
 have q7 := h_s.capForm
 refine match q7 with | ⟨ac30, hcf30⟩ => ?_
 refine W.ok (Zhc (c := YZ v_s) Yb hcf30) (g9 3 ?_)
 refine WC.cd (fun h31 p31 => ?_) (fun h31 p31 => ?_)
 ·refine g9 4 ?_
  refine W.ok (XP (0) (i) Yb ty9 h_s rfl rfl ⟨_, _, rfl, om9⟩ ⟨om9, .inl om9⟩) (g9 2 ?_)
  refine W.ok (Ok.int (n := ((s.length + u.length : Nat) : Int)) (YY rfl rfl om9) om9) (W.mv (W.ok (Ok.int (n := ((s.length + u.length - i : Nat) : Int)) (Zar rfl rfl om9) om9) (W.appZ (e := Yh) (i := i) (c := s.length + u.length - i) Yb ty9 zr9 rfl by9 Tryz.underlying3 h_s pr9 rfl rfl om9 om9 om9 om9 (by rw [show i + (s.length + u.length - i) = s.length + u.length from by omega]; exact hw) rfl (fun v40 Ms40 hp40 => (g9 7 ?_)))))
  refine W.ok (XF (i) (i + (s.length + u.length - i)) Yb ty9 hp40 rfl ⟨_, _, rfl, om9⟩ rfl ⟨om9, by have := OwnP.cap_le hp40; omega⟩) (W.mv (W.copyP (i) (by simp; omega) Yb ty9 hp40 pr9 (Src.ofOwn0 h_u (pmA (pmA pr9)) om9) rfl rfl om9 om9 (fun z45 Ms45 hp45 => (g9 3 ?_))))
  refine WC.dw sn9 (d9 [0, 1, 2] ?_)
  refine WD.tk 3 rfl (Ok.int (n := ((i + u.length : Nat) : Int)) (YY rfl rfl om9) om9) (WD.tk 4 rfl (XF (i + u.length) (i + (s.length + u.length - i)) Yb ty9 hp45 rfl ⟨_, _, rfl, om9⟩ rfl ⟨om9, by have := OwnP.cap_le hp45; omega⟩) (d9 [5, 6] ?_))
  refine WD.tk 7 rfl (XP (i) (s.length) Yb ty9 h_s rfl ⟨_, _, rfl, om9⟩ rfl ⟨om9, .inl om9⟩) (WD.a1 8 rfl (W.copyP (i + u.length) (by simp; omega) Yb ty9 hp45 pr9 (Src.ofOwn (lo := i) h_s (pmA pr9) om9 om9) rfl rfl (by simp; omega) om9 (fun z54 Ms54 hp54 => (W.nn (g9 10 ?_)))))
  refine ⟨.inr rfl, [_], ⟨rfl, trivial⟩, Ms54, List.sublist_append_left _ _, ?_⟩
  have h := (hp54.own' (by simp; omega))
  rw [List.append_nil] at h
  exact h
 refine g9 7 ?_
 refine W.ok (Ok.int (n := ((s.length + u.length : Nat) : Int)) (YY rfl rfl om9) om9) (W.ok (XP 0 (s.length + u.length) Yb ty9 h_s rfl rfl ⟨_, _, rfl, om9⟩ ⟨om9, .inr om9⟩) ?_)
 have hp60 := OwnP.extend (m := u.length) (OwnR.open h_s om9) om9 hw om9
 refine g9 10 ?_
 refine W.ok (Ok.int (n := ((i + u.length : Nat) : Int)) (YY rfl rfl om9) om9) (W.ok (XF (i + u.length) (s.length + u.length) Yb ty9 hp60 rfl ⟨_, _, rfl, om9⟩ rfl ⟨om9, by have := OwnP.cap_le hp60; omega⟩) ?_)
 have hc67 := OwnP.cap_le hp60
 refine W.ok (Zhe (fn := Tryz.f235) (tR := 4) (lo := i + u.length) (hi := s.length + u.length) Tryz.func235 (by kernel_rfl) (by kernel_rfl) (by kernel_rfl) (by kernel_rfl) Yb ty9 h_u hp60 ((List.Perm.append_left _ pr9).trans (pmA pr9)) om9 om9 rfl rfl rfl) (g9 5 ?_)
 refine WC.dw sn9 (d9 [0, 1, 2] ?_)
 refine WD.tk 3 rfl (Ok.int (n := ((i + u.length : Nat) : Int)) (YY rfl rfl om9) om9) (WD.tk 4 rfl (XF (i + u.length) (s.length + u.length) Yb ty9 hp60 rfl ⟨_, _, rfl, om9⟩ rfl ⟨om9, by have := OwnP.cap_le hp60; omega⟩) (d9 [5, 6] ?_))
 refine WD.tk 7 rfl (XF (i) (s.length + u.length) Yb ty9 hp60 rfl ⟨_, _, rfl, om9⟩ rfl ⟨om9, by have := OwnP.cap_le hp60; omega⟩) (WD.a1 8 rfl (W.copyShift (i := i) Yb ty9 hp60 pr9 rfl rfl om9 (fun z77 Ms77 hp77 => (W.nn (g9 6 ?_)))))
 refine W.ok (XF (i) (s.length + u.length) Yb ty9 hp77 rfl ⟨_, _, rfl, om9⟩ rfl ⟨om9, by have := OwnP.cap_le hp77; omega⟩) (W.mv (W.copyP (i) (by simp; omega) Yb ty9 hp77 pr9 (Src.ofOwn0 h_u (pmA pr9) om9) rfl rfl om9 om9 (fun z82 Ms82 hp82 => (g9 10 ?_))))
 refine ⟨.inr rfl, [_], ⟨rfl, trivial⟩, Ms82, List.sublist_append_left _ _, ?_⟩
 exact (hp82.own' om9)

theorem Zux {G : GH} {v_s : Value} {s : List Int} {Ms_s : MH} (h_s : OwnR ZA 3 G v_s s Ms_s) (i : Nat) {v_u : Value} {u : List Int} {Ms_u : MH} (h_u : OwnR ZA 3 G v_u u Ms_u) (hi : i ≤ s.length) (hu : 0 < u.length) (hw : (s.length + u.length) * 8 ≤ 140737488355328) :
    Fc Tryz.prog 209 [v_s, nt9 i, v_u] G (Ms_s ++ Ms_u) (fun v G' M' => OwnR ZA 3 G' v ((s.take i ++ u) ++ s.drop i) M') := by
 have hs := h_s.len47
 have hul := h_u.len47
 have hcs := h_s.cap_le
 refine Fc.go [.tmp 6] Tryz.func209 Tryz.ntmps209 rfl (fun w0 => (WC.perm (M' := (Ms_s ++ (Ms_u ++ []))) (by simp) (g9 9 ?_)))
 refine W.ok (XP (i) (s.length) Z8 ty3 h_s rfl ⟨_, _, rfl, om9⟩ rfl ⟨om9, .inl om9⟩) (g9 16 ?_)
 refine WC.cd (fun h16 p16 => ?_) (fun h16 p16 => ?_)
 ·exact absurd p16 om9
 refine g9 17 ?_
 refine WC.cd (fun h22 p22 => ?_) (fun h22 p22 => ?_)
 ·refine g9 4 ?_
  refine W.giveO h_u (pmA pr9) (fun G8 hG8 hv8 => ?_)
  have q10 := hv8.form
  refine match q10 with | ⟨_, _, e_9⟩ => ?_
  subst e_9
  refine W.app (e := ZA) Z8 ty3 zr3 rfl by3 rfl rfl ((h_s.mono hG8)) (hv8) pr9 (hw) (fun v11 Ms12 ho13 => (g9 5 ?_))
  refine ⟨.inr rfl, [_], ⟨rfl, trivial⟩, Ms12, List.sublist_append_left _ _, ?_⟩
  have h := ho13
  rw [show (s.take i ++ u) ++ s.drop i = s ++ u from by rw [List.take_of_length_le om9, List.drop_eq_nil_of_le om9, List.append_nil]]
  exact h
 refine g9 7 ?_
 refine W.ok (Ok.int (n := ((s.length + u.length : Nat) : Int)) (YY rfl rfl om9) om9) (W.mv ?_)
 have q14 := h_s.capForm
 refine match q14 with | ⟨ac30, hcf30⟩ => ?_
 refine W.ok (Zhc (c := YZ v_s) Z8 hcf30) (g9 3 ?_)
 refine WC.cd (fun h31 p31 => ?_) (fun h31 p31 => ?_)
 ·refine g9 4 ?_
  refine W.ok (XP (0) (i) Z8 ty3 h_s rfl rfl ⟨_, _, rfl, om9⟩ ⟨om9, .inl om9⟩) (g9 2 ?_)
  refine W.ok (Ok.int (n := ((s.length + u.length : Nat) : Int)) (YY rfl rfl om9) om9) (W.mv (W.ok (Ok.int (n := ((s.length + u.length - i : Nat) : Int)) (Zar rfl rfl om9) om9) (W.appZ (e := ZA) (i := i) (c := s.length + u.length - i) Z8 ty3 zr3 rfl by3 Tryz.underlying3 h_s pr9 rfl rfl om9 om9 om9 om9 (by rw [show i + (s.length + u.length - i) = s.length + u.length from by omega]; exact hw) rfl (fun v40 Ms40 hp40 => (g9 7 ?_)))))
  refine W.ok (XF (i) (i + (s.length + u.length - i)) Z8 ty3 hp40 rfl ⟨_, _, rfl, om9⟩ rfl ⟨om9, by have := OwnP.cap_le hp40; omega⟩) (W.mv (W.copyP (i) (by simp; omega) Z8 ty3 hp40 pr9 (Src.ofOwn0 h_u (pmA (pmA pr9)) om9) rfl rfl om9 om9 (fun z45 Ms45 hp45 => (g9 3 ?_))))
  refine WC.dw sn9 (d9 [0, 1, 2] ?_)
  refine WD.tk 3 rfl (Ok.int (n := ((i + u.length : Nat) : Int)) (YY rfl rfl om9) om9) (WD.tk 4 rfl (XF (i + u.length) (i + (s.length + u.length - i)) Z8 ty3 hp45 rfl ⟨_, _, rfl, om9⟩ rfl ⟨om9, by have := OwnP.cap_le hp45; omega⟩) (d9 [5, 6] ?_))
  refine WD.tk 7 rfl (XP (i) (s.length) Z8 ty3 h_s rfl ⟨_, _, rfl, om9⟩ rfl ⟨om9, .inl om9⟩) (WD.a1 8 rfl (W.copyP (i + u.length) (by simp; omega) Z8 ty3 hp45 pr9 (Src.ofOwn (lo := i) h_s (pmA pr9) om9 om9) rfl rfl (by simp; omega) om9 (fun z54 Ms54 hp54 => (W.nn (g9 10 ?_)))))
  refine ⟨.inr rfl, [_], ⟨rfl, trivial⟩, Ms54, List.sublist_append_left _ _, ?_⟩
  have h := (hp54.own' (by simp; omega))
  rw [List.append_nil] at h
  exact h
 refine g9 7 ?_
 refine W.ok (Ok.int (n := ((s.length + u.length : Nat) : Int)) (YY rfl rfl om9) om9) (W.ok (XP 0 (s.length + u.length) Z8 ty3 h_s rfl rfl ⟨_, _, rfl, om9⟩ ⟨om9, .inr om9⟩) ?_)
 have hp60 := OwnP.extend (m := u.length) (OwnR.open h_s om9) om9 hw om9
 refine g9 10 ?_
 refine W.ok (Ok.int (n := ((i + u.length : Nat) : Int)) (YY rfl rfl om9) om9) (W.ok (XF (i + u.length) (s.length + u.length) Z8 ty3 hp60 rfl ⟨_, _, rfl, om9⟩ rfl ⟨om9, by have := OwnP.cap_le hp60; omega⟩) ?_)
 have hc67 := OwnP.cap_le hp60
 refine W.ok (Zhe (fn := Tryz.f237) (tR := 4) (lo := i + u.length) (hi := s.length + u.length) Tryz.func237 (by kernel_rfl) (by kernel_rfl) (by kernel_rfl) (by kernel_rfl) Z8 ty3 h_u hp60 ((List.Perm.append_left _ pr9).trans (pmA pr9)) om9 om9 rfl rfl rfl) (g9 5 ?_)
 refine WC.dw sn9 (d9 [0, 1, 2] ?_)
 refine WD.tk 3 rfl (Ok.int (n := ((i + u.length : Nat) : Int)) (YY rfl rfl om9) om9) (WD.tk 4 rfl (XF (i + u.length) (s.length + u.length) Z8 ty3 hp60 rfl ⟨_, _, rfl, om9⟩ rfl ⟨om9, by have := OwnP.cap_le hp60; omega⟩) (d9 [5, 6] ?_))
 refine WD.tk 7 rfl (XF (i) (s.length + u.length) Z8 ty3 hp60 rfl ⟨_, _, rfl, om9⟩ rfl ⟨om9, by have := OwnP.cap_le hp60; omega⟩) (WD.a1 8 rfl (W.copyShift (i := i) Z8 ty3 hp60 pr9 rfl rfl om9 (fun z77 Ms77 hp77 => (W.nn (g9 6 ?_)))))
 refine W.ok (XF (i) (s.length + u.length) Z8 ty3 hp77 rfl ⟨_, _, rfl, om9⟩ rfl ⟨om9, by have := OwnP.cap_le hp77; omega⟩) (W.mv (W.copyP (i) (by simp; omega) Z8 ty3 hp77 pr9 (Src.ofOwn0 h_u (pmA pr9) om9) rfl rfl om9 om9 (fun z82 Ms82 hp82 => (g9 10 ?_))))
 refine ⟨.inr rfl, [_], ⟨rfl, trivial⟩, Ms82, List.sublist_append_left _ _, ?_⟩
 exact (hp82.own' om9)

theorem Zuy {G : GH} {v_a : Value} {a : List Str} (h_a : SlR Yh G v_a a) :
    Fc Tryz.prog 158 [v_a] G [] (fun v G' M' => OwnR Yh 9 G' v (a) M') := by
 obtain ⟨sa_a, sc_a, rfl⟩ := h_a.form
 have ha := h_a.bytes
 refine Fc.go [.tmp 2] Tryz.func158 Tryz.ntmps158 rfl (fun w0 => (g9 9 ?_))
 refine W.ok (Za4 Yb rfl rfl) (g9 2 ?_)
 refine WC.cond rfl (fun h4 => ?_) (fun h4 => ?_)
 ·have hn := SlR.isNone h_a h4
  subst hn
  refine g9 8 ?_
  exact OwnR.nil
 refine g9 4 ?_
 refine W.lit0 (e := Yh) Yb ty9 zr9 rfl (fun v17 Ms18 ho19 => (W.mv (W.app (e := Yh) Yb ty9 zr9 rfl by9 rfl rfl (ho19) (h_a) pr9 (by simpa using ha) (fun v20 Ms21 ho22 => (g9 4 ?_)))))
 refine ⟨.inr rfl, [_], ⟨rfl, trivial⟩, Ms21, List.sublist_append_left _ _, ?_⟩
 have h := ho22
 rw [List.nil_append] at h
 exact h

theorem Zuz {G : GH} {v_a : Value} {a : List Int} (h_a : SlR ZA G v_a a) :
    Fc Tryz.prog 159 [v_a] G [] (fun v G' M' => OwnR ZA 3 G' v (a) M') := by
 obtain ⟨sa_a, sc_a, rfl⟩ := h_a.form
 have ha := h_a.bytes
 refine Fc.go [.tmp 2] Tryz.func159 Tryz.ntmps159 rfl (fun w0 => (g9 9 ?_))
 refine W.ok (Za4 Z8 rfl rfl) (g9 2 ?_)
 refine WC.cond rfl (fun h4 => ?_) (fun h4 => ?_)
 ·have hn := SlR.isNone h_a h4
  subst hn
  refine g9 8 ?_
  exact OwnR.nil
 refine g9 4 ?_
 refine W.lit0 (e := ZA) Z8 ty3 zr3 rfl (fun v23 Ms24 ho25 => (W.mv (W.app (e := ZA) Z8 ty3 zr3 rfl by3 rfl rfl (ho25) (h_a) pr9 (by simpa using ha) (fun v26 Ms27 ho28 => (g9 4 ?_)))))
 refine ⟨.inr rfl, [_], ⟨rfl, trivial⟩, Ms27, List.sublist_append_left _ _, ?_⟩
 have h := ho28
 rw [List.nil_append] at h
 exact h

theorem ZuA {G : GH} {v_p : Value} {p : List Str} (h_p : SlR Yh G v_p p) {v_c : Value} {c : List Int} (h_c : SlR ZA G v_c c) (i : Nat) (k : Str) (nv : Int) (hb1 : (p.length + 1) * 16 ≤ 140737488355328) (hb2 : (c.length + 1) * 8 ≤ 140737488355328) (hi : i64 ((i : Nat) : Int)) (hv : i64 nv) :
    Fc Tryz.prog 176 [v_p, v_c, nt9 i, sV k.b, iV nv] G [] (fun v G' M' => M' = [] ∧ ∃ r : List Str × List Int, r = X6 p c i k nv ∧ ∃ u0 u1, v = .tuple #[u0, u1] ∧ SlR Yh G' u0 (r.1) ∧ SlR ZA G' u1 (r.2)) := by
 obtain ⟨sa_p, sc_p, rfl⟩ := h_p.form
 obtain ⟨sa_c, sc_c, rfl⟩ := h_c.form
 have hp := h_p.len47
 have hc := h_c.len47
 have hv1 := hv.1
 have hv2 := hv.2
 refine Fc.go [.tmp 10, .tmp 11] Tryz.func176 Tryz.ntmps176 rfl (fun w0 => (g9 10 ?_))
 refine W.qcall (Za3 h_p _ (by first | assumption | exact ⟨om9, om9⟩)) rfl (W.alloc ZU (fun b30 => (g9 9 ?_)))
 refine W.sd 18 (fun h17 p17 => ?_) (fun h17 p17 => ?_)
 ·exfalso; omega
 refine g9 10 ?_
 refine W.sd 24 (fun h22 p22 => ?_) (fun h22 p22 => ?_)
 ·refine g9 23 ?_
  refine ⟨rfl, _, (ZdI (.inl om9)).symm, _, _, rfl, ?_, ?_⟩
  · exact SlR.nil
  exact SlR.nil
 refine g9 5 ?_
 refine W.qcall (Zej _ _ _ _) rfl (g9 4 ?_)
 refine W.sp 30 rfl (fun h28 => ?_) (fun h28 => ?_)
 ·refine g9 17 ?_
  refine ⟨rfl, _, (ZdI (.inr (.inl (by simpa using h28)))).symm, _, _, rfl, ?_, ?_⟩
  · exact SlR.nil
  exact SlR.nil
 refine g9 11 ?_
 refine WC.cd (fun h34 p34 => ?_) (fun h34 p34 => ?_)
 ·refine g9 9 ?_
  refine ⟨rfl, _, (ZdI (.inr (.inr (Str.ext' p34)))).symm, _, _, rfl, ?_, ?_⟩
  · exact SlR.nil
  exact SlR.nil
 have hin := Zfw (p := p) (i := i) (k := k) (by simpa using h28)
 have hb := ZdJ (p := p) (c := c) (i := i) (k := k) (v := nv) om9 (by simpa using h28) (fun e => p34 (congrArg Str.b e))
 refine g9 5 ?_
 refine W.call (Mp := []) (Zuy h_p) rfl pr9 ?_
 rintro v32 G31 Ms33 hG31 ho34
 refine W.perm (pmC pr9).symm (g9 2 ?_)
 refine W.litO (e := Yh) (l := [_]) (css := [[sV _]]) Yb ty9 zr9 rfl rfl rfl rfl rfl rfl ⟨rfl, trivial⟩ (fun v35 Ms36 ho37 => (W.perm (pmC pr9).symm (W.call (Mp := Ms33 ++ Ms36) (Zuw ho34 _ ho37 (by first | assumption | omega) (by first | assumption | omega | simp) (by first | assumption | omega | (simp; omega))) rfl ((List.Perm.of_eq (List.append_assoc _ _ _)).trans ((List.Perm.append_left _ (pmC pr9)).trans (pmC (pmA pr9)))) ?_)))
 rintro v39 G38 Ms40 hG38 ho41
 refine W.perm (pmC pr9).symm (W.mv (W.call (Mp := []) (Zuz (h_c.mono lec)) rfl pr9 ?_))
 rintro v43 G42 Ms44 hG42 ho45
 refine W.perm (pmC pr9).symm (W.mv (W.ok (Ok.int (n := ((i + 1 : Nat) : Int)) (YY rfl rfl om9) om9) (W.mv (W.litO (e := ZA) (l := [_]) (css := [[iV _]]) Z8 ty3 zr3 rfl rfl rfl rfl rfl rfl ⟨⟨rfl, om9, om9⟩, trivial⟩ (fun v46 Ms47 ho48 => (W.perm (pmC pr9).symm (W.call (Mp := Ms44 ++ Ms47) (Zux ho45 _ ho48 (by first | assumption | omega) (by first | assumption | omega | simp) (by first | assumption | omega | (simp; omega))) rfl ((List.Perm.of_eq (List.append_assoc _ _ _)).trans ((List.Perm.append_left _ (pmC pr9)).trans (pmC (pmA pr9)))) ?_)))))))
 rintro v50 G49 Ms51 hG49 ho52
 refine W.perm (pmC pr9).symm (g9 4 ?_)
 refine WC.giveO (ho41.mono lec) (pmC (pmA pr9)) (fun G53 hG53 hv53 => (WC.giveO (ho52.mono hG53) (pmC pr9) (fun G54 hG54 hv54 => (g9 2 ?_))))
 refine ⟨rfl, _, hb.symm, _, _, rfl, ?_, ?_⟩
 · exact (hv53.mono hG54)
 exact hv54

theorem Zc0 {G : GH} {v_a : Value} {a : List Str} (h_a : SlR Yh G v_a a) :
    Fc Tryz.prog 158 [v_a] G [] (fun v G' M' => M' = [] ∧ ∃ u0, v = u0 ∧ SlR Yh G' u0 (a)) := by
 obtain ⟨sa_a, sc_a, rfl⟩ := h_a.form
 have ha := h_a.bytes
 refine Fc.go [.tmp 2] Tryz.func158 Tryz.ntmps158 rfl (fun w0 => (g9 9 ?_))
 refine W.ok (Za4 Yb rfl rfl) (g9 2 ?_)
 refine WC.cond rfl (fun h4 => ?_) (fun h4 => ?_)
 ·have hn := SlR.isNone h_a h4
  subst hn
  refine g9 8 ?_
  refine ⟨rfl, _, rfl, ?_⟩
  · exact SlR.nil
 refine g9 4 ?_
 refine W.lit0 (e := Yh) Yb ty9 zr9 rfl (fun v1 Ms2 ho3 => (W.mv (W.app (e := Yh) Yb ty9 zr9 rfl by9 rfl rfl (ho3) (h_a) pr9 (by simpa using ha) (fun v4 Ms5 ho6 => (g9 3 ?_)))))
 refine WC.giveO ho6 pr9 (fun G7 hG7 hv7 => (g9 2 ?_))
 refine ⟨rfl, _, rfl, ?_⟩
 · exact hv7

theorem Zc1 {G : GH} {v_a : Value} {a : List Int} (h_a : SlR ZA G v_a a) :
    Fc Tryz.prog 159 [v_a] G [] (fun v G' M' => M' = [] ∧ ∃ u0, v = u0 ∧ SlR ZA G' u0 (a)) := by
 obtain ⟨sa_a, sc_a, rfl⟩ := h_a.form
 have ha := h_a.bytes
 refine Fc.go [.tmp 2] Tryz.func159 Tryz.ntmps159 rfl (fun w0 => (g9 9 ?_))
 refine W.ok (Za4 Z8 rfl rfl) (g9 2 ?_)
 refine WC.cond rfl (fun h4 => ?_) (fun h4 => ?_)
 ·have hn := SlR.isNone h_a h4
  subst hn
  refine g9 8 ?_
  refine ⟨rfl, _, rfl, ?_⟩
  · exact SlR.nil
 refine g9 4 ?_
 refine W.lit0 (e := ZA) Z8 ty3 zr3 rfl (fun v8 Ms9 ho10 => (W.mv (W.app (e := ZA) Z8 ty3 zr3 rfl by3 rfl rfl (ho10) (h_a) pr9 (by simpa using ha) (fun v11 Ms12 ho13 => (g9 3 ?_)))))
 refine WC.giveO ho13 pr9 (fun G14 hG14 hv14 => (g9 2 ?_))
 refine ⟨rfl, _, rfl, ?_⟩
 · exact hv14

theorem X1 {G : GH} {cs_a : List Value} {a : Nd} (h_a : NodeC G cs_a a) :
    Fc Tryz.prog 118 [.agg (List.toArray cs_a)] G [] (fun v G' M' => M' = [] ∧ ∃ u0, v = .agg (List.toArray u0) ∧ NodeC G' u0 (a)) := by
 obtain ⟨_, _, _, _, _, _, _, _, rfl, hp_a, hk_a, hm_a, hr_a, hok_a⟩ := h_a
 refine Fc.go [.cell 2 60] Tryz.func118 Tryz.ntmps118 rfl (fun w0 => (g9 2 ?_))
 refine W.box (L := [iV _, iV _, lV _ _ _, lV _ _ _, sV _, .bool _, iV _, iV _, lV _ _ _, lV _ _ _]) rfl rfl (fun b15 => (W.alloc Zm (fun b16 => (g9 3 ?_))))
 refine WC.dw ((sr9.cons _).k9) (d9 [0, 3] ?_)
 refine WD.any [1, 4] (by kernel_rfl) rfl ⟨WD.ap ?_, WD.ap ?_, trivial⟩
 ·refine g9 1 ?_
  refine W.nn ?_
  refine WD.any [2, 4] (by kernel_rfl) rfl ⟨WD.ap ?_, WD.ap ?_, trivial⟩
  ·refine W.cS (Zc0 hp_a) rfl (fun sa_hv18 sc_hv18 G17 hG17 hv18 => (W.nn (WD.a1 4 rfl (g9 1 ?_))))
   refine W.nn (d9 [6] ?_)
   refine WD.a1 5 rfl (W.cS (Zc1 (hk_a.mono hG17)) rfl (fun sa_hv25 sc_hv25 G24 hG24 hv25 => (W.nn (d9 [7, 8, 9] ?_))))
   refine g9 3 ?_
   refine WC.dw ((sr9.cons _).k9) (d9 [0, 3] ?_)
   refine WD.any [1, 4] (by kernel_rfl) rfl ⟨WD.ap ?_, WD.ap ?_, trivial⟩
   ·refine g9 1 ?_
    refine W.nn ?_
    refine WD.any [2, 4] (by kernel_rfl) rfl ⟨WD.ap ?_, WD.ap ?_, trivial⟩
    ·refine W.cS (JS (hm_a.mono lec)) rfl (fun sa_hv32 sc_hv32 G31 hG31 hv32 => (W.nn (WD.a1 4 rfl (g9 1 ?_))))
     refine W.nn (d9 [6] ?_)
     refine WD.a1 5 rfl (W.cS (Jf (hr_a.mono lec)) rfl (fun sa_hv39 sc_hv39 G38 hG38 hv39 => (W.nn (d9 [7, 8, 9] ?_))))
     refine g9 10 ?_
     refine ⟨rfl, _, rfl, ?_⟩
     · exact ⟨_, _, _, _, _, _, _, _, rfl, (hv18.mono lec), (hv25.mono lec), (hv32.mono hG38), hv39, (by assumption)⟩
    refine g9 1 ?_
    refine W.nn (WD.a1 2 rfl (W.cS (JS (hm_a.mono lec)) rfl (fun sa_hv46 sc_hv46 G45 hG45 hv46 => (W.nn (d9 [6] ?_)))))
    refine WD.a1 5 rfl (W.cS (Jf (hr_a.mono lec)) rfl (fun sa_hv53 sc_hv53 G52 hG52 hv53 => (W.nn (d9 [7, 8, 9] ?_))))
    refine g9 10 ?_
    refine ⟨rfl, _, rfl, ?_⟩
    · exact ⟨_, _, _, _, _, _, _, _, rfl, (hv18.mono lec), (hv25.mono lec), (hv46.mono hG52), hv53, (by assumption)⟩
   refine g9 1 ?_
   refine W.nn (WD.a1 1 rfl (g9 1 ?_))
   refine W.nn (WD.a1 2 rfl (W.cS (JS (hm_a.mono lec)) rfl (fun sa_hv60 sc_hv60 G59 hG59 hv60 => (W.nn (d9 [6] ?_)))))
   refine WD.a1 5 rfl (W.cS (Jf (hr_a.mono lec)) rfl (fun sa_hv67 sc_hv67 G66 hG66 hv67 => (W.nn (d9 [7, 8, 9] ?_))))
   refine g9 10 ?_
   refine ⟨rfl, _, rfl, ?_⟩
   · exact ⟨_, _, _, _, _, _, _, _, rfl, (hv18.mono lec), (hv25.mono lec), (hv60.mono hG66), hv67, (by assumption)⟩
  refine g9 1 ?_
  refine W.nn (WD.a1 2 rfl (W.cS (Zc0 hp_a) rfl (fun sa_hv74 sc_hv74 G73 hG73 hv74 => (W.nn (d9 [6] ?_)))))
  refine WD.a1 5 rfl (W.cS (Zc1 (hk_a.mono hG73)) rfl (fun sa_hv81 sc_hv81 G80 hG80 hv81 => (W.nn (d9 [7, 8, 9] ?_))))
  refine g9 3 ?_
  refine WC.dw ((sr9.cons _).k9) (d9 [0, 3] ?_)
  refine WD.any [1, 4] (by kernel_rfl) rfl ⟨WD.ap ?_, WD.ap ?_, trivial⟩
  ·refine g9 1 ?_
   refine W.nn ?_
   refine WD.any [2, 4] (by kernel_rfl) rfl ⟨WD.ap ?_, WD.ap ?_, trivial⟩
   ·refine W.cS (JS (hm_a.mono lec)) rfl (fun sa_hv88 sc_hv88 G87 hG87 hv88 => (W.nn (WD.a1 4 rfl (g9 1 ?_))))
    refine W.nn (d9 [6] ?_)
    refine WD.a1 5 rfl (W.cS (Jf (hr_a.mono lec)) rfl (fun sa_hv95 sc_hv95 G94 hG94 hv95 => (W.nn (d9 [7, 8, 9] ?_))))
    refine g9 10 ?_
    refine ⟨rfl, _, rfl, ?_⟩
    · exact ⟨_, _, _, _, _, _, _, _, rfl, (hv74.mono lec), (hv81.mono lec), (hv88.mono hG94), hv95, (by assumption)⟩
   refine g9 1 ?_
   refine W.nn (WD.a1 2 rfl (W.cS (JS (hm_a.mono lec)) rfl (fun sa_hv102 sc_hv102 G101 hG101 hv102 => (W.nn (d9 [6] ?_)))))
   refine WD.a1 5 rfl (W.cS (Jf (hr_a.mono lec)) rfl (fun sa_hv109 sc_hv109 G108 hG108 hv109 => (W.nn (d9 [7, 8, 9] ?_))))
   refine g9 10 ?_
   refine ⟨rfl, _, rfl, ?_⟩
   · exact ⟨_, _, _, _, _, _, _, _, rfl, (hv74.mono lec), (hv81.mono lec), (hv102.mono hG108), hv109, (by assumption)⟩
  refine g9 1 ?_
  refine W.nn (WD.a1 1 rfl (g9 1 ?_))
  refine W.nn (WD.a1 2 rfl (W.cS (JS (hm_a.mono lec)) rfl (fun sa_hv116 sc_hv116 G115 hG115 hv116 => (W.nn (d9 [6] ?_)))))
  refine WD.a1 5 rfl (W.cS (Jf (hr_a.mono lec)) rfl (fun sa_hv123 sc_hv123 G122 hG122 hv123 => (W.nn (d9 [7, 8, 9] ?_))))
  refine g9 10 ?_
  refine ⟨rfl, _, rfl, ?_⟩
  · exact ⟨_, _, _, _, _, _, _, _, rfl, (hv74.mono lec), (hv81.mono lec), (hv116.mono hG122), hv123, (by assumption)⟩
 refine g9 1 ?_
 refine W.nn (WD.a1 1 rfl (g9 1 ?_))
 refine W.nn (WD.a1 2 rfl (W.cS (Zc0 hp_a) rfl (fun sa_hv130 sc_hv130 G129 hG129 hv130 => (W.nn (d9 [6] ?_)))))
 refine WD.a1 5 rfl (W.cS (Zc1 (hk_a.mono hG129)) rfl (fun sa_hv137 sc_hv137 G136 hG136 hv137 => (W.nn (d9 [7, 8, 9] ?_))))
 refine g9 3 ?_
 refine WC.dw ((sr9.cons _).k9) (d9 [0, 3] ?_)
 refine WD.any [1, 4] (by kernel_rfl) rfl ⟨WD.ap ?_, WD.ap ?_, trivial⟩
 ·refine g9 1 ?_
  refine W.nn ?_
  refine WD.any [2, 4] (by kernel_rfl) rfl ⟨WD.ap ?_, WD.ap ?_, trivial⟩
  ·refine W.cS (JS (hm_a.mono lec)) rfl (fun sa_hv144 sc_hv144 G143 hG143 hv144 => (W.nn (WD.a1 4 rfl (g9 1 ?_))))
   refine W.nn (d9 [6] ?_)
   refine WD.a1 5 rfl (W.cS (Jf (hr_a.mono lec)) rfl (fun sa_hv151 sc_hv151 G150 hG150 hv151 => (W.nn (d9 [7, 8, 9] ?_))))
   refine g9 10 ?_
   refine ⟨rfl, _, rfl, ?_⟩
   · exact ⟨_, _, _, _, _, _, _, _, rfl, (hv130.mono lec), (hv137.mono lec), (hv144.mono hG150), hv151, (by assumption)⟩
  refine g9 1 ?_
  refine W.nn (WD.a1 2 rfl (W.cS (JS (hm_a.mono lec)) rfl (fun sa_hv158 sc_hv158 G157 hG157 hv158 => (W.nn (d9 [6] ?_)))))
  refine WD.a1 5 rfl (W.cS (Jf (hr_a.mono lec)) rfl (fun sa_hv165 sc_hv165 G164 hG164 hv165 => (W.nn (d9 [7, 8, 9] ?_))))
  refine g9 10 ?_
  refine ⟨rfl, _, rfl, ?_⟩
  · exact ⟨_, _, _, _, _, _, _, _, rfl, (hv130.mono lec), (hv137.mono lec), (hv158.mono hG164), hv165, (by assumption)⟩
 refine g9 1 ?_
 refine W.nn (WD.a1 1 rfl (g9 1 ?_))
 refine W.nn (WD.a1 2 rfl (W.cS (JS (hm_a.mono lec)) rfl (fun sa_hv172 sc_hv172 G171 hG171 hv172 => (W.nn (d9 [6] ?_)))))
 refine WD.a1 5 rfl (W.cS (Jf (hr_a.mono lec)) rfl (fun sa_hv179 sc_hv179 G178 hG178 hv179 => (W.nn (d9 [7, 8, 9] ?_))))
 refine g9 10 ?_
 refine ⟨rfl, _, rfl, ?_⟩
 · exact ⟨_, _, _, _, _, _, _, _, rfl, (hv130.mono lec), (hv137.mono lec), (hv172.mono hG178), hv179, (by assumption)⟩

theorem ZlN {G : GH} {cs_n : List Value} {n : Nd} (h_n : NodeC G cs_n n) (i : Nat) (k : Str) (nv : Int) (hz : n.pivots.length ≤ 1000000 ∧ n.kids.length ≤ 1000000) (hi : i64 ((i : Nat) : Int)) (hv : i64 nv) :
    Fc Tryz.prog 223 [.agg (List.toArray cs_n), nt9 i, sV k.b, iV nv] G [] (fun v G' M' => M' = [] ∧ ∃ r : Nd × Bool, r = Y9 n i k nv ∧ ∃ u0, v = .tuple #[.agg (List.toArray u0), .bool (r.2)] ∧ NodeC G' u0 (r.1)) := by
 obtain ⟨_, _, _, _, _, _, _, _, rfl, hp_n, hk_n, hm_n, hr_n, hok_n⟩ := h_n
 have h1 := hp_n.len47
 have h2 := hk_n.len47
 have h3 := hm_n.len47
 have h4 := hr_n.len47
 obtain ⟨hz1, hz2⟩ := hz
 have hv1 := hv.1
 have hv2 := hv.2
 have hi1 := hi.1
 have hi2 := hi.2
 have b1 : n.pivots.length * 16 ≤ 140737488355328 := hp_n.bytes
 have b2 : n.kids.length * 8 ≤ 140737488355328 := hk_n.bytes
 refine Fc.go [.cell 8 60, .tmp 9] Tryz.func223 Tryz.ntmps223 rfl (fun w0 => (g9 2 ?_))
 refine W.box (L := [iV _, iV _, lV _ _ _, lV _ _ _, sV _, .bool _, iV _, iV _, lV _ _ _, lV _ _ _]) rfl rfl (fun b197 => (W.alloc Zm (fun b198 => (g9 11 ?_))))
 refine WC.cd (fun h15 p15 => ?_) (fun h15 p15 => ?_)
 ·refine g9 2 ?_
  refine W.ok (Ya (L := [iV _, iV _, lV _ _ _, lV _ _ _, sV _, .bool _, iV _, iV _, lV _ _ _, lV _ _ _]) ZaO Zm rfl rfl rfl) (g9 7 ?_)
  refine ⟨rfl, _, (Zfx (.inl p15)).symm, _, rfl, ?_⟩
  · exact ⟨_, _, _, _, _, _, _, _, rfl, SlR.nil, SlR.nil, SlR.nil, SlR.nil, Nd.zero_ok⟩
 refine g9 11 ?_
 refine W.call (Mp := []) (ZuA hp_n hk_n _ _ _ (by first | assumption | omega | (simp; omega)) (by first | assumption | omega | (simp; omega)) (by first | assumption | exact ⟨om9, om9⟩) (by assumption)) rfl pr9 ?_
 intro _ G199 _ hG199 q202
 refine match q202 with | ⟨e_203, _, e_204, _, _, e_205, hv200, hv201⟩ => ?_
 subst e_203
 subst e_204
 subst e_205
 have q207 := hv200.form
 refine match q207 with | ⟨sa_hv200, sc_hv200, e_206⟩ => ?_
 subst e_206
 have q209 := hv201.form
 refine match q209 with | ⟨sa_hv201, sc_hv201, e_208⟩ => ?_
 subst e_208
 refine g9 15 ?_
 refine WC.cd (fun h30 p30 => ?_) (fun h30 p30 => ?_)
 ·refine g9 2 ?_
  refine W.ok (Ya (L := [iV _, iV _, lV _ _ _, lV _ _ _, sV _, .bool _, iV _, iV _, lV _ _ _, lV _ _ _]) ZaO Zm rfl rfl rfl) (g9 7 ?_)
  refine ⟨rfl, _, (Zfx (.inr om9)).symm, _, rfl, ?_⟩
  · exact ⟨_, _, _, _, _, _, _, _, rfl, SlR.nil, SlR.nil, SlR.nil, SlR.nil, Nd.zero_ok⟩
 refine g9 5 ?_
 refine W.cN (X1 (nm9 hG199 hp_n hk_n hm_n hr_n hok_n)) rfl (fun _ _ _ _ _ _ _ _ G210 hG210 hp_hv211 hk_hv211 hm_hv211 hr_hv211 hok_hv211 => (W.alloc Zm (fun b216 => (g9 22 ?_))))
 refine ⟨rfl, _, (Zfy p15 om9).symm, _, rfl, ?_⟩
 · exact ⟨_, _, _, _, _, _, _, _, rfl, (hv200.mono hG210), (hv201.mono hG210), hm_hv211, hr_hv211, hok_n⟩

theorem ZlO {G : GH} {b_s : Nat} {c : Cfg} {b_a : Nat} {a : List Nd × List Bool} {Ms_a : MH} (h_a : ArR Zv 60 4 3 189 b_a G a Ms_a) {cs_x : List Value} {x : Nd} (h_x : NodeC G cs_x x) :
    Fc Tryz.prog 140 [pt9 b_s, .agg (List.toArray cs_x)] G ((b_s, ce9 139 [iV c.fan, iV c.leaf, iV c.bud, iV c.slots, iV c.rest, pt9 b_a]) :: (Ms_a)) (fun v G' M' => v = iV (X3 a x.slot x).1 ∧ StA 60 4 3 189 139 b_s G' c (X3 a x.slot x).2 M') := by
 obtain ⟨_, _, _, _, _, _, _, _, rfl, hp_x, hk_x, hm_x, hr_x, hok_x⟩ := h_x
 refine Fc.go [.tmp 4] Tryz.func140 Tryz.ntmps140 rfl (fun w0 => (WC.perm (M' := ((b_s, ce9 139 [iV c.fan, iV c.leaf, iV c.bud, iV c.slots, iV c.rest, pt9 b_a]) :: (Ms_a ++ []))) (by simp) (g9 2 ?_)))
 refine W.box (L := [iV _, iV _, lV _ _ _, lV _ _ _, sV _, .bool _, iV _, iV _, lV _ _ _, lV _ _ _]) rfl rfl (fun b1 => (g9 7 ?_))
 refine W.ok (Xi Zan rfl rfl) (g9 6 ?_)
 refine WC.dw (sn9.k9.k9) (d9 [0, 1, 2, 3, 4, 5, 6] ?_)
 refine WD.a1 7 rfl (W.cN (X1 (nk9 hp_x hk_x hm_x hr_x hok_x)) rfl (fun _ _ _ _ _ _ _ _ G2 hG2 hp_hv3 hk_hv3 hm_hv3 hr_hv3 hok_hv3 => (W.nn (WD.a1 8 rfl (W.call (Mp := Ms_a) (Zuk (ArR.mono hG2 h_a) _ (nk9 hp_hv3 hk_hv3 hm_hv3 hr_hv3 hok_hv3)) rfl (pmC (pmC pr9)) ?_)))))
 intro v11 G8 Ms10 hG8 q9
 refine match q9 with | ⟨e_13, hR12⟩ => ?_
 subst e_13
 refine W.perm (pmC (pmC pr9)).symm (W.nn (d9 [9] ?_))
 refine g9 3 ?_
 refine ⟨.inr rfl, [_], ⟨rfl, trivial⟩, ((b_s, ce9 139 [iV c.fan, iV c.leaf, iV c.bud, iV c.slots, iV c.rest, pt9 b_a]) :: (Ms10 ++ [])), sr9.k9.cons _, ?_⟩
 exact ⟨rfl, _, _, congrArg _ (List.append_nil _), hR12⟩

theorem ZlP {G : GH} {b_s : Nat} {c : Cfg} {b_a : Nat} {a : List Nd × List Bool} {Ms_a : MH} (h_a : ArR Zv 60 4 3 189 b_a G a Ms_a) (i : Int) :
    Fc Tryz.prog 67 [pt9 b_s, iV i] G ((b_s, ce9 139 [iV c.fan, iV c.leaf, iV c.bud, iV c.slots, iV c.rest, pt9 b_a]) :: (Ms_a)) (fun v G' M' => (∃ cs, v = .tuple #[.agg (List.toArray cs), .bool (Y0 a.2 i)] ∧ NodeC G' cs (JH a i Nd.zero)) ∧ M' = (b_s, ce9 139 [iV c.fan, iV c.leaf, iV c.bud, iV c.slots, iV c.rest, pt9 b_a]) :: Ms_a) := by
 refine Fc.go [.cell 4 60, .tmp 5] Tryz.func67 Tryz.ntmps67 rfl (fun w0 => (WC.perm (M' := ((b_s, ce9 139 [iV c.fan, iV c.leaf, iV c.bud, iV c.slots, iV c.rest, pt9 b_a]) :: (Ms_a ++ []))) (by simp) (g9 2 ?_)))
 refine W.alloc Zm (fun b14 => (g9 7 ?_))
 refine W.ok (Xi Zan rfl rfl) (g9 12 ?_)
 refine W.call (Mp := Ms_a) (Zum h_a _) rfl (pmC (pmC pr9)) ?_
 intro v18 G15 Ms17 hG15 q16
 refine match q16 with | ⟨⟨_, e_20, ⟨_, _, _, _, _, _, _, _, e_21, hp_hR19, hk_hR19, hm_hR19, hr_hR19, hok_hR19⟩⟩, eeq16⟩ => ?_
 subst e_20
 subst e_21
 have eeq16 := eeq16.symm
 subst eeq16
 refine W.perm (pmC (pmC pr9)).symm (g9 3 ?_)
 refine W.alloc Zm (fun b22 => (g9 7 ?_))
 refine W.cN (X1 (nk9 hp_hR19 hk_hR19 hm_hR19 hr_hR19 hok_hR19)) rfl (fun _ _ _ _ _ _ _ _ G23 hG23 hp_hv24 hk_hv24 hm_hv24 hr_hv24 hok_hv24 => (g9 6 ?_))
 refine ⟨.inr rfl, [_, _], ⟨⟨_, _, _, _, _, rfl, YI (i := 1) rfl, Yd, (by simp), rfl, rfl⟩, rfl, trivial⟩, ((b_s, ce9 139 [iV c.fan, iV c.leaf, iV c.bud, iV c.slots, iV c.rest, pt9 b_a]) :: (Ms_a ++ [])), (sr9.k9.cons _).cons _, ?_⟩
 exact ⟨⟨_, rfl, (nk9 hp_hv24 hk_hv24 hm_hv24 hr_hv24 hok_hv24)⟩, congrArg _ (List.append_nil _)⟩

theorem ZuB {G : GH} {b_s : Nat} {c : Cfg} {b_a : Nat} {a : List Nd × List Bool} {Ms_a : MH} (h_a : ArR Zv 60 4 3 189 b_a G a Ms_a) :
    Fc Tryz.prog 59 [pt9 b_s] G ((b_s, ce9 139 [iV c.fan, iV c.leaf, iV c.bud, iV c.slots, iV c.rest, pt9 b_a]) :: (Ms_a)) (fun v G' M' => v = iV ((Xj a.2).length : Int) ∧ M' = (b_s, ce9 139 [iV c.fan, iV c.leaf, iV c.bud, iV c.slots, iV c.rest, pt9 b_a]) :: Ms_a) := by
 refine Fc.go [.tmp 2] Tryz.func59 Tryz.ntmps59 rfl (fun w0 => (WC.perm (M' := ((b_s, ce9 139 [iV c.fan, iV c.leaf, iV c.bud, iV c.slots, iV c.rest, pt9 b_a]) :: (Ms_a ++ []))) (by simp) (g9 9 ?_)))
 refine W.ok (Xi Zan rfl rfl) (g9 11 ?_)
 refine W.call (Mp := Ms_a) (Zun h_a) rfl (pmC pr9) ?_
 intro v32 G29 Ms31 hG29 q30
 refine match q30 with | ⟨e_34, eeq30⟩ => ?_
 subst e_34
 have eeq30 := eeq30.symm
 subst eeq30
 refine W.perm (pmC pr9).symm (g9 4 ?_)
 refine ⟨.inr rfl, [_], ⟨rfl, trivial⟩, ((b_s, ce9 139 [iV c.fan, iV c.leaf, iV c.bud, iV c.slots, iV c.rest, pt9 b_a]) :: (Ms_a ++ [])), sr9.k9, ?_⟩
 exact ⟨rfl, congrArg _ (List.append_nil _)⟩

theorem ZuC {G : GH} {b_s : Nat} {c : Cfg} {b_a : Nat} {a : List Nd × List Bool} {Ms_a : MH} (h_a : ArR Zv 60 4 3 189 b_a G a Ms_a) :
    Fc Tryz.prog 189 [pt9 b_s] G ((b_s, ce9 139 [iV c.fan, iV c.leaf, iV c.bud, iV c.slots, iV c.rest, pt9 b_a]) :: (Ms_a)) (fun v G' M' => v = iV ((Y7 a.2).length : Int) ∧ M' = (b_s, ce9 139 [iV c.fan, iV c.leaf, iV c.bud, iV c.slots, iV c.rest, pt9 b_a]) :: Ms_a) := by
 refine Fc.go [.tmp 2] Tryz.func189 Tryz.ntmps189 rfl (fun w0 => (WC.perm (M' := ((b_s, ce9 139 [iV c.fan, iV c.leaf, iV c.bud, iV c.slots, iV c.rest, pt9 b_a]) :: (Ms_a ++ []))) (by simp) (g9 9 ?_)))
 refine W.ok (Xi Zan rfl rfl) (g9 11 ?_)
 refine W.call (Mp := Ms_a) (Zuo h_a) rfl (pmC pr9) ?_
 intro v38 G35 Ms37 hG35 q36
 refine match q36 with | ⟨e_40, eeq36⟩ => ?_
 subst e_40
 have eeq36 := eeq36.symm
 subst eeq36
 refine W.perm (pmC pr9).symm (g9 4 ?_)
 refine ⟨.inr rfl, [_], ⟨rfl, trivial⟩, ((b_s, ce9 139 [iV c.fan, iV c.leaf, iV c.bud, iV c.slots, iV c.rest, pt9 b_a]) :: (Ms_a ++ [])), sr9.k9, ?_⟩
 exact ⟨rfl, congrArg _ (List.append_nil _)⟩

theorem ZlQ {G : GH} {b_s : Nat} {c : Cfg} {b_a : Nat} {a : List Nd × List Bool} {Ms_a : MH} (h_a : ArR Zv 60 4 3 189 b_a G a Ms_a) {cs_x : List Value} {x : Nd} (h_x : NodeC G cs_x x) :
    Fc Tryz.prog 84 [pt9 b_s, .agg (List.toArray cs_x)] G ((b_s, ce9 139 [iV c.fan, iV c.leaf, iV c.bud, iV c.slots, iV c.rest, pt9 b_a]) :: (Ms_a)) (fun v G' M' => v = .tuple #[iV (ZbJ a x).1.1, iV (ZbJ a x).1.2] ∧ StA 60 4 3 189 139 b_s G' c (ZbJ a x).2 M') := by
 obtain ⟨pa_x, pc_x, ka_x, kc_x, ma_x, mc_x, ra_x, rc_x, rfl, hp_x, hk_x, hm_x, hr_x, hok_x⟩ := h_x
 have hal : a.2.length ≤ 4096 := by obtain ⟨f, _, _, h, _⟩ := h_a; exact h
 have hai := ZnS (x := Nd.zero) hal
 refine Fc.go [.tmp 4, .tmp 5] Tryz.func84 Tryz.ntmps84 rfl (fun w0 => (WC.perm (M' := ((b_s, ce9 139 [iV c.fan, iV c.leaf, iV c.bud, iV c.slots, iV c.rest, pt9 b_a]) :: (Ms_a ++ []))) (by simp) (g9 2 ?_)))
 refine W.box (L := [iV _, iV _, lV _ _ _, lV _ _ _, sV _, .bool _, iV _, iV _, lV _ _ _, lV _ _ _]) rfl rfl (fun b41 => (g9 8 ?_))
 refine W.ok (Xi Zan rfl rfl) (g9 11 ?_)
 refine W.ok (Ya (L := [iV _, iV _, lV _ _ _, lV _ _ _, sV _, .bool _, iV _, iV _, lV _ _ _, lV _ _ _]) ZaO Zm rfl rfl rfl) (W.call (Mp := Ms_a) (Zul h_a (x := Nd.zero) ⟨_, _, _, _, _, _, _, _, rfl, SlR.nil, SlR.nil, SlR.nil, SlR.nil, Nd.zero_ok⟩) rfl (pmC (pmC pr9)) ?_)
 intro v45 G42 Ms44 hG42 q43
 refine match q43 with | ⟨e_47, hR46⟩ => ?_
 subst e_47
 refine W.perm (pmC (pmC pr9)).symm (g9 14 ?_)
 refine WC.cn (fun h20 p20 => ?_) (fun h20 p20 => ?_)
 ·refine g9 9 ?_
  refine ⟨.inr rfl, [_, _], ⟨rfl, rfl, trivial⟩, ((b_s, ce9 139 [iV c.fan, iV c.leaf, iV c.bud, iV c.slots, iV c.rest, pt9 b_a]) :: (Ms44 ++ [])), sr9.k9.cons _, ?_⟩
  have hE := Zh5 (a := a) (x := x) p20
  exact ⟨congrArg (fun r : Int × Int => Value.tuple #[iV r.1, iV r.2]) (congrArg Prod.fst hE).symm, StA.cast ⟨_, _, congrArg _ (List.append_nil _), hR46⟩ (congrArg Prod.snd hE).symm⟩
 refine g9 14 ?_
 refine W.call (Mp := ((b_s, ce9 139 [iV c.fan, iV c.leaf, iV c.bud, iV c.slots, iV c.rest, pt9 b_a]) :: Ms44)) (Mr := ((b41, ce9 60 [iV (Yq (a) Nd.zero).1.1, iV x.level, lV pa_x x.pivots.length pc_x, lV ka_x x.kids.length kc_x, sV x.high.b, .bool x.top, iV x.right, iV x.seen, lV ma_x x.msgs.length mc_x, lV ra_x x.rows.length rc_x]) :: [])) (ZlO (c := c) hR46 (show NodeC _ _ { x with slot := (Yq a Nd.zero).1.1 } from ⟨_, _, _, _, _, _, _, _, rfl, (hp_x.mono hG42), (hk_x.mono hG42), (hm_x.mono hG42), (hr_x.mono hG42), ⟨hai, hok_x.2⟩⟩)) rfl (((pmC pr9).cons _).trans ((List.Perm.swap _ _ _).trans (pr9.cons _))) ?_
 intro v51 G48 Ms50 hG48 q49
 refine match q49 with | ⟨e_53, hS52⟩ => ?_
 subst e_53
 refine W.perm (pmC pr9).symm (g9 5 ?_)
 refine ⟨.inr rfl, [_, _], ⟨rfl, rfl, trivial⟩, (Ms50 ++ []), sr9.cons _, ?_⟩
 have hE := Zh4 (a := a) (x := x) p20
 exact ⟨congrArg (fun r : Int × Int => Value.tuple #[iV r.1, iV r.2]) (congrArg Prod.fst hE).symm, StA.cast (by have h := hS52; rw [List.append_nil]; exact h) (congrArg Prod.snd hE).symm⟩

theorem ZuD {G : GH} {b_s : Nat} {c : Cfg} {b_a : Nat} {a : List Nd × List Bool} {Ms_a : MH} (h_a : ArR Zv 60 4 3 189 b_a G a Ms_a) :
    Fc Tryz.prog 52 [pt9 b_s] G ((b_s, ce9 139 [iV c.fan, iV c.leaf, iV c.bud, iV c.slots, iV c.rest, pt9 b_a]) :: (Ms_a)) (fun v G' M' => SlR Zv G' v ((Xj a.2).map (fun i => JH a i Nd.zero)) ∧ M' = (b_s, ce9 139 [iV c.fan, iV c.leaf, iV c.bud, iV c.slots, iV c.rest, pt9 b_a]) :: Ms_a) := by
 have hal : a.2.length ≤ 4096 := by obtain ⟨f, _, _, h, _⟩ := h_a; exact h
 have hul := ZhZ a.2 a.2.length
 rw [← Zh0] at hul
 refine Fc.go [.tmp 2] Tryz.func52 Tryz.ntmps52 rfl (fun w0 => (WC.perm (M' := ((b_s, ce9 139 [iV c.fan, iV c.leaf, iV c.bud, iV c.slots, iV c.rest, pt9 b_a]) :: (Ms_a ++ []))) (by simp) (g9 14 ?_)))
 refine W.ok (Xi Zan rfl rfl) (g9 12 ?_)
 refine W.call (Mp := Ms_a) (Zup h_a) rfl (pmC pr9) ?_
 intro v57 G54 Ms56 hG54 q55
 refine match q55 with | ⟨hR58, eeq55⟩ => ?_
 have eeq55 := eeq55.symm
 subst eeq55
 refine W.perm (pmC pr9).symm ?_
 have q60 := hR58.form
 refine match q60 with | ⟨sa_hR58, sc_hR58, e_59⟩ => ?_
 subst e_59
 refine g9 5 ?_
 refine WC.loop (X := (Nat) × Value × MH) (fun k => [(16, nt9 k.1), (0, pt9 b_s), (14, lV sa_hR58 ((Xj (a).2)).length sc_hR58), (15, nt9 (((Xj (a).2)).length)), (3, k.2.1)]) (fun k G Ml => Ml = ((b_s, ce9 139 [iV c.fan, iV c.leaf, iV c.bud, iV c.slots, iV c.rest, pt9 b_a]) :: (k.2.2 ++ (Ms_a ++ []))) ∧ OwnR Zv 60 G k.2.1 (((Xj a.2).take k.1).map (fun i => JH a i Nd.zero)) k.2.2 ∧ k.1 ≤ (Xj a.2).length) (fun k => (Xj a.2).length - k.1) (0, lV none 0 0, ([] : MH)) hs9 ?_ ?_
 ·exact ⟨rfl, (by simpa using OwnR.nil), om9⟩
 rintro ⟨k, v_3, M_3⟩ gG61 G61 _ hG61 ⟨rfl, ho_3, hk⟩
 try dsimp only at ho_3 hk
 refine WC.fr (f := ZX gG61 [(16, nt9 k), (0, pt9 b_s), (14, lV sa_hR58 ((Xj (a).2)).length sc_hR58), (15, nt9 (((Xj (a).2)).length)), (3, v_3)]) rfl (g9 6 ?_)
 refine WC.cd (fun h17 p17 => ?_) (fun h17 p17 => ?_)
 ·refine g9 6 ?_
  refine (hR58.mono hG61).a2 (i := k) om9 (fun he62 hi63 => (g9 9 ?_))
  refine W.call (Mp := ((b_s, ce9 139 [iV c.fan, iV c.leaf, iV c.bud, iV c.slots, iV c.rest, pt9 b_a]) :: Ms_a)) (Mr := (M_3 ++ [])) (ZlP (c := c) (ArR.mono lec h_a) _) rfl (((pmA pr9).cons _).trans pr9) ?_
  intro v69 G66 Ms68 hG66 q67
  refine match q67 with | ⟨⟨_, e_71, ⟨_, _, _, _, _, _, _, _, e_72, hp_n70, hk_n70, hm_n70, hr_n70, hok_n70⟩⟩, e_73⟩ => ?_
  subst e_71
  subst e_72
  subst e_73
  refine W.perm (M' := ((b_s, ce9 139 [iV c.fan, iV c.leaf, iV c.bud, iV c.slots, iV c.rest, pt9 b_a]) :: (Ms_a ++ (M_3 ++ [])))) ((pr9.cons _).trans pr9).symm (g9 3 ?_)
  refine W.alloc Zm (fun b74 => (g9 7 ?_))
  refine W.lit (e := Zv) (l := [(JH a ((Xj a.2)[k]'_) Nd.zero)]) (css := [[iV _, iV _, lV _ _ _, lV _ _ _, sV _, .bool _, iV _, iV _, lV _ _ _, lV _ _ _]]) Xm Yd Zm rfl rfl rfl rfl rfl rfl ⟨(nk9 hp_n70 hk_n70 hm_n70 hr_n70 hok_n70), trivial⟩ (fun bl75 G75 hG75 hv75 => (W.app (e := Zv) Xm Yd Zm rfl ZaN rfl rfl ((ho_3.mono lec)) (hv75) (pmC (pmC (pmA pr9))) (by show (List.length _ + 1) * 152 ≤ _; rw [List.length_map, List.length_take]; omega) (fun v76 Ms77 ho78 => (W.perm (pmC (pmC pr9)).symm (g9 7 ?_)))))
  refine W.sub (sr9.cons _) (g9 2 ?_)
  exact ⟨lec, (k + 1, v76, Ms77), hs9, ⟨rfl, (by have h := ho78; rw [List.take_succ_eq_append_getElem om9, List.map_append]; exact h), om9⟩, om9⟩
 refine g9 11 ?_
 refine WC.giveO ho_3 (pmC pr9) (fun G79 hG79 hv79 => (WC.ret ?_))
 refine ⟨.inr rfl, [_], ⟨rfl, trivial⟩, ((b_s, ce9 139 [iV c.fan, iV c.leaf, iV c.bud, iV c.slots, iV c.rest, pt9 b_a]) :: (Ms_a ++ [])), sr9.k9, ?_⟩
 exact ⟨SlR.cast hv79 (by rw [List.take_of_length_le om9]), congrArg _ (List.append_nil _)⟩

theorem ZuE {G : GH} {b : Nat} {c : Cfg} {l : List Nd} {M : MH} (h : StR 60 4 3 189 139 b c G l M) {cs : List Value} {x : Nd} (hx : NodeC G cs x) : Fc Tryz.prog 140 [pt9 b, .agg (List.toArray cs)] G M (fun v G' M' => v = iV (ZaB l x).1 ∧ StR 60 4 3 189 139 b c G' (ZaB l x).2 M') := by
  obtain ⟨hc, hl, b2, Ma, rfl, hA⟩ := h
  exact (ZlO hA hx).mono fun v G' M' hle ⟨e1, e2⟩ => ⟨by rw [e1, Ze5 hl], hc, by rw [ZnQ]; exact hl, e2.cast (congrArg Prod.snd (Ze5 hl x))⟩
theorem ZlR {G : GH} {b : Nat} {c : Cfg} {l : List Nd} {M : MH} (h : StR 60 4 3 189 139 b c G l M) {cs : List Value} {x : Nd} (hx : NodeC G cs x) : Fc Tryz.prog 84 [pt9 b, .agg (List.toArray cs)] G M (fun v G' M' => v = .tuple #[iV (J3 c.slots.toNat l x).1.1, iV (J3 c.slots.toNat l x).1.2] ∧ StR 60 4 3 189 139 b c G' (J3 c.slots.toNat l x).2 M') := by
  obtain ⟨hc, hl, b2, Ma, rfl, hA⟩ := h
  exact (ZlQ hA hx).mono fun v G' M' hle ⟨e1, e2⟩ => ⟨by rw [e1, Ze8 hl], hc, ZnT hl, e2.cast (congrArg Prod.snd (Ze8 hl x))⟩
theorem Zaq {G : GH} {b : Nat} {c : Cfg} {l : List Nd} {M : MH} (h : StR 60 4 3 189 139 b c G l M) (i : Int) : Fc Tryz.prog 67 [pt9 b, iV i] G M (fun v G' M' => (∃ cs, v = .tuple #[.agg (List.toArray cs), .bool (decide (0 ≤ i ∧ i < l.length))] ∧ NodeC G' cs (Za l i)) ∧ M' = M) := by
  obtain ⟨hc, hl, b2, Ma, rfl, hA⟩ := h
  exact (ZlP (c := c) hA i).mono fun v G' M' hle ⟨⟨cs, e1, e2⟩, e3⟩ => ⟨⟨cs, by rw [e1, Zdp hl], e2.of (Zh3 hl i)⟩, e3⟩
theorem ZuF {G : GH} {b : Nat} {c : Cfg} {l : List Nd} {M : MH} (h : StR 60 4 3 189 139 b c G l M) : Fc Tryz.prog 52 [pt9 b] G M (fun v G' M' => SlR Zv G' v l ∧ M' = M) := by
  obtain ⟨hc, hl, b2, Ma, rfl, hA⟩ := h
  exact (ZuD (c := c) hA).mono fun v G' M' hle ⟨e1, e2⟩ => ⟨SlR.cast e1 (ZnU hl), e2⟩
theorem ZuG {G : GH} {b : Nat} {c : Cfg} {l : List Nd} {M : MH} (h : StR 60 4 3 189 139 b c G l M) : Fc Tryz.prog 59 [pt9 b] G M (fun v G' M' => v = iV (l.length : Int) ∧ M' = M) := by
  obtain ⟨hc, hl, b2, Ma, rfl, hA⟩ := h
  exact (ZuB (c := c) hA).mono fun v G' M' hle ⟨e1, e2⟩ => ⟨by rw [e1, Ze7 hl, ZaA], e2⟩
theorem ZuH {G : GH} {b : Nat} {c : Cfg} {l : List Nd} {M : MH} (h : StR 60 4 3 189 139 b c G l M) : Fc Tryz.prog 189 [pt9 b] G M (fun v G' M' => v = nt9 (c.slots.toNat - l.length) ∧ M' = M) := by
  obtain ⟨hc, hl, b2, Ma, rfl, hA⟩ := h
  exact (ZuC (c := c) hA).mono fun v G' M' hle ⟨e1, e2⟩ => ⟨by rw [e1]; have h1 := Zdn (Ys c.slots.toNat l).2; rw [Ze7 hl, ZaA, ZbH hl] at h1; exact congrArg (fun n : Nat => Value.int .i64 (n : Int)) om9, e2⟩
theorem Zc2 {G : GH} (n : Int) (a : Int) (b : Int) :
    Fc Tryz.prog 138 [iV n, iV a, iV b] G [] (fun v _ _ => v = .bool (decide (a ≤ n ∧ n ≤ b))) := by
 refine Fc.go [.tmp 6] Tryz.func138 Tryz.ntmps138 rfl (fun w0 => (g9 11 ?_))
 refine W.sd 10 (fun h9 p9 => ?_) (fun h9 p9 => ?_)
 ·refine g9 12 ?_
  refine congrArg Value.bool ?_
  first | (simp_all; done) | (simp_all; omega) | (simp_all; intros; omega)
 refine g9 9 ?_
 refine congrArg Value.bool ?_
 first | (simp_all; done) | (simp_all; omega) | (simp_all; intros; omega)

theorem ZuI {G : GH} (cfan : Int) (cleaf : Int) (cbud : Int) (cslots : Int) (crest : Int) :
    Fc Tryz.prog 82 [.agg #[iV cfan, iV cleaf, iV cbud, iV cslots, iV crest]] G [] (fun v _ _ => v = .bool (decide (CfgR (⟨cfan, cleaf, cbud, cslots, crest⟩ : Cfg)))) := by
 refine Fc.go [.tmp 2] Tryz.func82 Tryz.ntmps82 rfl (fun w0 => (g9 2 ?_))
 refine W.box (L := [iV _, iV _, iV _, iV _, iV _]) rfl rfl (fun b1 => (g9 7 ?_))
 refine W.qcall (Zc2 _ _ _) rfl (W.mv ?_)
 refine W.sp 6 rfl (fun h5 => ?_) (fun h5 => ?_)
 ·refine g9 5 ?_
  refine W.qcall (Zc2 _ _ _) rfl (g9 2 ?_)
  refine W.sp 11 rfl (fun h9 => ?_) (fun h9 => ?_)
  ·refine g9 5 ?_
   refine W.qcall (Zc2 _ _ _) rfl (g9 2 ?_)
   refine W.sp 16 rfl (fun h14 => ?_) (fun h14 => ?_)
   ·refine g9 5 ?_
    refine W.qcall (Zc2 _ _ _) rfl (g9 2 ?_)
    refine W.sp 21 rfl (fun h19 => ?_) (fun h19 => ?_)
    ·refine g9 5 ?_
     refine W.qcall (Zc2 _ _ _) rfl (g9 6 ?_)
     refine congrArg Value.bool ?_
     rw [Bool.eq_iff_iff, decide_eq_true_iff]
     simp only [CfgR]
     first | (simp_all; done) | (simp_all; omega) | (simp_all; intros; omega)
    refine g9 9 ?_
    refine congrArg Value.bool ?_
    rw [Bool.eq_iff_iff, decide_eq_true_iff]
    simp only [CfgR]
    first | (simp_all; done) | (simp_all; omega) | (simp_all; intros; omega)
   refine g9 14 ?_
   refine congrArg Value.bool ?_
   rw [Bool.eq_iff_iff, decide_eq_true_iff]
   simp only [CfgR]
   first | (simp_all; done) | (simp_all; omega) | (simp_all; intros; omega)
  refine g9 19 ?_
  refine congrArg Value.bool ?_
  rw [Bool.eq_iff_iff, decide_eq_true_iff]
  simp only [CfgR]
  first | (simp_all; done) | (simp_all; omega) | (simp_all; intros; omega)
 refine g9 24 ?_
 refine congrArg Value.bool ?_
 rw [Bool.eq_iff_iff, decide_eq_true_iff]
 simp only [CfgR]
 first | (simp_all; done) | (simp_all; omega) | (simp_all; intros; omega)

theorem ZuJ {G : GH} (s : Int) (hs : i64 s) :
    Fc Tryz.prog 85 [iV s] G [] (fun v G' M' => M' = [] ∧ ∃ u0, v = .agg (List.toArray u0) ∧ NodeC G' u0 (XR s)) := by
 refine Fc.go [.cell 2 60] Tryz.func85 Tryz.ntmps85 rfl (fun w0 => (g9 2 ?_))
 refine W.alloc Zm (fun b3 => (g9 5 ?_))
 refine W.ok (Ya (L := [iV _, iV _, lV _ _ _, lV _ _ _, sV _, .bool _, iV _, iV _, lV _ _ _, lV _ _ _]) ZaO Zm rfl rfl rfl) (g9 5 ?_)
 refine ⟨rfl, _, rfl, ?_⟩
 · exact ⟨_, _, _, _, _, _, _, _, rfl, SlR.nil, SlR.nil, SlR.nil, SlR.nil, (Zn3 hs)⟩

theorem ZuK {G : GH} (cfan : Int) (cleaf : Int) (cbud : Int) (cslots : Int) (crest : Int) :
    Fc Tryz.prog 38 [.agg #[iV cfan, iV cleaf, iV cbud, iV cslots, iV crest]] G [] (fun v G' M' => (¬ CfgR (⟨cfan, cleaf, cbud, cslots, crest⟩ : Cfg) ∧ v = .tuple #[.pointer none, iV 2] ∧ M' = []) ∨ (CfgR (⟨cfan, cleaf, cbud, cslots, crest⟩ : Cfg) ∧ ∃ b, v = .tuple #[pt9 b, iV 0] ∧ StR 60 4 3 189 139 b (⟨cfan, cleaf, cbud, cslots, crest⟩ : Cfg) G' [XR 0] M')) := by
 refine Fc.go [.tmp 2, .tmp 3] Tryz.func38 Tryz.ntmps38 rfl (fun w0 => (g9 2 ?_))
 refine W.box (L := [iV _, iV _, iV _, iV _, iV _]) rfl rfl (fun b4 => (g9 8 ?_))
 refine W.qcall (ZuI _ _ _ _ _) rfl (g9 3 ?_)
 refine WC.cond rfl (fun h9 => ?_) (fun h9 => ?_)
 ·refine g9 9 ?_
  exact .inl ⟨by simpa using h9, rfl, rfl⟩
 refine g9 6 ?_
 refine W.call (Mp := []) (Zuj (cslots)) rfl pr9 ?_
 intro v8 G5 Ms7 hG5 q6
 obtain ⟨bAr, eV9, hA9⟩ : ∃ b, v8 = .tuple #[pt9 b, iV 0] ∧ ArR Zv 60 4 3 189 b G5 (List.replicate (cslots).toNat Nd.zero, List.replicate (cslots).toNat false) Ms7 := Or.elim q6 (fun hz => absurd (by have h8 : CfgR (⟨cfan, cleaf, cbud, cslots, crest⟩ : Cfg) := (by simpa using h9); unfold CfgR at h8; dsimp only at h8; omega) hz.1) (fun hz => hz.2)
 subst eV9
 refine W.perm (pmC pr9).symm (g9 21 ?_)
 refine W.ok (Ya (L := [iV _, iV _, iV _, iV _, iV _, .pointer _]) Zsb Zsa rfl rfl rfl) (W.box (L := [iV _, iV _, iV _, iV _, iV _, .pointer _]) rfl rfl (fun b9 => (g9 6 ?_)))
 refine W.cN (ZuJ _ ⟨by decide, by decide⟩) rfl (fun _ _ _ _ _ _ _ _ G10 hG10 hp_hv11 hk_hv11 hm_hv11 hr_hv11 hok_hv11 => (W.call (Mp := ((b9, ce9 139 [iV cfan, iV cleaf, iV cbud, iV cslots, iV crest, pt9 bAr]) :: Ms7)) (Mr := ((b4, ce9 23 [iV cfan, iV cleaf, iV cbud, iV cslots, iV crest]) :: [])) (ZlQ (c := (⟨cfan, cleaf, cbud, cslots, crest⟩ : Cfg)) (ArR.mono hG10 hA9) (nk9 hp_hv11 hk_hv11 hm_hv11 hr_hv11 hok_hv11)) rfl (((pmC pr9).cons _).trans pr9) ?_))
 intro v19 G16 Ms18 hG16 q17
 refine match q17 with | ⟨e_21, hS20⟩ => ?_
 subst e_21
 refine W.perm (pmC pr9).symm (g9 15 ?_)
 refine ⟨.inr rfl, [_, _], ⟨rfl, rfl, trivial⟩, (Ms18 ++ []), sr9.cons _, ?_⟩
 have hC : CfgR (⟨cfan, cleaf, cbud, cslots, crest⟩ : Cfg) := by simpa using h9
 have hE := Ze8 (n := cslots.toNat) (l := []) (by simp) (XR 0)
 rw [(Zn4 (n := cslots.toNat) (by unfold CfgR at hC; dsimp only at hC; omega)).2, ZnL] at hE
 have hS := hS20
 rw [hE] at hS
 exact .inr ⟨hC, _, by rw [hE]; rfl, hC, by show 1 ≤ cslots.toNat; unfold CfgR at hC; dsimp only at hC; omega, by rw [List.append_nil]; exact hS⟩

end Go.Proofs.YtbbemibbmbmamaaGreat
