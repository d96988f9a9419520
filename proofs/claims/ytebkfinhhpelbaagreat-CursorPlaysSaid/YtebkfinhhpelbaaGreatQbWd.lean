/- Walks of maps behind messages. -/
import Derived.Test.YtebkfinhhpelbaaGreatQbMi
import Derived.Test.YtebkfinhhpelbaaGreatQbW9
set_option maxRecDepth 100000
set_option maxHeartbeats 1600000
set_option linter.unusedVariables false
set_option linter.unusedSimpArgs false
set_option linter.unnecessarySimpa false
namespace Go.Proofs.YtebkfinhhpelbaaGreat
open Go Go.Fw Go.RowKit
theorem mwithout_fc {G : GH} {v_l : Value} {l : List Pair} (h_l : SlR ePair G v_l l) (slo : Str) (shi : Str) (so : Bool) :
    Fc Tryz.prog 217 [v_l, .agg #[.string slo.b, .string shi.b, .bool so]] G [] (fun v G' M' => M' = [] ∧ ∃ u0, v = u0 ∧ SlR ePair G' u0 (l.filter (fun p : Pair => !Span.has ⟨slo, shi, so⟩ p.key))) := by
 obtain ⟨sa_l, sc_l, rfl⟩ := h_l.form
 refine Fc.intro (rs := [.tmp 4]) cl217 Tryz.func217 rfl Tryz.ntmps217 rfl rfl (fun w0 => ?_)
 refine WC.seq (WC.region (W.box (L := [.string _, .string _, .bool _]) rfl rfl (fun b1 => (W.as (W.nil (thn_n (WC.seq (WC.region (W.mv (W.call (Mp := []) (clonepo_fc h_l) rfl pr9 ?_))))))))))
 rintro v3 G2 Ms4 hG2 ho5
 refine W.perm (pmC pr9).symm (W.giveB (b := b1) (L := [.string _, .string _, .bool _]) pr9 (fun G6 hG6 hc6 => (W.ok (ok_makeFn (fst := []) (caps := [.tmp 3]) (vs := []) (ws := [.pointer (some ⟨b1, 0, none⟩)]) rfl rfl) (W.call (Mp := Ms4) (dfp_fc (ho5.mono hG6) _ _ _ hc6) rfl pr9 ?_))))
 rintro v8 G7 Ms9 hG7 ho10
 refine W.as (W.nil (thn_n (WC.giveO ho10 pr9 (fun G11 hG11 hv11 => (WC.ret ?_)))))
 refine ⟨.inr rfl, [_], ⟨rfl, trivial⟩, [], sn9, ?_⟩
 refine ⟨rfl, _, rfl, ?_⟩
 · exact hv11

theorem mtake_fc {G : GH} {v_l : Value} {l : List Pair} (h_l : SlR ePair G v_l l) (ms : Int) (mk : Int) (mkey : Str) (mhi : Str) (mo : Bool) (mv : Str) (hP : PairsR l) (hn : l.length ≤ 1000000) (hk : Msg.fit (⟨ms, mk, mkey, mhi, mo, mv⟩ : Msg)) :
    Fc Tryz.prog 198 [v_l, .agg #[.int .i64 ms, .int .i64 mk, .string mkey.b, .string mhi.b, .bool mo, .string mv.b]] G [] (fun v G' M' => M' = [] ∧ ∃ u0, v = u0 ∧ SlR ePair G' u0 (takeN l (⟨ms, mk, mkey, mhi, mo, mv⟩ : Msg))) := by
 obtain ⟨sa_l, sc_l, rfl⟩ := h_l.form
 obtain ⟨hk1, hk2, hk3⟩ := hk
 dsimp only at hk1 hk2 hk3
 have hl := h_l.len47
 have hov := on_val (m := (⟨ms, mk, mkey, mhi, mo, mv⟩ : Msg)) mkey hk3
 refine Fc.intro (rs := [.tmp 4]) cl198 Tryz.func198 rfl Tryz.ntmps198 rfl rfl (fun w0 => ?_)
 refine WC.seq (WC.region (W.box (L := [.int .i64 _, .int .i64 _, .string _, .string _, .bool _, .string _]) rfl rfl (fun b12 => (W.as (W.nil (thn_n (WC.seq (WC.seq (WC.region (W.ok (ok_fieldB fd49_1 rfl) (W.ok (ok_loadB (i := 0) (vs := [.int .i64 _]) ty3 rfl rfl rfl rfl (by simp)) (W.ok (ok_eql rfl rfl) (W.nil (thn_n ?_))))))))))))))
 refine WC.cond (b := _) rfl (fun h7 => ?_) (fun h7 => ?_)
 ·have p7 := of_decide_eq_true h7
  refine WC.seq (WC.region (W.mv (W.ok (ok_loadB (i := 0) (vs := [.int .i64 _, .int .i64 _, .string _, .string _, .bool _, .string _]) ty49 rfl rfl rfl rfl (by simp)) (W.qcall (mspan_fc _ _ _ _ _ _ (by first | assumption | omega | (dsimp only; omega))) rfl (W.call (Mp := []) (mwithout_fc h_l (Msg.span (⟨ms, mk, mkey, mhi, mo, mv⟩ : Msg)).lo (Msg.span (⟨ms, mk, mkey, mhi, mo, mv⟩ : Msg)).hi (Msg.span (⟨ms, mk, mkey, mhi, mo, mv⟩ : Msg)).opn) rfl pr9 ?_)))))
  intro _ G13 _ hG13 q15
  refine match q15 with | ⟨e_16, _, e_17, hv14⟩ => ?_
  subst e_16
  subst e_17
  have q19 := hv14.form
  refine match q19 with | ⟨sa_hv14, sc_hv14, e_18⟩ => ?_
  subst e_18
  refine W.as (W.nil (thn_n (WC.ret (thn_r ?_))))
  refine ⟨.inr rfl, [_], ⟨rfl, trivial⟩, [], sn9, ?_⟩
  refine ⟨rfl, _, rfl, ?_⟩
  · have h := hv14; rw [takeN, if_pos p7]; exact h
 have p7 := of_decide_eq_false h7
 refine WC.skip (thn_n (WC.seq (WC.drawW _ sr9.k9 mix (by rintro _ _ _ _ ⟨h | h, _⟩ <;> cases h) (WD.tk 0 rfl (ok_mv) (WD.tk 1 rfl (ok_fieldB fd49_2 rfl) (WD.tk 2 rfl (ok_loadB (i := 0) (vs := [.string _]) ty9 rfl rfl rfl rfl (by simp)) (WD.tk 3 rfl (ok_loadB (i := 0) (vs := [.int .i64 _, .int .i64 _, .string _, .string _, .bool _, .string _]) ty49 rfl rfl rfl rfl (by simp)) (WD.tk 4 rfl (ok_fieldB fd49_2 rfl) (WD.tk 5 rfl (ok_loadB (i := 0) (vs := [.string _]) ty9 rfl rfl rfl rfl (by simp)) (WD.a1 6 rfl (W.qcall (mon_fc ms mk mkey mhi mo mv mkey (by omega)) rfl (W.nil (WD.n9 Le.rfl sr9.k9 (WD.a1 7 rfl (W.call (Mp := []) (mwith_fc h_l mkey (Msg.on (⟨ms, mk, mkey, mhi, mo, mv⟩ : Msg) mkey).kind (Msg.on (⟨ms, mk, mkey, mhi, mo, mv⟩ : Msg) mkey).val hP hn (by omega)) rfl pr9 ?_)))))))))))))))
 intro _ G20 _ hG20 q22
 refine match q22 with | ⟨e_23, _, e_24, hv21⟩ => ?_
 subst e_23
 subst e_24
 have q26 := hv21.form
 refine match q26 with | ⟨sa_hv21, sc_hv21, e_25⟩ => ?_
 subst e_25
 refine W.nil (WD.n9 hG20 sr9.k9 (WD.tk 8 rfl (ok_as) (WD.done (by kernel_rfl) (thn_n (WC.ret ?_)))))
 refine ⟨.inr rfl, [_], ⟨rfl, trivial⟩, [], sn9, ?_⟩
 refine ⟨rfl, _, rfl, ?_⟩
 · have h := hv21; rw [takeN, if_neg p7]; exact h

theorem rtakeF_fc {G : GH} {v_l : Value} {l : List Pair} (h_l : SlR ePair G v_l l) (ms : Int) (mk : Int) (mkey : Str) (mhi : Str) (mo : Bool) (mv : Str) (hP : PairsR l) (hn : l.length ≤ 1000000) (hk : Msg.fit (⟨ms, mk, mkey, mhi, mo, mv⟩ : Msg)) :
    Fc Tryz.prog 183 [v_l, .agg #[.int .i64 ms, .int .i64 mk, .string mkey.b, .string mhi.b, .bool mo, .string mv.b]] G [] (fun v G' M' => M' = [] ∧ ∃ u0, v = u0 ∧ SlR ePair G' u0 (takeN l (⟨ms, mk, mkey, mhi, mo, mv⟩ : Msg))) := by
 obtain ⟨sa_l, sc_l, rfl⟩ := h_l.form
 obtain ⟨hk1, hk2, hk3⟩ := hk
 dsimp only at hk1 hk2 hk3
 have hl := h_l.len47
 have hov := on_val (m := (⟨ms, mk, mkey, mhi, mo, mv⟩ : Msg)) mkey hk3
 refine Fc.intro (rs := [.tmp 4]) cl183 Tryz.func183 rfl Tryz.ntmps183 rfl rfl (fun w0 => ?_)
 refine WC.seq (WC.region (W.box (L := [.int .i64 _, .int .i64 _, .string _, .string _, .bool _, .string _]) rfl rfl (fun b27 => (W.as (W.nil (thn_n (WC.seq (WC.seq (WC.region (W.ok (ok_fieldB fd49_1 rfl) (W.ok (ok_loadB (i := 0) (vs := [.int .i64 _]) ty3 rfl rfl rfl rfl (by simp)) (W.ok (ok_neq rfl rfl) (W.nil (thn_n ?_))))))))))))))
 refine WC.cond (b := _) rfl (fun h9 => ?_) (fun h9 => ?_)
 ·have p9 := nd_t h9
  refine WC.seq (WC.drawW _ sr9.k9 mix (by rintro _ _ _ _ ⟨h | h, _⟩ <;> cases h) (WD.tk 0 rfl (ok_mv) (WD.tk 1 rfl (ok_fieldB fd49_2 rfl) (WD.tk 2 rfl (ok_loadB (i := 0) (vs := [.string _]) ty9 rfl rfl rfl rfl (by simp)) (WD.tk 3 rfl (ok_loadB (i := 0) (vs := [.int .i64 _, .int .i64 _, .string _, .string _, .bool _, .string _]) ty49 rfl rfl rfl rfl (by simp)) (WD.tk 4 rfl (ok_fieldB fd49_2 rfl) (WD.tk 5 rfl (ok_loadB (i := 0) (vs := [.string _]) ty9 rfl rfl rfl rfl (by simp)) (WD.a1 6 rfl (W.qcall (ron_fc ms mk mkey mhi mo mv mkey (by omega)) rfl (W.nil (WD.n9 Le.rfl sr9.k9 (WD.a1 7 rfl (W.call (Mp := []) (rwith_fc h_l mkey (Msg.on (⟨ms, mk, mkey, mhi, mo, mv⟩ : Msg) mkey).kind (Msg.on (⟨ms, mk, mkey, mhi, mo, mv⟩ : Msg) mkey).val hP hn (by omega)) rfl pr9 ?_)))))))))))))
  intro _ G28 _ hG28 q30
  refine match q30 with | ⟨e_31, _, e_32, hv29⟩ => ?_
  subst e_31
  subst e_32
  have q34 := hv29.form
  refine match q34 with | ⟨sa_hv29, sc_hv29, e_33⟩ => ?_
  subst e_33
  refine W.nil (WD.n9 hG28 sr9.k9 (WD.tk 8 rfl (ok_as) (WD.done (by kernel_rfl) (thn_n (WC.ret (thn_r ?_))))))
  refine ⟨.inr rfl, [_], ⟨rfl, trivial⟩, [], sn9, ?_⟩
  refine ⟨rfl, _, rfl, ?_⟩
  · have h := hv29; rw [takeN, if_neg (by simpa using h9)]; exact h
 have p9 := nd_f h9
 refine WC.skip (thn_n (WC.seq (WC.region (W.as (W.nil (thn_n (WC.seq (WC.seq (WC.region (W.as (W.nil (thn_n (WC.block ?_)))))))))))))
 refine WC.loop (X := (Nat) × Value × MH) (fun i => [(6, .int .i64 ((i.1 : Nat) : Int)), (3, .pointer (some ⟨b27, 0, none⟩)), (0, .slice sa_l l.length sc_l), (5, i.2.1)]) (fun i G Ml => Ml = ((b27, .cells (List.toArray [.int .i64 ms, .int .i64 mk, .string mkey.b, .string mhi.b, .bool mo, .string mv.b]) 49 (0, 0)) :: (i.2.2 ++ [])) ∧ OwnR ePair 69 G i.2.1 (List.filter (fun p : Pair => !(Msg.span (⟨ms, mk, mkey, mhi, mo, mv⟩ : Msg)).has p.key) (l.take i.1)) i.2.2 ∧ i.1 ≤ l.length) (fun i => l.length - i.1) (0, .slice none 0 0, ([] : MH)) ⟨eqv, eqv, eqv, eqv, trivial⟩ ?_ ?_
 ·exact ⟨rfl, (by simpa using OwnR.nil), by omega⟩
 rintro ⟨i, v_5, M_5⟩ gG35 G35 _ hG35 ⟨rfl, ho_5, hi⟩
 try dsimp only at ho_5 hi
 have hfl := filt_le (fun p : Pair => !(Msg.span (⟨ms, mk, mkey, mhi, mo, mv⟩ : Msg)).has p.key) l i
 refine WC.fr (f := setL gG35 [(6, .int .i64 ((i : Nat) : Int)), (3, .pointer (some ⟨b27, 0, none⟩)), (0, .slice sa_l l.length sc_l), (5, v_5)]) rfl (WC.seq (WC.seq (WC.region (W.mv (W.mv (W.ok (ok_len sl41 (h_l.mono hG35) rfl) (W.ok (ok_lss rfl rfl) (W.nil (thn_n ?_)))))))))
 refine WC.cond (b := _) rfl (fun h21 => ?_) (fun h21 => ?_)
 ·have p21 := of_decide_eq_true h21
  refine WC.skip (thn_n (WC.seq (WC.block (WC.seq (WC.draw mix (by kernel_rfl) (W.ok (ok_loadB (i := 0) (vs := [.int .i64 _, .int .i64 _, .string _, .string _, .bool _, .string _]) ty49 rfl rfl rfl rfl (by simp)) (W.qcall (rspan_fc _ _ _ _ _ _ (by first | assumption | omega | (dsimp only; omega))) rfl (W.mv (W.mv ?_)))))))))
  have q38 := (h_l.mono hG35).at (i := i) (by omega)
  refine match q38 with | ⟨_, he36, e_37⟩ => ?_
  subst e_37
  refine W.ok (ok_indexAddr (i := i) sl41 ty69 (h_l.mono hG35) rfl rfl ⟨by omega, by omega⟩) (W.ok (ok_fieldE fd69_0 rfl he36.form) (W.ok (ok_loadE (vs := [.string _]) ty9 he36 rfl rfl rfl (by simp)) (W.qcall (has_fc _ _ _ _) rfl (W.ok (ok_not rfl) (W.nil (thn_n ?_))))))
  refine WC.cond (b := _) rfl (fun h32 => ?_) (fun h32 => ?_)
  ·refine WC.region (W.mv (W.mv (W.mv ?_)))
   have q41 := (h_l.mono hG35).at (i := i) (by omega)
   refine match q41 with | ⟨_, he39, e_40⟩ => ?_
   subst e_40
   refine W.ok (ok_indexAddr (i := i) sl41 ty69 (h_l.mono hG35) rfl rfl ⟨by omega, by omega⟩) (W.ok (ok_loadE (vs := [.string _, .string _]) ty69 he39 rfl rfl rfl (by simp)) (W.lit (e := ePair) (l := [((l)[i])]) (css := [[.string _, .string _]]) sl41 ty69 zr69 rfl rfl rfl rfl rfl rfl ⟨rfl, trivial⟩ (fun bl42 G42 hG42 hv42 => (W.app (e := ePair) sl41 ty69 zr69 rfl by69 rfl rfl ((ho_5.mono hG42)) (hv42) (pmC pr9) (by show (_ + 1) * 32 ≤ _; (try simp only [List.length_append] at *); omega) (fun v43 Ms44 ho45 => (W.perm (pmC pr9).symm (W.as (W.nil (blk_n (thn_n (WC.region (W.mv (W.ok (ok_add rfl rfl (by omega)) (W.as (W.nil (thn_n ?_))))))))))))))))
   exact ⟨hG42, (i + 1, v43, Ms44), ⟨eqv, eqv, eqv, eqv, trivial⟩, ⟨rfl, (by have h := ho45; rw [filt_t (p := (fun p : Pair => !(Msg.span (⟨ms, mk, mkey, mhi, mo, mv⟩ : Msg)).has p.key)) (by omega) (by simpa using h32)]; exact h), by omega⟩, by omega⟩
  refine WC.skip (blk_n (thn_n (WC.region (W.mv (W.ok (ok_add rfl rfl (by omega)) (W.as (W.nil (thn_n ?_))))))))
  exact ⟨Le.rfl, (i + 1, v_5, M_5), ⟨eqv, eqv, eqv, eqv, trivial⟩, ⟨rfl, (by have h := ho_5; rw [filt_f (p := (fun p : Pair => !(Msg.span (⟨ms, mk, mkey, mhi, mo, mv⟩ : Msg)).has p.key)) (by omega) (by simpa using h32)]; exact h), by omega⟩, by omega⟩
 have p21 := of_decide_eq_false h21
 refine WC.exit (thn_x (thn_x (blk_h (thn_n (WC.seq (WC.region (W.mv (W.as (W.nil (thn_n (WC.giveO ho_5 (pmC pr9) (fun G46 hG46 hv46 => (WC.ret ?_)))))))))))))
 refine ⟨.inr rfl, [_], ⟨rfl, trivial⟩, [], sn9, ?_⟩
 refine ⟨rfl, _, rfl, ?_⟩
 · have h := hv46; rw [List.take_of_length_le (by omega)] at h; rw [takeN, if_pos (by simpa using h9)]; exact h

theorem mfold_fc {G : GH} {v_l : Value} {l : List Pair} (h_l : SlR ePair G v_l l) {v_ms : Value} {ms : List Msg} (h_ms : SlR eMsg G v_ms ms) (hP : PairsR l) (hn : l.length + ms.length ≤ 1000000) (hm : ∀ m ∈ ms, m.fit) :
    Fc Tryz.prog 152 [v_l, v_ms] G [] (fun v G' M' => M' = [] ∧ ∃ u0, v = u0 ∧ SlR ePair G' u0 (foldN l ms)) := by
 obtain ⟨sa_l, sc_l, rfl⟩ := h_l.form
 obtain ⟨sa_ms, sc_ms, rfl⟩ := h_ms.form
 have hl := h_l.len47
 have hlm := h_ms.len47
 refine Fc.intro (rs := [.tmp 4]) cl152 Tryz.func152 rfl Tryz.ntmps152 rfl rfl (fun w0 => ?_)
 refine WC.seq (WC.region (W.as (W.nil (thn_n (WC.seq (WC.region (W.mv (W.call (Mp := []) (clonep_fc h_l) rfl pr9 ?_))))))))
 intro _ G47 _ hG47 q49
 refine match q49 with | ⟨e_50, _, e_51, hv48⟩ => ?_
 subst e_50
 subst e_51
 have q53 := hv48.form
 refine match q53 with | ⟨sa_hv48, sc_hv48, e_52⟩ => ?_
 subst e_52
 refine W.as (W.nil (thn_n (WC.seq (WC.seq (WC.region (W.mv (W.ok (ok_len sl45 (h_ms.mono hG47) rfl) (W.mv (W.nil (thn_n (WC.block ?_)))))))))))
 refine WC.loop (X := (Nat) × Value) (fun k => [(12, .int .i64 ((k.1 : Nat) : Int)), (10, .slice sa_ms ms.length sc_ms), (11, .int .i64 (((ms).length : Nat) : Int)), (5, k.2)]) (fun k G Ml => Ml = [] ∧ SlR ePair G k.2 (foldN l (ms.take k.1)) ∧ k.1 ≤ ms.length) (fun k => ms.length - k.1) (0, .slice sa_hv48 ((l)).length sc_hv48) ⟨eqv, eqv, eqv, eqv, trivial⟩ ?_ ?_
 ·exact ⟨rfl, (by simpa [foldN] using hv48), by omega⟩
 rintro ⟨k, v_5⟩ gG54 G54 _ hG54 ⟨rfl, ho_5, hk⟩
 try dsimp only at ho_5 hk
 have hPk := PairsR.foldF (ms := ms.take k) hP (fun m h => hm m (List.mem_of_mem_take h))
 have hnk := fold_lenF (ms := ms.take k) hP (fun m h => hm m (List.mem_of_mem_take h))
 have hkl : (ms.take k).length ≤ k := by simp; omega
 refine WC.fr (f := setL gG54 [(12, .int .i64 ((k : Nat) : Int)), (10, .slice sa_ms ms.length sc_ms), (11, .int .i64 (((ms).length : Nat) : Int)), (5, v_5)]) rfl (WC.seq (WC.region (W.ok (ok_lss rfl rfl) (W.nil (thn_n (WC.seq ?_))))))
 refine WC.cond (b := _) rfl (fun h13 => ?_) (fun h13 => ?_)
 ·have p13 := of_decide_eq_true h13
  refine WC.skip (thn_n (WC.seq (WC.block (WC.seq (WC.region ?_)))))
  have q59 := (h_ms.mono (hG47.trans hG54)).at (i := k) (by omega)
  refine match q59 with | ⟨_, he55, ⟨e_58, hm56⟩⟩ => ?_
  subst e_58
  refine W.ok (ok_indexAddr (i := k) sl45 ty49 (h_ms.mono (hG47.trans hG54)) rfl rfl ⟨by omega, by omega⟩) (W.ok (ok_loadE (vs := [.int .i64 _, .int .i64 _, .string _, .string _, .bool _, .string _]) ty49 he55 rfl rfl rfl (by simp)) (W.alloc zr49 (fun b60 => (W.store (i := 0) (vs := [.int .i64 _, .int .i64 _, .string _, .string _, .bool _, .string _]) (L' := [.int .i64 _, .int .i64 _, .string _, .string _, .bool _, .string _]) ty49 rfl rfl rfl rfl rfl rfl rfl rfl (W.nil (thn_n (WC.region (W.mv (W.ok (ok_loadB (i := 0) (vs := [.int .i64 _, .int .i64 _, .string _, .string _, .bool _, .string _]) ty49 rfl rfl rfl rfl (by simp)) (W.call (Mp := []) (mtake_fc ho_5 ms[k].stamp ms[k].kind ms[k].key ms[k].hi ms[k].opn ms[k].val hPk (by omega) (hm _ (List.getElem_mem _))) rfl pr9 ?_))))))))))
  intro _ G61 _ hG61 q63
  refine match q63 with | ⟨e_64, _, e_65, hv62⟩ => ?_
  subst e_64
  subst e_65
  have q67 := hv62.form
  refine match q67 with | ⟨sa_hv62, sc_hv62, e_66⟩ => ?_
  subst e_66
  refine W.as (W.nil (blk_n (thn_n (WC.region (W.ok (ok_add rfl rfl (by omega)) (W.mv (W.sub (sr9.cons _) (W.nil (thn_n ?_)))))))))
  exact ⟨hG61, (k + 1, .slice sa_hv62 (takeN (foldN l (ms.take k)) ms[k]).length sc_hv62), ⟨eqv, eqv, eqv, eqv, trivial⟩, ⟨rfl, (by have h := hv62; rw [foldN_succ (by omega)]; exact h), by omega⟩, by omega⟩
 have p13 := of_decide_eq_false h13
 refine WC.exit (thn_x (thn_x (blk_h (thn_n (WC.seq (WC.region (W.mv (W.as (W.nil (thn_n (WC.ret ?_)))))))))))
 refine ⟨.inr rfl, [_], ⟨rfl, trivial⟩, [], sn9, ?_⟩
 refine ⟨rfl, _, rfl, ?_⟩
 · have h := ho_5; rw [List.take_of_length_le (by omega)] at h; exact h

theorem rfoldF_fc {G : GH} {v_l : Value} {l : List Pair} (h_l : SlR ePair G v_l l) {v_ms : Value} {ms : List Msg} (h_ms : SlR eMsg G v_ms ms) (hP : PairsR l) (hn : l.length + ms.length ≤ 1000000) (hm : ∀ m ∈ ms, m.fit) :
    Fc Tryz.prog 134 [v_l, v_ms] G [] (fun v G' M' => M' = [] ∧ ∃ u0, v = u0 ∧ SlR ePair G' u0 (foldN l ms)) := by
 obtain ⟨sa_l, sc_l, rfl⟩ := h_l.form
 obtain ⟨sa_ms, sc_ms, rfl⟩ := h_ms.form
 have hl := h_l.len47
 have hlm := h_ms.len47
 refine Fc.intro (rs := [.tmp 4]) cl134 Tryz.func134 rfl Tryz.ntmps134 rfl rfl (fun w0 => ?_)
 refine WC.seq (WC.region (W.as (W.nil (thn_n (WC.seq (WC.region (W.lit0 (e := ePair) sl41 ty69 zr69 rfl (fun v68 Ms69 ho70 => (W.mv (W.app (e := ePair) sl41 ty69 zr69 rfl by69 rfl rfl (ho70) (h_l) pr9 (by show (0 + _) * 32 ≤ _; omega) (fun v71 Ms72 ho73 => (W.as (W.nil (thn_n (WC.seq (WC.seq (WC.region ?_)))))))))))))))))
 refine W.as (W.nil (thn_n (WC.block (WC.giveO (ho73) pr9 (fun G74 hG74 hv74 => ?_)))))
 refine WC.loop (X := (Nat) × Value) (fun k => [(6, .int .i64 ((k.1 : Nat) : Int)), (1, .slice sa_ms ms.length sc_ms), (5, k.2)]) (fun k G Ml => Ml = [] ∧ SlR ePair G k.2 (foldN l (ms.take k.1)) ∧ k.1 ≤ ms.length) (fun k => ms.length - k.1) (0, v71) ⟨eqv, eqv, eqv, trivial⟩ ?_ ?_
 ·exact ⟨rfl, (by simpa [foldN] using hv74), by omega⟩
 rintro ⟨k, v_5⟩ gG75 G75 _ hG75 ⟨rfl, ho_5, hk⟩
 try dsimp only at ho_5 hk
 have hPk := PairsR.foldF (ms := ms.take k) hP (fun m h => hm m (List.mem_of_mem_take h))
 have hnk := fold_lenF (ms := ms.take k) hP (fun m h => hm m (List.mem_of_mem_take h))
 have hkl : (ms.take k).length ≤ k := by simp; omega
 refine WC.fr (f := setL gG75 [(6, .int .i64 ((k : Nat) : Int)), (1, .slice sa_ms ms.length sc_ms), (5, v_5)]) rfl (WC.seq (WC.seq (WC.region (W.mv (W.mv (W.ok (ok_len sl45 (h_ms.mono (hG74.trans hG75)) rfl) (W.ok (ok_lss rfl rfl) (W.nil (thn_n ?_)))))))))
 refine WC.cond (b := _) rfl (fun h13 => ?_) (fun h13 => ?_)
 ·have p13 := of_decide_eq_true h13
  refine WC.skip (thn_n (WC.seq (WC.block (WC.region (W.mv (W.mv (W.mv ?_)))))))
  have q80 := (h_ms.mono (hG74.trans hG75)).at (i := k) (by omega)
  refine match q80 with | ⟨_, he76, ⟨e_79, hm77⟩⟩ => ?_
  subst e_79
  refine W.ok (ok_indexAddr (i := k) sl45 ty49 (h_ms.mono (hG74.trans hG75)) rfl rfl ⟨by omega, by omega⟩) (W.ok (ok_loadE (vs := [.int .i64 _, .int .i64 _, .string _, .string _, .bool _, .string _]) ty49 he76 rfl rfl rfl (by simp)) (W.call (Mp := []) (rtakeF_fc ho_5 ms[k].stamp ms[k].kind ms[k].key ms[k].hi ms[k].opn ms[k].val hPk (by omega) (hm _ (List.getElem_mem _))) rfl pr9 ?_))
  intro _ G81 _ hG81 q83
  refine match q83 with | ⟨e_84, _, e_85, hv82⟩ => ?_
  subst e_84
  subst e_85
  have q87 := hv82.form
  refine match q87 with | ⟨sa_hv82, sc_hv82, e_86⟩ => ?_
  subst e_86
  refine W.as (W.nil (blk_n (thn_n (WC.region (W.mv (W.ok (ok_add rfl rfl (by omega)) (W.as (W.nil (thn_n ?_)))))))))
  exact ⟨hG81, (k + 1, .slice sa_hv82 (takeN (foldN l (ms.take k)) ms[k]).length sc_hv82), ⟨eqv, eqv, eqv, trivial⟩, ⟨rfl, (by have h := hv82; rw [foldN_succ (by omega)]; exact h), by omega⟩, by omega⟩
 have p13 := of_decide_eq_false h13
 refine WC.exit (thn_x (thn_x (blk_h (thn_n (WC.seq (WC.region (W.mv (W.as (W.nil (thn_n (WC.ret ?_)))))))))))
 refine ⟨.inr rfl, [_], ⟨rfl, trivial⟩, [], sn9, ?_⟩
 refine ⟨rfl, _, rfl, ?_⟩
 · have h := ho_5; rw [List.take_of_length_le (by omega)] at h; exact h

end Go.Proofs.YtebkfinhhpelbaaGreat
namespace Go.Proofs.YtebkfinhhpelbaaGreat
open Go Go.Fw Go.RowKit
theorem less14_fc {G : GH} {v_l : Value} {l : List Pair} (h_l : SlR ePair G v_l l) (k : Str) :
    Fc Tryz.prog 30 [v_l, .string k.b] G [] (fun v _ _ => v = .int .i64 ((fndN l k : Nat) : Int)) := by
 obtain ⟨sa_l, sc_l, rfl⟩ := h_l.form
 have hl := h_l.len47
 refine Fc.intro (rs := [.tmp 4]) cl30 Tryz.func30 rfl Tryz.ntmps30 rfl rfl (fun w0 => ?_)
 refine WC.seq (WC.region (W.as (W.nil (thn_n (WC.seq (WC.region (W.as (W.nil (thn_n (WC.seq (WC.seq (WC.region (W.as (W.nil (thn_n (WC.block ?_))))))))))))))))
 refine WC.loop (X := Nat) (fun i => [(5, .int .i64 ((fndN (l.take i) k : Nat) : Int)), (6, .int .i64 ((i : Nat) : Int)), (0, .slice sa_l l.length sc_l), (1, .string k.b)]) (fun i _ Ml => Ml = [] ∧ i ≤ l.length) (fun i => l.length - i) 0 ⟨(iv (by simp [fndN])), eqv, eqv, eqv, trivial⟩ ?_ ?_
 ·exact ⟨rfl, by omega⟩
 rintro i gG1 G1 _ hG1 ⟨rfl, hi⟩
 have hfl := fndN_le (l.take i) k
 have htl : (l.take i).length ≤ i := by simp; omega
 refine WC.seq (WC.seq (WC.region (W.mv (W.mv (W.ok (ok_len sl41 (h_l.mono hG1) rfl) (W.ok (ok_lss rfl rfl) (W.nil (thn_n ?_))))))))
 refine WC.cond (b := _) rfl (fun h10 => ?_) (fun h10 => ?_)
 ·have p10 := of_decide_eq_true h10
  refine WC.skip (thn_n (WC.seq (WC.block (WC.seq (WC.region (W.mv (W.mv ?_)))))))
  have q4 := (h_l.mono hG1).at (i := i) (by omega)
  refine match q4 with | ⟨_, he2, e_3⟩ => ?_
  subst e_3
  refine W.ok (ok_indexAddr (i := i) sl41 ty69 (h_l.mono hG1) rfl rfl ⟨by omega, by omega⟩) (W.ok (ok_fieldE fd69_0 rfl he2.form) (W.ok (ok_loadE (vs := [.string _]) ty9 he2 rfl rfl rfl (by simp)) (W.mv (W.qcall (less_fc _ _) rfl (W.nil (thn_n ?_))))))
  refine WC.cond (b := _) rfl (fun h19 => ?_) (fun h19 => ?_)
  ·refine WC.region (W.mv (W.ok (ok_add rfl rfl (by omega)) (W.as (W.nil (blk_n (thn_n (WC.region (W.mv (W.ok (ok_add rfl rfl (by omega)) (W.as (W.nil (thn_n ?_))))))))))))
   exact ⟨Le.rfl, i + 1, ⟨(iv (by unfold fndN; rw [filt_t (p := fun p : Pair => p.key.lt k) (by omega) (by simpa using h19)]; simp)), eqv, eqv, eqv, trivial⟩, ⟨rfl, by omega⟩, by omega⟩
  refine WC.skip (blk_n (thn_n (WC.region (W.mv (W.ok (ok_add rfl rfl (by omega)) (W.as (W.nil (thn_n ?_))))))))
  exact ⟨Le.rfl, i + 1, ⟨(iv (by unfold fndN; rw [filt_f (p := fun p : Pair => p.key.lt k) (by omega) (by simpa using h19)])), eqv, eqv, eqv, trivial⟩, ⟨rfl, by omega⟩, by omega⟩
 have p10 := of_decide_eq_false h10
 refine WC.exit (thn_x (thn_x (blk_h (thn_n (WC.seq (WC.region (W.mv (W.as (W.nil (thn_n (WC.ret ?_)))))))))))
 refine ⟨.inr rfl, [_], ⟨rfl, trivial⟩, [], sn9, ?_⟩
 exact iv (by rw [List.take_of_length_le (by omega)])

end Go.Proofs.YtebkfinhhpelbaaGreat

namespace Go.Fw
def binsN (p : List Str) (c : List Int) (i : Nat) (k : Str) (v : Int) : List Str × List Int :=
 if c.length ≤ i ∨ (rangeN p (i : Int)).has k = false ∨ k = (rangeN p (i : Int)).lo then ([], []) else ((p.take i ++ [k]) ++ p.drop i, (c.take (i + 1) ++ [v]) ++ c.drop (i + 1))
def bremN (p : List Str) (c : List Int) (i : Nat) : List Str × List Int :=
 if i < 1 ∨ c.length ≤ i ∨ p.length < i then ([], []) else (p.take (i - 1) ++ p.drop i, c.take i ++ c.drop (i + 1))
end Go.Fw

namespace Go.Fw
def adoptN (n : Nd) (i : Nat) (k : Str) (v : Int) : Nd × Bool :=
 if n.level = 0 ∨ (binsN n.pivots n.kids i k v).2.length = 0 then (Nd.zero, false)
 else ({ n with pivots := (binsN n.pivots n.kids i k v).1, kids := (binsN n.pivots n.kids i k v).2 }, true)
end Go.Fw
