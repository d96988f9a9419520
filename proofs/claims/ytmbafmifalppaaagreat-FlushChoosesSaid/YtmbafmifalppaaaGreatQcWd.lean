/- Walks of maps behind messages. -/
import Derived.Test.YtmbafmifalppaaaGreatQcMi
import Derived.Test.YtmbafmifalppaaaGreatQcW9
set_option maxRecDepth 100000
set_option maxHeartbeats 1600000
set_option linter.unusedVariables false
set_option linter.unusedSimpArgs false
set_option linter.unnecessarySimpa false
namespace Go.Proofs.YtmbafmifalppaaaGreat
open Go Go.Fw Go.RowKit
theorem mwithout_fc {G : GH} {v_l : Value} {l : List Pair} (h_l : SlR ePair G v_l l) (slo : Str) (shi : Str) (so : Bool) :
    Fc Tryz.prog 226 [v_l, .agg #[.string slo.b, .string shi.b, .bool so]] G [] (fun v G' M' => M' = [] ∧ ∃ u0, v = u0 ∧ SlR ePair G' u0 (l.filter (fun p : Pair => !Span.has ⟨slo, shi, so⟩ p.key))) := by
 obtain ⟨sa_l, sc_l, rfl⟩ := h_l.form
 refine Fc.intro (rs := [.tmp 4]) cl226 Tryz.func226 rfl Tryz.ntmps226 rfl rfl (fun w0 => ?_)
 refine WC.seq (WC.region (W.box (L := [.string _, .string _, .bool _]) rfl rfl (fun b1 => (W.as (W.nil (thn_n (WC.seq (WC.region (W.mv (W.call (Mp := []) (clonepo_fc h_l) rfl pr9 ?_))))))))))
 rintro v3 G2 Ms4 hG2 ho5
 refine W.perm (pmC pr9).symm (W.giveB (b := b1) (L := [.string _, .string _, .bool _]) pr9 (fun G6 hG6 hc6 => (W.ok (ok_makeFn (fst := []) (caps := [.tmp 3]) (vs := []) (ws := [.pointer (some ⟨b1, 0, none⟩)]) rfl rfl) (W.call (Mp := Ms4) (dfp_fc (ho5.mono hG6) _ _ _ hc6) rfl pr9 ?_))))
 rintro v8 G7 Ms9 hG7 ho10
 refine W.as (W.nil (thn_n (WC.giveO ho10 pr9 (fun G11 hG11 hv11 => (WC.ret ?_)))))
 refine ⟨.inr rfl, [_], ⟨rfl, trivial⟩, [], sn9, ?_⟩
 refine ⟨rfl, _, rfl, ?_⟩
 · exact hv11

theorem mtake_fc {G : GH} {v_l : Value} {l : List Pair} (h_l : SlR ePair G v_l l) (ms : Int) (mk : Int) (mkey : Str) (mhi : Str) (mo : Bool) (mv : Str) (hP : PairsR l) (hn : l.length ≤ 1000000) (hk : Msg.fit (⟨ms, mk, mkey, mhi, mo, mv⟩ : Msg)) :
    Fc Tryz.prog 211 [v_l, .agg #[.int .i64 ms, .int .i64 mk, .string mkey.b, .string mhi.b, .bool mo, .string mv.b]] G [] (fun v G' M' => M' = [] ∧ ∃ u0, v = u0 ∧ SlR ePair G' u0 (takeN l (⟨ms, mk, mkey, mhi, mo, mv⟩ : Msg))) := by
 obtain ⟨sa_l, sc_l, rfl⟩ := h_l.form
 obtain ⟨hk1, hk2, hk3⟩ := hk
 dsimp only at hk1 hk2 hk3
 have hl := h_l.len47
 have hov := on_val (m := (⟨ms, mk, mkey, mhi, mo, mv⟩ : Msg)) mkey hk3
 refine Fc.intro (rs := [.tmp 4]) cl211 Tryz.func211 rfl Tryz.ntmps211 rfl rfl (fun w0 => ?_)
 refine WC.seq (WC.region (W.box (L := [.int .i64 _, .int .i64 _, .string _, .string _, .bool _, .string _]) rfl rfl (fun b12 => (W.as (W.nil (thn_n (WC.seq (WC.seq (WC.region (W.ok (ok_fieldB fd150_1 rfl) (W.ok (ok_loadB (i := 0) (vs := [.int .i64 _]) ty3 rfl rfl rfl rfl (by simp)) (W.ok (ok_eql rfl rfl) (W.nil (thn_n ?_))))))))))))))
 refine WC.cond (b := _) rfl (fun h7 => ?_) (fun h7 => ?_)
 ·have p7 := of_decide_eq_true h7
  refine WC.seq (WC.region (W.mv (W.ok (ok_loadB (i := 0) (vs := [.int .i64 _, .int .i64 _, .string _, .string _, .bool _, .string _]) ty150 rfl rfl rfl rfl (by simp)) (W.qcall (mspan_fc _ _ _ _ _ _ (by first | assumption | omega | (dsimp only; omega))) rfl (W.call (Mp := []) (mwithout_fc h_l (Msg.span (⟨ms, mk, mkey, mhi, mo, mv⟩ : Msg)).lo (Msg.span (⟨ms, mk, mkey, mhi, mo, mv⟩ : Msg)).hi (Msg.span (⟨ms, mk, mkey, mhi, mo, mv⟩ : Msg)).opn) rfl pr9 ?_)))))
  intro _ G13 _ hG13 q15
  refine match q15 with | ⟨e_16, _, e_17, hv14⟩ => ?_
  subst e_16
  subst e_17
  have q19 := hv14.form
  refine match q19 with | ⟨sa_hv14, sc_hv14, e_18⟩ => ?_
  subst e_18
  refine W.as (W.nil (thn_n (WC.ret (thn_r ?_))))
  refine ⟨.inr rfl, [_], ⟨rfl, trivial⟩, [], sn9, ?_⟩
  refine ⟨rfl, _, rfl, ?_⟩
  · have h := hv14; rw [takeN, if_pos p7]; exact h
 have p7 := of_decide_eq_false h7
 refine WC.skip (thn_n (WC.seq (WC.drawW _ sr9.k9 mix (by rintro _ _ _ _ ⟨h | h, _⟩ <;> cases h) (WD.tk 0 rfl (ok_mv) (WD.tk 1 rfl (ok_fieldB fd150_2 rfl) (WD.tk 2 rfl (ok_loadB (i := 0) (vs := [.string _]) ty9 rfl rfl rfl rfl (by simp)) (WD.tk 3 rfl (ok_loadB (i := 0) (vs := [.int .i64 _, .int .i64 _, .string _, .string _, .bool _, .string _]) ty150 rfl rfl rfl rfl (by simp)) (WD.tk 4 rfl (ok_fieldB fd150_2 rfl) (WD.tk 5 rfl (ok_loadB (i := 0) (vs := [.string _]) ty9 rfl rfl rfl rfl (by simp)) (WD.a1 6 rfl (W.qcall (mon_fc ms mk mkey mhi mo mv mkey (by omega)) rfl (W.nil (WD.n9 Le.rfl sr9.k9 (WD.a1 7 rfl (W.call (Mp := []) (mwith_fc h_l mkey (Msg.on (⟨ms, mk, mkey, mhi, mo, mv⟩ : Msg) mkey).kind (Msg.on (⟨ms, mk, mkey, mhi, mo, mv⟩ : Msg) mkey).val hP hn (by omega)) rfl pr9 ?_)))))))))))))))
 intro _ G20 _ hG20 q22
 refine match q22 with | ⟨e_23, _, e_24, hv21⟩ => ?_
 subst e_23
 subst e_24
 have q26 := hv21.form
 refine match q26 with | ⟨sa_hv21, sc_hv21, e_25⟩ => ?_
 subst e_25
 refine W.nil (WD.n9 hG20 sr9.k9 (WD.tk 8 rfl (ok_as) (WD.done (by kernel_rfl) (thn_n (WC.ret ?_)))))
 refine ⟨.inr rfl, [_], ⟨rfl, trivial⟩, [], sn9, ?_⟩
 refine ⟨rfl, _, rfl, ?_⟩
 · have h := hv21; rw [takeN, if_neg p7]; exact h

theorem rtakeF_fc {G : GH} {v_l : Value} {l : List Pair} (h_l : SlR ePair G v_l l) (ms : Int) (mk : Int) (mkey : Str) (mhi : Str) (mo : Bool) (mv : Str) (hP : PairsR l) (hn : l.length ≤ 1000000) (hk : Msg.fit (⟨ms, mk, mkey, mhi, mo, mv⟩ : Msg)) :
    Fc Tryz.prog 152 [v_l, .agg #[.int .i64 ms, .int .i64 mk, .string mkey.b, .string mhi.b, .bool mo, .string mv.b]] G [] (fun v G' M' => M' = [] ∧ ∃ u0, v = u0 ∧ SlR ePair G' u0 (takeN l (⟨ms, mk, mkey, mhi, mo, mv⟩ : Msg))) := by
 obtain ⟨sa_l, sc_l, rfl⟩ := h_l.form
 obtain ⟨hk1, hk2, hk3⟩ := hk
 dsimp only at hk1 hk2 hk3
 have hl := h_l.len47
 have hov := on_val (m := (⟨ms, mk, mkey, mhi, mo, mv⟩ : Msg)) mkey hk3
 refine Fc.intro (rs := [.tmp 4]) cl152 Tryz.func152 rfl Tryz.ntmps152 rfl rfl (fun w0 => ?_)
 refine WC.seq (WC.region (W.box (L := [.int .i64 _, .int .i64 _, .string _, .string _, .bool _, .string _]) rfl rfl (fun b27 => (W.as (W.nil (thn_n (WC.seq (WC.seq (WC.region (W.ok (ok_fieldB fd150_1 rfl) (W.ok (ok_loadB (i := 0) (vs := [.int .i64 _]) ty3 rfl rfl rfl rfl (by simp)) (W.ok (ok_neq rfl rfl) (W.nil (thn_n ?_))))))))))))))
 refine WC.cond (b := _) rfl (fun h9 => ?_) (fun h9 => ?_)
 ·have p9 := nd_t h9
  refine WC.seq (WC.drawW _ sr9.k9 mix (by rintro _ _ _ _ ⟨h | h, _⟩ <;> cases h) (WD.tk 0 rfl (ok_mv) (WD.tk 1 rfl (ok_fieldB fd150_2 rfl) (WD.tk 2 rfl (ok_loadB (i := 0) (vs := [.string _]) ty9 rfl rfl rfl rfl (by simp)) (WD.tk 3 rfl (ok_loadB (i := 0) (vs := [.int .i64 _, .int .i64 _, .string _, .string _, .bool _, .string _]) ty150 rfl rfl rfl rfl (by simp)) (WD.tk 4 rfl (ok_fieldB fd150_2 rfl) (WD.tk 5 rfl (ok_loadB (i := 0) (vs := [.string _]) ty9 rfl rfl rfl rfl (by simp)) (WD.a1 6 rfl (W.qcall (ron_fc ms mk mkey mhi mo mv mkey (by omega)) rfl (W.nil (WD.n9 Le.rfl sr9.k9 (WD.a1 7 rfl (W.call (Mp := []) (rwith_fc h_l mkey (Msg.on (⟨ms, mk, mkey, mhi, mo, mv⟩ : Msg) mkey).kind (Msg.on (⟨ms, mk, mkey, mhi, mo, mv⟩ : Msg) mkey).val hP hn (by omega)) rfl pr9 ?_)))))))))))))
  intro _ G28 _ hG28 q30
  refine match q30 with | ⟨e_31, _, e_32, hv29⟩ => ?_
  subst e_31
  subst e_32
  have q34 := hv29.form
  refine match q34 with | ⟨sa_hv29, sc_hv29, e_33⟩ => ?_
  subst e_33
  refine W.nil (WD.n9 hG28 sr9.k9 (WD.tk 8 rfl (ok_as) (WD.done (by kernel_rfl) (thn_n (WC.ret (thn_r ?_))))))
  refine ⟨.inr rfl, [_], ⟨rfl, trivial⟩, [], sn9, ?_⟩
  refine ⟨rfl, _, rfl, ?_⟩
  · have h := hv29; rw [takeN, if_neg (by simpa using h9)]; exact h
 have p9 := nd_f h9
 refine WC.skip (thn_n (WC.seq (WC.region (W.as (W.nil (thn_n (WC.seq (WC.seq (WC.region (W.as (W.nil (thn_n (WC.block ?_)))))))))))))
 refine WC.loop (X := (Nat) × Value × MH) (fun i => [(6, .int .i64 ((i.1 : Nat) : Int)), (3, .pointer (some ⟨b27, 0, none⟩)), (0, .slice sa_l l.length sc_l), (5, i.2.1)]) (fun i G Ml => Ml = ((b27, .cells (List.toArray [.int .i64 ms, .int .i64 mk, .string mkey.b, .string mhi.b, .bool mo, .string mv.b]) 150 (0, 0)) :: (i.2.2 ++ [])) ∧ OwnR ePair 120 G i.2.1 (List.filter (fun p : Pair => !(Msg.span (⟨ms, mk, mkey, mhi, mo, mv⟩ : Msg)).has p.key) (l.take i.1)) i.2.2 ∧ i.1 ≤ l.length) (fun i => l.length - i.1) (0, .slice none 0 0, ([] : MH)) ⟨eqv, eqv, eqv, eqv, trivial⟩ ?_ ?_
 ·exact ⟨rfl, (by simpa using OwnR.nil), by omega⟩
 rintro ⟨i, v_5, M_5⟩ gG35 G35 _ hG35 ⟨rfl, ho_5, hi⟩
 try dsimp only at ho_5 hi
 have hfl := filt_le (fun p : Pair => !(Msg.span (⟨ms, mk, mkey, mhi, mo, mv⟩ : Msg)).has p.key) l i
 refine WC.fr (f := setL gG35 [(6, .int .i64 ((i : Nat) : Int)), (3, .pointer (some ⟨b27, 0, none⟩)), (0, .slice sa_l l.length sc_l), (5, v_5)]) rfl (WC.seq (WC.seq (WC.region (W.mv (W.mv (W.ok (ok_len sl41 (h_l.mono hG35) rfl) (W.ok (ok_lss rfl rfl) (W.nil (thn_n ?_)))))))))
 refine WC.cond (b := _) rfl (fun h21 => ?_) (fun h21 => ?_)
 ·have p21 := of_decide_eq_true h21
  refine WC.skip (thn_n (WC.seq (WC.block (WC.seq (WC.draw mix (by kernel_rfl) (W.ok (ok_loadB (i := 0) (vs := [.int .i64 _, .int .i64 _, .string _, .string _, .bool _, .string _]) ty150 rfl rfl rfl rfl (by simp)) (W.qcall (rspan_fc _ _ _ _ _ _ (by first | assumption | omega | (dsimp only; omega))) rfl (W.mv (W.mv ?_)))))))))
  have q38 := (h_l.mono hG35).at (i := i) (by omega)
  refine match q38 with | ⟨_, he36, e_37⟩ => ?_
  subst e_37
  refine W.ok (ok_indexAddr (i := i) sl41 ty120 (h_l.mono hG35) rfl rfl ⟨by omega, by omega⟩) (W.ok (ok_fieldE fd120_0 rfl he36.form) (W.ok (ok_loadE (vs := [.string _]) ty9 he36 rfl rfl rfl (by simp)) (W.qcall (has_fc _ _ _ _) rfl (W.ok (ok_not rfl) (W.nil (thn_n ?_))))))
  refine WC.cond (b := _) rfl (fun h32 => ?_) (fun h32 => ?_)
  ·refine WC.region (W.mv (W.mv (W.mv ?_)))
   have q41 := (h_l.mono hG35).at (i := i) (by omega)
   refine match q41 with | ⟨_, he39, e_40⟩ => ?_
   subst e_40
   refine W.ok (ok_indexAddr (i := i) sl41 ty120 (h_l.mono hG35) rfl rfl ⟨by omega, by omega⟩) (W.ok (ok_loadE (vs := [.string _, .string _]) ty120 he39 rfl rfl rfl (by simp)) (W.lit (e := ePair) (l := [((l)[i])]) (css := [[.string _, .string _]]) sl41 ty120 zr120 rfl rfl rfl rfl rfl rfl ⟨rfl, trivial⟩ (fun bl42 G42 hG42 hv42 => (W.app (e := ePair) sl41 ty120 zr120 rfl by120 rfl rfl ((ho_5.mono hG42)) (hv42) (pmC pr9) (by show (_ + 1) * 32 ≤ _; (try simp only [List.length_append] at *); omega) (fun v43 Ms44 ho45 => (W.perm (pmC pr9).symm (W.as (W.nil (blk_n (thn_n (WC.region (W.mv (W.ok (ok_add rfl rfl (by omega)) (W.as (W.nil (thn_n ?_))))))))))))))))
   exact ⟨hG42, (i + 1, v43, Ms44), ⟨eqv, eqv, eqv, eqv, trivial⟩, ⟨rfl, (by have h := ho45; rw [filt_t (p := (fun p : Pair => !(Msg.span (⟨ms, mk, mkey, mhi, mo, mv⟩ : Msg)).has p.key)) (by omega) (by simpa using h32)]; exact h), by omega⟩, by omega⟩
  refine WC.skip (blk_n (thn_n (WC.region (W.mv (W.ok (ok_add rfl rfl (by omega)) (W.as (W.nil (thn_n ?_))))))))
  exact ⟨Le.rfl, (i + 1, v_5, M_5), ⟨eqv, eqv, eqv, eqv, trivial⟩, ⟨rfl, (by have h := ho_5; rw [filt_f (p := (fun p : Pair => !(Msg.span (⟨ms, mk, mkey, mhi, mo, mv⟩ : Msg)).has p.key)) (by omega) (by simpa using h32)]; exact h), by omega⟩, by omega⟩
 have p21 := of_decide_eq_false h21
 refine WC.exit (thn_x (thn_x (blk_h (thn_n (WC.seq (WC.region (W.mv (W.as (W.nil (thn_n (WC.giveO ho_5 (pmC pr9) (fun G46 hG46 hv46 => (WC.ret ?_)))))))))))))
 refine ⟨.inr rfl, [_], ⟨rfl, trivial⟩, [], sn9, ?_⟩
 refine ⟨rfl, _, rfl, ?_⟩
 · have h := hv46; rw [List.take_of_length_le (by omega)] at h; rw [takeN, if_pos (by simpa using h9)]; exact h

theorem rfoldF_fc {G : GH} {v_l : Value} {l : List Pair} (h_l : SlR ePair G v_l l) {v_ms : Value} {ms : List Msg} (h_ms : SlR eMsg G v_ms ms) (hP : PairsR l) (hn : l.length + ms.length ≤ 1000000) (hm : ∀ m ∈ ms, m.fit) :
    Fc Tryz.prog 104 [v_l, v_ms] G [] (fun v G' M' => M' = [] ∧ ∃ u0, v = u0 ∧ SlR ePair G' u0 (foldN l ms)) := by
 obtain ⟨sa_l, sc_l, rfl⟩ := h_l.form
 obtain ⟨sa_ms, sc_ms, rfl⟩ := h_ms.form
 have hl := h_l.len47
 have hlm := h_ms.len47
 refine Fc.intro (rs := [.tmp 4]) cl104 Tryz.func104 rfl Tryz.ntmps104 rfl rfl (fun w0 => ?_)
 refine WC.seq (WC.region (W.as (W.nil (thn_n (WC.seq (WC.region (W.lit0 (e := ePair) sl41 ty120 zr120 rfl (fun v47 Ms48 ho49 => (W.mv (W.app (e := ePair) sl41 ty120 zr120 rfl by120 rfl rfl (ho49) (h_l) pr9 (by show (0 + _) * 32 ≤ _; omega) (fun v50 Ms51 ho52 => (W.as (W.nil (thn_n (WC.seq (WC.seq (WC.region ?_)))))))))))))))))
 refine W.as (W.nil (thn_n (WC.block (WC.giveO (ho52) pr9 (fun G53 hG53 hv53 => ?_)))))
 refine WC.loop (X := (Nat) × Value) (fun k => [(6, .int .i64 ((k.1 : Nat) : Int)), (1, .slice sa_ms ms.length sc_ms), (5, k.2)]) (fun k G Ml => Ml = [] ∧ SlR ePair G k.2 (foldN l (ms.take k.1)) ∧ k.1 ≤ ms.length) (fun k => ms.length - k.1) (0, v50) ⟨eqv, eqv, eqv, trivial⟩ ?_ ?_
 ·exact ⟨rfl, (by simpa [foldN] using hv53), by omega⟩
 rintro ⟨k, v_5⟩ gG54 G54 _ hG54 ⟨rfl, ho_5, hk⟩
 try dsimp only at ho_5 hk
 have hPk := PairsR.foldF (ms := ms.take k) hP (fun m h => hm m (List.mem_of_mem_take h))
 have hnk := fold_lenF (ms := ms.take k) hP (fun m h => hm m (List.mem_of_mem_take h))
 have hkl : (ms.take k).length ≤ k := by simp; omega
 refine WC.fr (f := setL gG54 [(6, .int .i64 ((k : Nat) : Int)), (1, .slice sa_ms ms.length sc_ms), (5, v_5)]) rfl (WC.seq (WC.seq (WC.region (W.mv (W.mv (W.ok (ok_len sl40 (h_ms.mono (hG53.trans hG54)) rfl) (W.ok (ok_lss rfl rfl) (W.nil (thn_n ?_)))))))))
 refine WC.cond (b := _) rfl (fun h13 => ?_) (fun h13 => ?_)
 ·have p13 := of_decide_eq_true h13
  refine WC.skip (thn_n (WC.seq (WC.block (WC.region (W.mv (W.mv (W.mv ?_)))))))
  have q59 := (h_ms.mono (hG53.trans hG54)).at (i := k) (by omega)
  refine match q59 with | ⟨_, he55, ⟨e_58, hm56⟩⟩ => ?_
  subst e_58
  refine W.ok (ok_indexAddr (i := k) sl40 ty150 (h_ms.mono (hG53.trans hG54)) rfl rfl ⟨by omega, by omega⟩) (W.ok (ok_loadE (vs := [.int .i64 _, .int .i64 _, .string _, .string _, .bool _, .string _]) ty150 he55 rfl rfl rfl (by simp)) (W.call (Mp := []) (rtakeF_fc ho_5 ms[k].stamp ms[k].kind ms[k].key ms[k].hi ms[k].opn ms[k].val hPk (by omega) (hm _ (List.getElem_mem _))) rfl pr9 ?_))
  intro _ G60 _ hG60 q62
  refine match q62 with | ⟨e_63, _, e_64, hv61⟩ => ?_
  subst e_63
  subst e_64
  have q66 := hv61.form
  refine match q66 with | ⟨sa_hv61, sc_hv61, e_65⟩ => ?_
  subst e_65
  refine W.as (W.nil (blk_n (thn_n (WC.region (W.mv (W.ok (ok_add rfl rfl (by omega)) (W.as (W.nil (thn_n ?_)))))))))
  exact ⟨hG60, (k + 1, .slice sa_hv61 (takeN (foldN l (ms.take k)) ms[k]).length sc_hv61), ⟨eqv, eqv, eqv, trivial⟩, ⟨rfl, (by have h := hv61; rw [foldN_succ (by omega)]; exact h), by omega⟩, by omega⟩
 have p13 := of_decide_eq_false h13
 refine WC.exit (thn_x (thn_x (blk_h (thn_n (WC.seq (WC.region (W.mv (W.as (W.nil (thn_n (WC.ret ?_)))))))))))
 refine ⟨.inr rfl, [_], ⟨rfl, trivial⟩, [], sn9, ?_⟩
 refine ⟨rfl, _, rfl, ?_⟩
 · have h := ho_5; rw [List.take_of_length_le (by omega)] at h; exact h

end Go.Proofs.YtmbafmifalppaaaGreat
namespace Go.Proofs.YtmbafmifalppaaaGreat
open Go Go.Fw Go.RowKit

abbrev LeastR (b : Nat) (Tb : TypeId) (c0 c1 : Value) (G : GH) (l : List Int) (M : MH) : Prop := ∃ v Ms, M = (b, .cells (List.toArray [c0, c1, v]) Tb (0, 0)) :: Ms ∧ OwnR eInt 3 G v l Ms
abbrev HeadsR (b : Nat) (Tb : TypeId) (G : GH) (l : List Hd) (M : MH) : Prop := (∀ h ∈ l, 0 < h.1.length) ∧ ∃ v Ms, M = (b, .cells (List.toArray [v]) Tb (0, 0)) :: Ms ∧ OwnR eHead 265 G v l Ms
abbrev HeadV (G : GH) (u : Value) (a : Hd) : Prop := (∃ p c, u = .iface 265 (.agg (List.toArray [.slice p a.1.length c, .int .i64 a.2])) ∧ SlR eMsg G (.slice p a.1.length c) a.1 ∧ i64 a.2) ∧ 0 < a.1.length
end Go.Proofs.YtmbafmifalppaaaGreat
namespace Go.Proofs.YtmbafmifalppaaaGreat
open Go Go.Fw Go.RowKit
theorem erows_fc {G : GH} (ek : Int) (ev : Str) :
    Fc Tryz.prog 236 [.agg #[.int .i64 ek, .string ev.b]] G [] (fun v _ _ => v = .bool (decide (ek = 1) || decide (ek = 2))) := by
 refine Fc.intro (rs := [.tmp 2]) cl236 Tryz.func236 rfl Tryz.ntmps236 rfl rfl (fun w0 => ?_)
 refine WC.seq (WC.region (W.box (L := [.int .i64 _, .string _]) rfl rfl (fun b1 => (W.as (W.nil (thn_n (WC.seq (WC.region (W.ok (ok_fieldB fd242_0 rfl) (W.ok (ok_loadB (i := 0) (vs := [.int .i64 _]) ty3 rfl rfl rfl rfl (by simp)) (W.ok (ok_eql rfl rfl) (W.mv ?_))))))))))))
 refine W.sp 6 rfl (fun h5 => ?_) (fun h5 => ?_)
 ·have p5 := of_decide_eq_true h5
  refine W.no (dj := 6) rfl rfl h5 (W.no (dj := 6) rfl rfl h5 (W.no (dj := 6) rfl rfl h5 (W.ok (ok_pick_t rfl h5) (W.as (W.nil (thn_n (WC.ret ?_)))))))
  refine ⟨.inr rfl, [_], ⟨rfl, trivial⟩, [], sn9, ?_⟩
  refine congrArg Value.bool ?_
  simp_all
 have p5 := of_decide_eq_false h5
 refine W.yes (dj := 6) rfl rfl h5 (W.ok (ok_fieldB fd242_0 rfl) (W.yes (dj := 6) rfl rfl h5 (W.ok (ok_loadB (i := 0) (vs := [.int .i64 _]) ty3 rfl rfl rfl rfl (by simp)) (W.yes (dj := 6) rfl rfl h5 (W.ok (ok_eql rfl rfl) (W.ok (ok_pick_f rfl h5) (W.as (W.nil (thn_n (WC.ret ?_))))))))))
 refine ⟨.inr rfl, [_], ⟨rfl, trivial⟩, [], sn9, ?_⟩
 refine congrArg Value.bool ?_
 simp_all

theorem rowfits_fc {G : GH} {v_l : Value} {l : List Pair} (h_l : SlR ePair G v_l l) (k : Str) (ek : Int) (ev : Str) (n : Int) (hr : Srt l) :
    Fc Tryz.prog 225 [v_l, .string k.b, .agg #[.int .i64 ek, .string ev.b], .int .i64 n] G [] (fun v _ _ => v = .bool (fitsN l k (⟨ek, ev⟩ : Eff) n)) := by
 obtain ⟨sa_l, sc_l, rfl⟩ := h_l.form
 refine Fc.intro (rs := [.tmp 8]) cl225 Tryz.func225 rfl Tryz.ntmps225 rfl rfl (fun w0 => ?_)
 refine WC.seq (WC.region (W.box (L := [.int .i64 _, .string _]) rfl rfl (fun b2 => (W.as (W.nil (thn_n (WC.seq (WC.region (W.mv (W.mv (W.qcall (rfind_fc h_l _ (by assumption)) rfl (W.mv (W.ok (ok_extract rfl rfl) (W.ok (ok_extract rfl rfl) (W.as ?_)))))))))))))))
 refine W.as (W.nil (thn_n (WC.seq (WC.region (W.mv (W.mv ?_))))))
 refine W.sp 18 rfl (fun h14_1 => ?_) (fun h14_1 => ?_)
 ·refine W.no (dj := 18) rfl rfl h14_1 (W.no (dj := 18) rfl rfl h14_1 (W.no (dj := 18) rfl rfl h14_1 (W.ok (ok_pick_t rfl h14_1) (W.mv (W.no (dj := 23) rfl rfl rfl (W.no (dj := 23) rfl rfl rfl (W.no (dj := 23) rfl rfl rfl (W.no (dj := 23) rfl rfl rfl (W.ok (ok_pick_t rfl rfl) (W.as (W.nil (thn_n (WC.ret ?_)))))))))))))
  refine ⟨.inr rfl, [_], ⟨rfl, trivial⟩, [], sn9, ?_⟩
  refine congrArg Value.bool ?_
  simp_all [fitsN]
 refine W.yes (dj := 18) rfl rfl h14_1 (W.ok (ok_loadB (i := 0) (vs := [.int .i64 _, .string _]) ty242 rfl rfl rfl rfl (by simp)) (W.yes (dj := 18) rfl rfl h14_1 (W.qcall (erows_fc _ _) rfl (W.yes (dj := 18) rfl rfl h14_1 (W.ok (ok_not rfl) (W.ok (ok_pick_f rfl h14_1) (W.mv ?_)))))))
 refine W.sp 23 rfl (fun h21 => ?_) (fun h21 => ?_)
 ·refine W.no (dj := 23) rfl rfl h21 (W.no (dj := 23) rfl rfl h21 (W.no (dj := 23) rfl rfl h21 (W.no (dj := 23) rfl rfl h21 (W.ok (ok_pick_t rfl h21) (W.as (W.nil (thn_n (WC.ret ?_))))))))
  refine ⟨.inr rfl, [_], ⟨rfl, trivial⟩, [], sn9, ?_⟩
  refine congrArg Value.bool ?_
  simp_all [fitsN]
 refine W.yes (dj := 23) rfl rfl h21 (W.mv (W.yes (dj := 23) rfl rfl h21 (W.ok (ok_len sl41 h_l rfl) (W.yes (dj := 23) rfl rfl h21 (W.mv (W.yes (dj := 23) rfl rfl h21 (W.ok (ok_lss rfl rfl) (W.ok (ok_pick_f rfl h21) (W.as (W.nil (thn_n (WC.ret ?_))))))))))))
 refine ⟨.inr rfl, [_], ⟨rfl, trivial⟩, [], sn9, ?_⟩
 refine congrArg Value.bool ?_
 simp_all [fitsN]

theorem leaffits_fc {G : GH} {v_l : Value} {l : List Pair} (h_l : SlR ePair G v_l l) (ms : Int) (mk : Int) (mkey : Str) (mhi : Str) (mo : Bool) (mv : Str) (n : Int) (hP : PairsR l) (hk : Msg.fit (⟨ms, mk, mkey, mhi, mo, mv⟩ : Msg)) :
    Fc Tryz.prog 210 [v_l, .agg #[.int .i64 ms, .int .i64 mk, .string mkey.b, .string mhi.b, .bool mo, .string mv.b], .int .i64 n] G [] (fun v _ _ => v = .bool (lfitsN l (⟨ms, mk, mkey, mhi, mo, mv⟩ : Msg) n)) := by
 obtain ⟨sa_l, sc_l, rfl⟩ := h_l.form
 have hk1 := hk.1
 dsimp only at hk1
 have hr := hP.srt
 have hl := h_l.len47
 refine Fc.intro (rs := [.tmp 6]) cl210 Tryz.func210 rfl Tryz.ntmps210 rfl rfl (fun w0 => ?_)
 refine WC.seq (WC.region (W.box (L := [.int .i64 _, .int .i64 _, .string _, .string _, .bool _, .string _]) rfl rfl (fun b3 => (W.as (W.nil (thn_n (WC.seq (WC.draw mix (by kernel_rfl) (W.ok (ok_fieldB fd150_1 rfl) (W.ok (ok_loadB (i := 0) (vs := [.int .i64 _]) ty3 rfl rfl rfl rfl (by simp)) (W.ok (ok_eql rfl rfl) (W.mv ?_))))))))))))
 refine W.sp 10 rfl (fun h9 => ?_) (fun h9 => ?_)
 ·have p9 := of_decide_eq_true h9
  refine W.no (dj := 10) rfl rfl h9 (W.no (dj := 10) rfl rfl h9 (W.no (dj := 10) rfl rfl h9 (W.no (dj := 10) rfl rfl h9 (W.no (dj := 10) rfl rfl h9 (W.no (dj := 10) rfl rfl h9 (W.no (dj := 10) rfl rfl h9 (W.no (dj := 10) rfl rfl h9 (W.no (dj := 10) rfl rfl h9 (W.ok (ok_pick_t rfl h9) (W.as (W.nil (thn_n (WC.ret ?_)))))))))))))
  refine ⟨.inr rfl, [_], ⟨rfl, trivial⟩, [], sn9, ?_⟩
  refine congrArg Value.bool ?_
  simp_all [lfitsN]
 have p9 := of_decide_eq_false h9
 refine W.yes (dj := 10) rfl rfl h9 (W.mv (W.yes (dj := 10) rfl rfl h9 (W.ok (ok_fieldB fd150_2 rfl) (W.yes (dj := 10) rfl rfl h9 (W.ok (ok_loadB (i := 0) (vs := [.string _]) ty9 rfl rfl rfl rfl (by simp)) (W.yes (dj := 10) rfl rfl h9 (W.ok (ok_loadB (i := 0) (vs := [.int .i64 _, .int .i64 _, .string _, .string _, .bool _, .string _]) ty150 rfl rfl rfl rfl (by simp)) (W.yes (dj := 10) rfl rfl h9 (W.ok (ok_fieldB fd150_2 rfl) (W.yes (dj := 10) rfl rfl h9 (W.ok (ok_loadB (i := 0) (vs := [.string _]) ty9 rfl rfl rfl rfl (by simp)) (W.yes (dj := 10) rfl rfl h9 (W.qcall (mon_fc ms mk mkey mhi mo mv mkey (by omega)) rfl ?_)))))))))))))
 refine W.yes (dj := 10) rfl rfl h9 (W.mv (W.yes (dj := 10) rfl rfl h9 (W.qcall (rowfits_fc h_l _ _ _ _ (by assumption)) rfl (W.ok (ok_pick_f rfl h9) (W.as (W.nil (thn_n (WC.ret ?_))))))))
 refine ⟨.inr rfl, [_], ⟨rfl, trivial⟩, [], sn9, ?_⟩
 refine congrArg Value.bool ?_
 simp_all [lfitsN]

theorem fits20_fc {G : GH} {v_l : Value} {l : List Pair} (h_l : SlR ePair G v_l l) (ms : Int) (mk : Int) (mkey : Str) (mhi : Str) (mo : Bool) (mv : Str) (n : Int) :
    Fc Tryz.prog 200 [v_l, .agg #[.int .i64 ms, .int .i64 mk, .string mkey.b, .string mhi.b, .bool mo, .string mv.b], .int .i64 n] G [] (fun v _ _ => v = .bool (rfits20N l (⟨ms, mk, mkey, mhi, mo, mv⟩ : Msg) n)) := by
 obtain ⟨sa_l, sc_l, rfl⟩ := h_l.form
 refine Fc.intro (rs := [.tmp 6]) cl200 Tryz.func200 rfl Tryz.ntmps200 rfl rfl (fun w0 => ?_)
 refine WC.seq (WC.region (W.box (L := [.int .i64 _, .int .i64 _, .string _, .string _, .bool _, .string _]) rfl rfl (fun b4 => (W.as (W.nil (thn_n (WC.seq (WC.region (W.mv (W.ok (ok_fieldB fd150_2 rfl) (W.ok (ok_loadB (i := 0) (vs := [.string _]) ty9 rfl rfl rfl rfl (by simp)) (W.qcall (rget_fc h_l _) rfl (W.mv (W.ok (ok_extract rfl rfl) (W.ok (ok_extract rfl rfl) ?_)))))))))))))))
 refine W.as (W.as (W.nil (thn_n (WC.seq (WC.region (W.ok (ok_fieldB fd150_1 rfl) (W.ok (ok_loadB (i := 0) (vs := [.int .i64 _]) ty3 rfl rfl rfl rfl (by simp)) (W.ok (ok_geq rfl rfl) (W.mv ?_)))))))))
 refine W.sp 19 rfl (fun h18 => ?_) (fun h18 => ?_)
 ·have p18 := of_decide_eq_true h18
  refine W.no (dj := 19) rfl rfl h18 (W.ok (ok_pick_t rfl h18) (W.mv (W.no (dj := 22) rfl rfl rfl (W.no (dj := 22) rfl rfl rfl (W.no (dj := 22) rfl rfl rfl (W.no (dj := 22) rfl rfl rfl (W.ok (ok_pick_t rfl rfl) (W.as (W.nil (thn_n (WC.ret ?_)))))))))))
  refine ⟨.inr rfl, [_], ⟨rfl, trivial⟩, [], sn9, ?_⟩
  refine congrArg Value.bool ?_
  first | (simp_all [rfits20N]; done) | (simp_all [rfits20N]; omega)
 have p18 := of_decide_eq_false h18
 refine W.yes (dj := 19) rfl rfl h18 (W.mv (W.ok (ok_pick_f rfl h18) (W.mv ?_)))
 refine W.sp 22 rfl (fun h13_1 => ?_) (fun h13_1 => ?_)
 ·refine W.no (dj := 22) rfl rfl h13_1 (W.no (dj := 22) rfl rfl h13_1 (W.no (dj := 22) rfl rfl h13_1 (W.no (dj := 22) rfl rfl h13_1 (W.ok (ok_pick_t rfl h13_1) (W.as (W.nil (thn_n (WC.ret ?_))))))))
  refine ⟨.inr rfl, [_], ⟨rfl, trivial⟩, [], sn9, ?_⟩
  refine congrArg Value.bool ?_
  first | (simp_all [rfits20N]; done) | (simp_all [rfits20N]; omega)
 refine W.yes (dj := 22) rfl rfl h13_1 (W.mv (W.yes (dj := 22) rfl rfl h13_1 (W.ok (ok_len sl41 h_l rfl) (W.yes (dj := 22) rfl rfl h13_1 (W.mv (W.yes (dj := 22) rfl rfl h13_1 (W.ok (ok_lss rfl rfl) (W.ok (ok_pick_f rfl h13_1) (W.as (W.nil (thn_n (WC.ret ?_))))))))))))
 refine ⟨.inr rfl, [_], ⟨rfl, trivial⟩, [], sn9, ?_⟩
 refine congrArg Value.bool ?_
 first | (simp_all [rfits20N]; done) | (simp_all [rfits20N]; omega)

theorem leaftake_fc {G : GH} {v_l : Value} {l : List Pair} (h_l : SlR ePair G v_l l) (ms : Int) (mk : Int) (mkey : Str) (mhi : Str) (mo : Bool) (mv : Str) (n : Int) (hP : PairsR l) (hn : l.length ≤ 1000000) (hk : Msg.fit (⟨ms, mk, mkey, mhi, mo, mv⟩ : Msg)) :
    Fc Tryz.prog 195 [v_l, .agg #[.int .i64 ms, .int .i64 mk, .string mkey.b, .string mhi.b, .bool mo, .string mv.b], .int .i64 n] G [] (fun v G' M' => M' = [] ∧ ∃ r : List Pair × Bool, r = leafTakeN l (⟨ms, mk, mkey, mhi, mo, mv⟩ : Msg) n ∧ ∃ u0, v = .tuple #[u0, .bool (r.2)] ∧ SlR ePair G' u0 (r.1)) := by
 obtain ⟨sa_l, sc_l, rfl⟩ := h_l.form
 refine Fc.intro (rs := [.tmp 6, .tmp 7]) cl195 Tryz.func195 rfl Tryz.ntmps195 rfl rfl (fun w0 => ?_)
 refine WC.seq (WC.region (W.box (L := [.int .i64 _, .int .i64 _, .string _, .string _, .bool _, .string _]) rfl rfl (fun b5 => (W.as (W.as (W.nil (thn_n (WC.seq (WC.seq (WC.region (W.mv (W.ok (ok_loadB (i := 0) (vs := [.int .i64 _, .int .i64 _, .string _, .string _, .bool _, .string _]) ty150 rfl rfl rfl rfl (by simp)) (W.mv (W.qcall (leaffits_fc h_l _ _ _ _ _ _ _ (by first | assumption | omega | (simp; omega) | (exact PairsR.fold (by assumption) (by assumption))) (by first | assumption | exact fit_of (by assumption))) rfl (W.ok (ok_not rfl) ?_)))))))))))))))
 refine W.nil (thn_n ?_)
 refine WC.cond (b := _) rfl (fun h12 => ?_) (fun h12 => ?_)
 ·refine WC.seq (WC.region (W.as (W.as (W.nil (thn_n (WC.ret (thn_r ?_)))))))
  refine ⟨.inr rfl, [_, _], ⟨rfl, rfl, trivial⟩, [], sn9, ?_⟩
  refine ⟨rfl, _, (leafTakeN_f (by simpa using h12)).symm, _, rfl, ?_⟩
  · exact SlR.nil
 refine WC.skip (thn_n (WC.seq (WC.region (W.mv (W.ok (ok_loadB (i := 0) (vs := [.int .i64 _, .int .i64 _, .string _, .string _, .bool _, .string _]) ty150 rfl rfl rfl rfl (by simp)) (W.call (Mp := []) (mtake_fc h_l _ _ _ _ _ _ (by first | assumption | omega | (simp; omega) | (exact PairsR.fold (by assumption) (by assumption))) (by first | assumption | omega | (simp; omega) | (exact PairsR.fold (by assumption) (by assumption))) (by first | assumption | exact fit_of (by assumption))) rfl pr9 ?_))))))
 intro _ G6 _ hG6 q8
 refine match q8 with | ⟨e_9, _, e_10, hv7⟩ => ?_
 subst e_9
 subst e_10
 have q12 := hv7.form
 refine match q12 with | ⟨sa_hv7, sc_hv7, e_11⟩ => ?_
 subst e_11
 refine W.as (W.as (W.nil (thn_n (WC.ret ?_))))
 refine ⟨.inr rfl, [_, _], ⟨rfl, rfl, trivial⟩, [], sn9, ?_⟩
 refine ⟨rfl, _, (leafTakeN_t (by simpa using h12)).symm, _, rfl, ?_⟩
 · exact hv7

end Go.Proofs.YtmbafmifalppaaaGreat

namespace Go.Fw
def binsN (p : List Str) (c : List Int) (i : Nat) (k : Str) (v : Int) : List Str × List Int :=
 if c.length ≤ i ∨ (rangeN p (i : Int)).has k = false ∨ k = (rangeN p (i : Int)).lo then ([], []) else ((p.take i ++ [k]) ++ p.drop i, (c.take (i + 1) ++ [v]) ++ c.drop (i + 1))
def bremN (p : List Str) (c : List Int) (i : Nat) : List Str × List Int :=
 if i < 1 ∨ c.length ≤ i ∨ p.length < i then ([], []) else (p.take (i - 1) ++ p.drop i, c.take i ++ c.drop (i + 1))
theorem range_in {p : List Str} {i : Nat} {k : Str} (h : (rangeN p (i : Int)).has k = true) : i ≤ p.length := by
 by_cases h2 : i ≤ p.length
 ·exact h2
 ·rw [rangeN_out (by omega)] at h
  have : Span.zero.has k = false := by
   simp only [Span.zero, Span.has]
   cases h3 : k.lt Str.nil
   ·simp
   ·simp
  rw [this] at h; cases h
theorem range_within {p : List Str} {i : Nat} {k : Str} (h : (rangeN p (i : Int)).has k = true) (h2 : ¬ k = (rangeN p (i : Int)).lo) :
  (∀ h : 0 < i ∧ i - 1 < p.length, (p[i - 1]'h.2).lt k = true) ∧ (∀ h : i < p.length, k.lt p[i] = true) := by
 have hi := range_in h
 have e := rangeN_in (l := p) (i := (i : Int)) (by omega) (by omega)
 have h0 := h
 rw [e, norm_has] at h
 simp only [Span.has, Bool.and_eq_true, Bool.or_eq_true, Bool.not_eq_true', decide_eq_true_eq] at h
 obtain ⟨h3, h4⟩ := h
 have hhi : ∀ h : i < p.length, k.lt p[i] = true := fun hlt => by
  rcases h4 with h4 | h4
  ·omega
  ·rw [show ((i : Int)).toNat = i from rfl, getD_in (d := Str.nil) hlt] at h4; exact h4
 refine ⟨fun ⟨h5, h6⟩ => ?_, hhi⟩
 rw [if_pos (by omega), show ((i : Int) - 1).toNat = i - 1 from by omega, getD_in (d := Str.nil) h6] at h3
 cases hlt : (p[i - 1]'h6).lt k
 ·exfalso
  have hke : k = p[i - 1]'h6 := Str.lt_total h3 hlt
  apply h2
  rw [e, if_pos (by omega), show ((i : Int) - 1).toNat = i - 1 from by omega, getD_in (d := Str.nil) h6]
  unfold Span.norm
  split
  ·rename_i hem
   exfalso
   simp only [Span.empty, Bool.and_eq_true, Bool.not_eq_true', decide_eq_false_iff_not] at hem
   have := h4.resolve_left (by omega)
   rw [hke] at this
   simp_all
  ·split <;> exact hke
 ·rfl
theorem bins_right {p : List Str} {c : List Int} {i : Nat} {k : Str} {v : Int} (hr : rightN p c.length = true) (hi : i < c.length) (h : (rangeN p (i : Int)).has k = true) (h2 : ¬ k = (rangeN p (i : Int)).lo) :
  rightN ((p.take i ++ [k]) ++ p.drop i) ((c.take (i + 1) ++ [v]) ++ c.drop (i + 1)).length = true := by
 obtain ⟨hp, hn⟩ := rightN_spec hr
 obtain ⟨h3, h4⟩ := range_within h h2
 have hi' := range_in h
 refine rightN_of (rising_iff.2 fun j hj => ?_) (by simp; omega)
 have hl : ((p.take i ++ [k]) ++ p.drop i).length = p.length + 1 := by simp; omega
 have get : ∀ q (hq : q < ((p.take i ++ [k]) ++ p.drop i).length), ((p.take i ++ [k]) ++ p.drop i)[q] = if h : q < i then p[q]'(by omega) else if h : q = i then k else p[q - 1]'(by omega) := fun q hq => by
  by_cases h5 : q < i
  ·rw [dif_pos h5, List.getElem_append_left (by simp; omega), List.getElem_append_left (by simp; omega), List.getElem_take]
  ·rw [dif_neg h5]
   by_cases h6 : q = i
   ·rw [dif_pos h6, List.getElem_append_left (by simp; omega), List.getElem_append_right (by simp; omega)]; simp
   ·rw [dif_neg h6, List.getElem_append_right (by simp; omega), List.getElem_drop]
    congr 1; simp; omega
 rw [get, get]
 have hp' := rising_iff.1 hp
 by_cases a : j + 1 < i
 ·rw [dif_pos (by omega), dif_pos a]; exact hp' j (by omega)
 ·by_cases b : j + 1 = i
  ·rw [dif_pos (by omega), dif_neg (by omega), dif_pos b]
   have := h3 ⟨by omega, by omega⟩
   simpa only [show i - 1 = j from by omega] using this
  ·by_cases d : j = i
   ·rw [dif_neg (by omega), dif_pos d, dif_neg (by omega), dif_neg (by omega)]
    have := h4 (by omega)
    simpa only [show j + 1 - 1 = i from by omega] using this
   ·rw [dif_neg (by omega), dif_neg d, dif_neg (by omega), dif_neg (by omega)]
    have := hp' (j - 1) (by omega)
    simpa only [show j - 1 + 1 = j + 1 - 1 from by omega] using this
end Go.Fw

namespace Go.Fw
def adoptN (n : Nd) (i : Nat) (k : Str) (v : Int) : Nd × Bool :=
 if n.level = 0 ∨ (binsN n.pivots n.kids i k v).2.length = 0 then (Nd.zero, false)
 else ({ n with pivots := (binsN n.pivots n.kids i k v).1, kids := (binsN n.pivots n.kids i k v).2 }, true)
end Go.Fw
