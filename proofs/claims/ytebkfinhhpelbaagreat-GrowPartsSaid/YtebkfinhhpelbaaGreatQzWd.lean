/- Walks of maps behind messages. -/
import Derived.Test.YtebkfinhhpelbaaGreatQzW5
import Derived.Test.YtebkfinhhpelbaaGreatQzW9
set_option maxRecDepth 100000
set_option maxHeartbeats 1600000
set_option linter.unusedVariables false
set_option linter.unusedSimpArgs false
set_option linter.unnecessarySimpa false
namespace Go.Proofs.YtebkfinhhpelbaaGreat
open Go Go.Fw Go.RowKit
theorem rtakeF_fc {G : GH} {v_l : Value} {l : List Pair} (h_l : SlR ePair G v_l l) (ms : Int) (mk : Int) (mkey : Str) (mhi : Str) (mo : Bool) (mv : Str) (hP : PairsR l) (hn : l.length ≤ 1000000) (hk : Msg.fit (⟨ms, mk, mkey, mhi, mo, mv⟩ : Msg)) :
    Fc Tryz.prog 183 [v_l, .agg #[.int .i64 ms, .int .i64 mk, .string mkey.b, .string mhi.b, .bool mo, .string mv.b]] G [] (fun v G' M' => M' = [] ∧ ∃ u0, v = u0 ∧ SlR ePair G' u0 (takeN l (⟨ms, mk, mkey, mhi, mo, mv⟩ : Msg))) := by
 obtain ⟨sa_l, sc_l, rfl⟩ := h_l.form
 obtain ⟨hk1, hk2, hk3⟩ := hk
 dsimp only at hk1 hk2 hk3
 have hl := h_l.len47
 have hov := on_val (m := (⟨ms, mk, mkey, mhi, mo, mv⟩ : Msg)) mkey hk3
 refine Fc.intro (rs := [.tmp 4]) cl183 Tryz.func183 rfl Tryz.ntmps183 rfl rfl (fun w0 => ?_)
 refine WC.seq (WC.region (W.box (L := [.int .i64 _, .int .i64 _, .string _, .string _, .bool _, .string _]) rfl rfl (fun b27 => (W.as (W.nil (thn_n (WC.seq (WC.seq (WC.region (W.ok (ok_fieldB fd49_1 rfl) (W.ok (ok_loadB (i := 0) (vs := [.int .i64 _]) ty3 rfl rfl rfl rfl (by simp)) (W.ok (ok_neq rfl rfl) (W.nil (thn_n ?_))))))))))))))
 refine WC.cond (b := _) rfl (fun h9 => ?_) (fun h9 => ?_)
 ·have p9 := nd_t h9
  refine WC.seq (WC.drawW _ sr9.k9 mix (by rintro _ _ _ _ ⟨h | h, _⟩ <;> cases h) (WD.tk 0 rfl (ok_mv) (WD.tk 1 rfl (ok_fieldB fd49_2 rfl) (WD.tk 2 rfl (ok_loadB (i := 0) (vs := [.string _]) ty9 rfl rfl rfl rfl (by simp)) (WD.tk 3 rfl (ok_loadB (i := 0) (vs := [.int .i64 _, .int .i64 _, .string _, .string _, .bool _, .string _]) ty49 rfl rfl rfl rfl (by simp)) (WD.tk 4 rfl (ok_fieldB fd49_2 rfl) (WD.tk 5 rfl (ok_loadB (i := 0) (vs := [.string _]) ty9 rfl rfl rfl rfl (by simp)) (WD.a1 6 rfl (W.qcall (ron_fc ms mk mkey mhi mo mv mkey (by omega)) rfl (W.nil (WD.n9 Le.rfl sr9.k9 (WD.a1 7 rfl (W.call (Mp := []) (rwith_fc h_l mkey (Msg.on (⟨ms, mk, mkey, mhi, mo, mv⟩ : Msg) mkey).kind (Msg.on (⟨ms, mk, mkey, mhi, mo, mv⟩ : Msg) mkey).val hP hn (by omega)) rfl pr9 ?_)))))))))))))
  intro _ G28 _ hG28 q30
  refine match q30 with | ⟨e_31, _, e_32, hv29⟩ => ?_
  subst e_31
  subst e_32
  have q34 := hv29.form
  refine match q34 with | ⟨sa_hv29, sc_hv29, e_33⟩ => ?_
  subst e_33
  refine W.nil (WD.n9 hG28 sr9.k9 (WD.tk 8 rfl (ok_as) (WD.done (by kernel_rfl) (thn_n (WC.ret (thn_r ?_))))))
  refine ⟨.inr rfl, [_], ⟨rfl, trivial⟩, [], sn9, ?_⟩
  refine ⟨rfl, _, rfl, ?_⟩
  · have h := hv29; rw [takeN, if_neg (by simpa using h9)]; exact h
 have p9 := nd_f h9
 refine WC.skip (thn_n (WC.seq (WC.region (W.as (W.nil (thn_n (WC.seq (WC.seq (WC.region (W.as (W.nil (thn_n (WC.block ?_)))))))))))))
 refine WC.loop (X := (Nat) × Value × MH) (fun i => [(6, .int .i64 ((i.1 : Nat) : Int)), (3, .pointer (some ⟨b27, 0, none⟩)), (0, .slice sa_l l.length sc_l), (5, i.2.1)]) (fun i G Ml => Ml = ((b27, .cells (List.toArray [.int .i64 ms, .int .i64 mk, .string mkey.b, .string mhi.b, .bool mo, .string mv.b]) 49 (0, 0)) :: (i.2.2 ++ [])) ∧ OwnR ePair 69 G i.2.1 (List.filter (fun p : Pair => !(Msg.span (⟨ms, mk, mkey, mhi, mo, mv⟩ : Msg)).has p.key) (l.take i.1)) i.2.2 ∧ i.1 ≤ l.length) (fun i => l.length - i.1) (0, .slice none 0 0, ([] : MH)) ⟨eqv, eqv, eqv, eqv, trivial⟩ ?_ ?_
 ·exact ⟨rfl, (by simpa using OwnR.nil), by omega⟩
 rintro ⟨i, v_5, M_5⟩ gG35 G35 _ hG35 ⟨rfl, ho_5, hi⟩
 try dsimp only at ho_5 hi
 have hfl := filt_le (fun p : Pair => !(Msg.span (⟨ms, mk, mkey, mhi, mo, mv⟩ : Msg)).has p.key) l i
 refine WC.fr (f := setL gG35 [(6, .int .i64 ((i : Nat) : Int)), (3, .pointer (some ⟨b27, 0, none⟩)), (0, .slice sa_l l.length sc_l), (5, v_5)]) rfl (WC.seq (WC.seq (WC.region (W.mv (W.mv (W.ok (ok_len sl41 (h_l.mono hG35) rfl) (W.ok (ok_lss rfl rfl) (W.nil (thn_n ?_)))))))))
 refine WC.cond (b := _) rfl (fun h21 => ?_) (fun h21 => ?_)
 ·have p21 := of_decide_eq_true h21
  refine WC.skip (thn_n (WC.seq (WC.block (WC.seq (WC.draw mix (by kernel_rfl) (W.ok (ok_loadB (i := 0) (vs := [.int .i64 _, .int .i64 _, .string _, .string _, .bool _, .string _]) ty49 rfl rfl rfl rfl (by simp)) (W.qcall (rspan_fc _ _ _ _ _ _ (by first | assumption | omega | (dsimp only; omega))) rfl (W.mv (W.mv ?_)))))))))
  have q38 := (h_l.mono hG35).at (i := i) (by omega)
  refine match q38 with | ⟨_, he36, e_37⟩ => ?_
  subst e_37
  refine W.ok (ok_indexAddr (i := i) sl41 ty69 (h_l.mono hG35) rfl rfl ⟨by omega, by omega⟩) (W.ok (ok_fieldE fd69_0 rfl he36.form) (W.ok (ok_loadE (vs := [.string _]) ty9 he36 rfl rfl rfl (by simp)) (W.qcall (has_fc _ _ _ _) rfl (W.ok (ok_not rfl) (W.nil (thn_n ?_))))))
  refine WC.cond (b := _) rfl (fun h32 => ?_) (fun h32 => ?_)
  ·refine WC.region (W.mv (W.mv (W.mv ?_)))
   have q41 := (h_l.mono hG35).at (i := i) (by omega)
   refine match q41 with | ⟨_, he39, e_40⟩ => ?_
   subst e_40
   refine W.ok (ok_indexAddr (i := i) sl41 ty69 (h_l.mono hG35) rfl rfl ⟨by omega, by omega⟩) (W.ok (ok_loadE (vs := [.string _, .string _]) ty69 he39 rfl rfl rfl (by simp)) (W.lit (e := ePair) (l := [((l)[i])]) (css := [[.string _, .string _]]) sl41 ty69 zr69 rfl rfl rfl rfl rfl rfl ⟨rfl, trivial⟩ (fun bl42 G42 hG42 hv42 => (W.app (e := ePair) sl41 ty69 zr69 rfl by69 rfl rfl ((ho_5.mono hG42)) (hv42) (pmC pr9) (by show (_ + 1) * 32 ≤ _; (try simp only [List.length_append] at *); omega) (fun v43 Ms44 ho45 => (W.perm (pmC pr9).symm (W.as (W.nil (blk_n (thn_n (WC.region (W.mv (W.ok (ok_add rfl rfl (by omega)) (W.as (W.nil (thn_n ?_))))))))))))))))
   exact ⟨hG42, (i + 1, v43, Ms44), ⟨eqv, eqv, eqv, eqv, trivial⟩, ⟨rfl, (by have h := ho45; rw [filt_t (p := (fun p : Pair => !(Msg.span (⟨ms, mk, mkey, mhi, mo, mv⟩ : Msg)).has p.key)) (by omega) (by simpa using h32)]; exact h), by omega⟩, by omega⟩
  refine WC.skip (blk_n (thn_n (WC.region (W.mv (W.ok (ok_add rfl rfl (by omega)) (W.as (W.nil (thn_n ?_))))))))
  exact ⟨Le.rfl, (i + 1, v_5, M_5), ⟨eqv, eqv, eqv, eqv, trivial⟩, ⟨rfl, (by have h := ho_5; rw [filt_f (p := (fun p : Pair => !(Msg.span (⟨ms, mk, mkey, mhi, mo, mv⟩ : Msg)).has p.key)) (by omega) (by simpa using h32)]; exact h), by omega⟩, by omega⟩
 have p21 := of_decide_eq_false h21
 refine WC.exit (thn_x (thn_x (blk_h (thn_n (WC.seq (WC.region (W.mv (W.as (W.nil (thn_n (WC.giveO ho_5 (pmC pr9) (fun G46 hG46 hv46 => (WC.ret ?_)))))))))))))
 refine ⟨.inr rfl, [_], ⟨rfl, trivial⟩, [], sn9, ?_⟩
 refine ⟨rfl, _, rfl, ?_⟩
 · have h := hv46; rw [List.take_of_length_le (by omega)] at h; rw [takeN, if_pos (by simpa using h9)]; exact h

theorem rfoldF_fc {G : GH} {v_l : Value} {l : List Pair} (h_l : SlR ePair G v_l l) {v_ms : Value} {ms : List Msg} (h_ms : SlR eMsg G v_ms ms) (hP : PairsR l) (hn : l.length + ms.length ≤ 1000000) (hm : ∀ m ∈ ms, m.fit) :
    Fc Tryz.prog 134 [v_l, v_ms] G [] (fun v G' M' => M' = [] ∧ ∃ u0, v = u0 ∧ SlR ePair G' u0 (foldN l ms)) := by
 obtain ⟨sa_l, sc_l, rfl⟩ := h_l.form
 obtain ⟨sa_ms, sc_ms, rfl⟩ := h_ms.form
 have hl := h_l.len47
 have hlm := h_ms.len47
 refine Fc.intro (rs := [.tmp 4]) cl134 Tryz.func134 rfl Tryz.ntmps134 rfl rfl (fun w0 => ?_)
 refine WC.seq (WC.region (W.as (W.nil (thn_n (WC.seq (WC.region (W.lit0 (e := ePair) sl41 ty69 zr69 rfl (fun v68 Ms69 ho70 => (W.mv (W.app (e := ePair) sl41 ty69 zr69 rfl by69 rfl rfl (ho70) (h_l) pr9 (by show (0 + _) * 32 ≤ _; omega) (fun v71 Ms72 ho73 => (W.as (W.nil (thn_n (WC.seq (WC.seq (WC.region ?_)))))))))))))))))
 refine W.as (W.nil (thn_n (WC.block (WC.giveO (ho73) pr9 (fun G74 hG74 hv74 => ?_)))))
 refine WC.loop (X := (Nat) × Value) (fun k => [(6, .int .i64 ((k.1 : Nat) : Int)), (1, .slice sa_ms ms.length sc_ms), (5, k.2)]) (fun k G Ml => Ml = [] ∧ SlR ePair G k.2 (foldN l (ms.take k.1)) ∧ k.1 ≤ ms.length) (fun k => ms.length - k.1) (0, v71) ⟨eqv, eqv, eqv, trivial⟩ ?_ ?_
 ·exact ⟨rfl, (by simpa [foldN] using hv74), by omega⟩
 rintro ⟨k, v_5⟩ gG75 G75 _ hG75 ⟨rfl, ho_5, hk⟩
 try dsimp only at ho_5 hk
 have hPk := PairsR.foldF (ms := ms.take k) hP (fun m h => hm m (List.mem_of_mem_take h))
 have hnk := fold_lenF (ms := ms.take k) hP (fun m h => hm m (List.mem_of_mem_take h))
 have hkl : (ms.take k).length ≤ k := by simp; omega
 refine WC.fr (f := setL gG75 [(6, .int .i64 ((k : Nat) : Int)), (1, .slice sa_ms ms.length sc_ms), (5, v_5)]) rfl (WC.seq (WC.seq (WC.region (W.mv (W.mv (W.ok (ok_len sl45 (h_ms.mono (hG74.trans hG75)) rfl) (W.ok (ok_lss rfl rfl) (W.nil (thn_n ?_)))))))))
 refine WC.cond (b := _) rfl (fun h13 => ?_) (fun h13 => ?_)
 ·have p13 := of_decide_eq_true h13
  refine WC.skip (thn_n (WC.seq (WC.block (WC.region (W.mv (W.mv (W.mv ?_)))))))
  have q80 := (h_ms.mono (hG74.trans hG75)).at (i := k) (by omega)
  refine match q80 with | ⟨_, he76, ⟨e_79, hm77⟩⟩ => ?_
  subst e_79
  refine W.ok (ok_indexAddr (i := k) sl45 ty49 (h_ms.mono (hG74.trans hG75)) rfl rfl ⟨by omega, by omega⟩) (W.ok (ok_loadE (vs := [.int .i64 _, .int .i64 _, .string _, .string _, .bool _, .string _]) ty49 he76 rfl rfl rfl (by simp)) (W.call (Mp := []) (rtakeF_fc ho_5 ms[k].stamp ms[k].kind ms[k].key ms[k].hi ms[k].opn ms[k].val hPk (by omega) (hm _ (List.getElem_mem _))) rfl pr9 ?_))
  intro _ G81 _ hG81 q83
  refine match q83 with | ⟨e_84, _, e_85, hv82⟩ => ?_
  subst e_84
  subst e_85
  have q87 := hv82.form
  refine match q87 with | ⟨sa_hv82, sc_hv82, e_86⟩ => ?_
  subst e_86
  refine W.as (W.nil (blk_n (thn_n (WC.region (W.mv (W.ok (ok_add rfl rfl (by omega)) (W.as (W.nil (thn_n ?_)))))))))
  exact ⟨hG81, (k + 1, .slice sa_hv82 (takeN (foldN l (ms.take k)) ms[k]).length sc_hv82), ⟨eqv, eqv, eqv, trivial⟩, ⟨rfl, (by have h := hv82; rw [foldN_succ (by omega)]; exact h), by omega⟩, by omega⟩
 have p13 := of_decide_eq_false h13
 refine WC.exit (thn_x (thn_x (blk_h (thn_n (WC.seq (WC.region (W.mv (W.as (W.nil (thn_n (WC.ret ?_)))))))))))
 refine ⟨.inr rfl, [_], ⟨rfl, trivial⟩, [], sn9, ?_⟩
 refine ⟨rfl, _, rfl, ?_⟩
 · have h := ho_5; rw [List.take_of_length_le (by omega)] at h; exact h

end Go.Proofs.YtebkfinhhpelbaaGreat
namespace Go.Proofs.YtebkfinhhpelbaaGreat
open Go Go.Fw Go.RowKit
theorem common_fc {G : GH} (a : Str) (b : Str) :
    Fc Tryz.prog 229 [.string a.b, .string b.b] G [] (fun v _ _ => v = .int .i64 ((commonN a b : Nat) : Int)) := by
 have ha := a.le
 have hb := b.le
 refine Fc.intro (rs := [.tmp 4]) cl229 Tryz.func229 rfl Tryz.ntmps229 rfl rfl (fun w0 => ?_)
 refine WC.seq (WC.region (W.as (W.nil (thn_n (WC.seq (WC.region (W.as (W.nil (thn_n (WC.seq (WC.block ?_)))))))))))
 refine WC.loop (X := Nat) (fun k => [(5, .int .i64 ((k : Nat) : Int)), (0, .string a.b), (1, .string b.b)]) (fun k _ Ml => Ml = [] ∧ k ≤ a.b.size ∧ k ≤ b.b.size ∧ ∀ i, i < k → a.b[i]? = b.b[i]?) (fun k => a.b.size - k) 0 ⟨eqv, eqv, eqv, trivial⟩ ?_ ?_
 ·exact ⟨rfl, by omega, by omega, fun i hi => by omega⟩
 rintro k gG1 G1 _ hG1 ⟨rfl, hk1, hk2, hk3⟩
 refine WC.seq (WC.seq (WC.draw mix (by kernel_rfl) (W.mv (W.mv (W.ok (ok_lenS st9 rfl) (W.mv (W.ok (ok_lenS st9 rfl) (W.ok (ok_mini rfl rfl) (W.ok (ok_lss rfl rfl) (W.mv ?_))))))))))
 refine W.sp 13 rfl (fun h12 => ?_) (fun h12 => ?_)
 ·have p12 := of_decide_eq_true h12
  refine W.yes (dj := 13) rfl rfl h12 (W.mv (W.yes (dj := 13) rfl rfl h12 (W.mv (W.yes (dj := 13) rfl rfl h12 (W.ok (ok_indexS (i := k) st9 rfl rfl ⟨by omega, by omega⟩) (W.yes (dj := 13) rfl rfl h12 (W.mv (W.yes (dj := 13) rfl rfl h12 (W.mv (W.yes (dj := 13) rfl rfl h12 (W.ok (ok_indexS (i := k) st9 rfl rfl ⟨by omega, by omega⟩) (W.yes (dj := 13) rfl rfl h12 (W.ok (ok_eql rfl rfl) ?_)))))))))))))
  refine W.ok (ok_pick_t rfl h12) (W.nil (thn_n ?_))
  refine WC.cond (b := _) rfl (fun h20 => ?_) (fun h20 => ?_)
  ·have p20 := of_decide_eq_true h20
   refine WC.skip (thn_n (WC.block (WC.region (W.mv (W.ok (ok_add rfl rfl (by omega)) (W.as (W.nil (blk_n (thn_n ?_)))))))))
   exact ⟨Le.rfl, k + 1, ⟨eqv, eqv, eqv, trivial⟩, ⟨rfl, by omega, by omega, same_succ hk3 (by omega) (by omega) p20⟩, by omega⟩
  have p20 := of_decide_eq_false h20
  refine WC.exit (thn_x (thn_x (blk_h (thn_n (WC.seq (WC.region (W.mv (W.as (W.nil (thn_n (WC.ret ?_)))))))))))
  refine ⟨.inr rfl, [_], ⟨rfl, trivial⟩, [], sn9, ?_⟩
  refine congrArg (Value.int .i64) ?_
  exact congrArg Nat.cast (commonN_ne' hk3 (by omega) (by omega) p20).symm
 have p12 := of_decide_eq_false h12
 refine W.no (dj := 13) rfl rfl h12 (W.no (dj := 13) rfl rfl h12 (W.no (dj := 13) rfl rfl h12 (W.no (dj := 13) rfl rfl h12 (W.no (dj := 13) rfl rfl h12 (W.no (dj := 13) rfl rfl h12 (W.no (dj := 13) rfl rfl h12 (W.ok (ok_pick_f rfl h12) (W.nil (thn_n (WC.cond_f rfl rfl (WC.exit (thn_x (thn_x (blk_h (thn_n (WC.seq (WC.region (W.mv ?_))))))))))))))))))
 refine W.as (W.nil (thn_n (WC.ret ?_)))
 refine ⟨.inr rfl, [_], ⟨rfl, trivial⟩, [], sn9, ?_⟩
 refine congrArg (Value.int .i64) ?_
 exact congrArg Nat.cast (commonN_end hk1 hk2 hk3 (by omega)).symm

theorem between_fc {G : GH} (a : Str) (b : Str) :
    Fc Tryz.prog 219 [.string a.b, .string b.b] G [] (fun v _ _ => v = .tuple #[.string (Str.b ((betweenN a b).1)), .bool ((betweenN a b).2)]) := by
 have ha := a.le
 have hb := b.le
 refine Fc.intro (rs := [.tmp 4, .tmp 5]) cl219 Tryz.func219 rfl Tryz.ntmps219 rfl rfl (fun w0 => ?_)
 refine WC.seq (WC.region (W.as (W.as (W.nil (thn_n (WC.seq (WC.seq (WC.region (W.mv (W.mv (W.ok (ok_geqS rfl rfl) (W.nil (thn_n ?_)))))))))))))
 refine WC.cond (b := _) rfl (fun h8 => ?_) (fun h8 => ?_)
 ·refine WC.seq (WC.region (W.as (W.as (W.nil (thn_n (WC.ret (thn_r ?_)))))))
  refine ⟨.inr rfl, [_, _], ⟨rfl, rfl, trivial⟩, [], sn9, ?_⟩
  show Value.tuple #[Value.string _, Value.bool _] = _
  rw [betweenN_f (by simpa [Str.lt] using h8)]; rfl
 have hlt : a.lt b = true := by simpa [Str.lt] using h8
 have hcm := common_lt hlt
 have hcl := commonN_le a b
 refine WC.skip (thn_n (WC.seq (WC.region (W.mv (W.mv (W.mv (W.qcall (common_fc _ _) rfl (W.ok (ok_add rfl rfl (by omega)) (W.ok (ok_sliceS (0) (commonN a b + 1) st9 rfl rfl ⟨_, _, rfl, by omega⟩ ⟨by omega, by omega⟩) (W.as (W.as (W.nil (thn_n (WC.ret ?_))))))))))))))
 refine ⟨.inr rfl, [_, _], ⟨rfl, rfl, trivial⟩, [], sn9, ?_⟩
 show Value.tuple #[Value.string _, Value.bool _] = _
 rw [betweenN_t hlt]

theorem rbetween_fc {G : GH} (a : Str) (b : Str) :
    Fc Tryz.prog 156 [.string a.b, .string b.b] G [] (fun v _ _ => v = .tuple #[.string (Str.b ((betweenN a b).1)), .bool ((betweenN a b).2)]) := by
 have ha := a.le
 have hb := b.le
 refine Fc.intro (rs := [.tmp 4, .tmp 5]) cl156 Tryz.func156 rfl Tryz.ntmps156 rfl rfl (fun w0 => ?_)
 refine WC.seq (WC.region (W.as (W.as (W.nil (thn_n (WC.seq (WC.seq (WC.region (W.as (W.nil (thn_n (WC.block ?_))))))))))))
 refine WC.loop (X := Nat) (fun k => [(6, .int .i64 ((k : Nat) : Int)), (0, .string a.b), (1, .string b.b)]) (fun k _ Ml => Ml = [] ∧ ∀ j, j < k → a.lt (b.cut 0 j) = false) (fun k => b.b.size + 1 - k) 0 ⟨eqv, eqv, eqv, trivial⟩ ?_ ?_
 ·exact ⟨rfl, fun j h => by omega⟩
 rintro k gG2 G2 _ hG2 ⟨rfl, hk⟩
 refine WC.seq (WC.seq (WC.region (W.mv (W.mv (W.ok (ok_lenS st9 rfl) (W.ok (ok_leq rfl rfl) (W.nil (thn_n ?_))))))))
 refine WC.cond (b := _) rfl (fun h10 => ?_) (fun h10 => ?_)
 ·have p10 := of_decide_eq_true h10
  refine WC.skip (thn_n (WC.seq (WC.block (WC.seq (WC.region (W.mv (W.mv (W.mv (W.ok (ok_sliceS (0) (k) st9 rfl rfl ⟨_, _, rfl, by omega⟩ ⟨by omega, by omega⟩) (W.qcall (less_fc _ _) rfl (W.nil (thn_n ?_))))))))))))
  refine WC.cond (b := _) rfl (fun h17 => ?_) (fun h17 => ?_)
  ·refine WC.seq (WC.region (W.mv (W.mv (W.ok (ok_sliceS (0) (k) st9 rfl rfl ⟨_, _, rfl, by omega⟩ ⟨by omega, by omega⟩) (W.as (W.as (W.nil (thn_n (WC.ret (blk_r (thn_r (thn_r (blk_r (thn_r ?_))))))))))))))
   refine ⟨.inr rfl, [_, _], ⟨rfl, rfl, trivial⟩, [], sn9, ?_⟩
   show Value.tuple #[Value.string _, Value.bool _] = _
   rw [between_at (by omega) h17 hk]
  refine WC.skip (blk_n (thn_n (WC.region (W.mv (W.ok (ok_add rfl rfl (by omega)) (W.as (W.nil (thn_n ?_))))))))
  exact ⟨Le.rfl, k + 1, ⟨eqv, eqv, eqv, trivial⟩, ⟨rfl, fun j h => by
      by_cases e : j = k
      · subst e; exact h17
      · exact hk j (by omega)⟩, by omega⟩
 have p10 := of_decide_eq_false h10
 refine WC.exit (thn_x (thn_x (blk_h (thn_n (WC.seq (WC.region (W.as (W.as (W.nil (thn_n (WC.ret ?_)))))))))))
 refine ⟨.inr rfl, [_, _], ⟨rfl, rfl, trivial⟩, [], sn9, ?_⟩
 show Value.tuple #[Value.string _, Value.bool _] = _
 rw [between_no (fun j h => hk j (by omega))]; rfl

theorem rowsh_fc {G : GH} {v_l : Value} {l : List Pair} (h_l : SlR ePair G v_l l) :
    Fc Tryz.prog 199 [v_l] G [] (fun v G' M' => M' = [] ∧ ∃ r : List Pair × List Pair × Str × Bool, r = rowsN l ∧ ∃ u0 u1, v = .tuple #[u0, u1, .string (Str.b (r.2.2.1)), .bool (r.2.2.2)] ∧ SlR ePair G' u0 (r.1) ∧ SlR ePair G' u1 (r.2.1)) := by
 obtain ⟨sa_l, sc_l, rfl⟩ := h_l.form
 have hl := h_l.len47
 have hlb : l.length * 32 ≤ 140737488355328 := h_l.bytes
 refine Fc.intro (rs := [.tmp 2, .tmp 3, .tmp 4, .tmp 5]) cl199 Tryz.func199 rfl Tryz.ntmps199 rfl rfl (fun w0 => ?_)
 refine WC.seq (WC.region (W.as (W.as (W.as (W.as (W.nil (thn_n (WC.seq (WC.seq (WC.region (W.mv (W.ok (ok_len sl41 h_l rfl) (W.ok (ok_lss rfl rfl) (W.nil (thn_n ?_)))))))))))))))
 refine WC.cond (b := _) rfl (fun h9 => ?_) (fun h9 => ?_)
 ·have p9 := of_decide_eq_true h9
  refine WC.seq (WC.region (W.as (W.as (W.as (W.as (W.nil (thn_n (WC.ret (thn_r ?_)))))))))
  refine ⟨.inr rfl, [_, _, _, _], ⟨rfl, rfl, rfl, rfl, trivial⟩, [], sn9, ?_⟩
  refine ⟨rfl, _, (rowsN_f (by omega)).symm, _, _, rfl, ?_, ?_⟩
  · exact SlR.nil
  exact SlR.nil
 have p9 := of_decide_eq_false h9
 refine WC.skip (thn_n (WC.seq (WC.region (W.mv (W.ok (ok_len sl41 h_l rfl) (W.ok (ok_add rfl rfl (by omega)) (W.ok (ok_quo' rfl rfl (by omega) (by omega) (by omega)) (W.as (W.nil (thn_n (WC.seq (WC.draw mix (by kernel_rfl) (W.mv (W.mv (W.ok (ok_sub rfl rfl (by omega)) ?_)))))))))))))))
 have q5 := h_l.at (i := (l.length + 1) / 2 - 1) (by omega)
 refine match q5 with | ⟨_, he3, e_4⟩ => ?_
 subst e_4
 refine W.ok (ok_indexAddr (i := (l.length + 1) / 2 - 1) sl41 ty69 h_l rfl rfl ⟨by omega, by omega⟩) (W.ok (ok_fieldE fd69_0 rfl he3.form) (W.ok (ok_loadE (vs := [.string _]) ty9 he3 rfl rfl rfl (by simp)) (W.mv (W.mv ?_))))
 have q8 := h_l.at (i := (l.length + 1) / 2) (by omega)
 refine match q8 with | ⟨_, he6, e_7⟩ => ?_
 subst e_7
 refine W.ok (ok_indexAddr (i := (l.length + 1) / 2) sl41 ty69 h_l rfl rfl ⟨by omega, by omega⟩) (W.ok (ok_fieldE fd69_0 rfl he6.form) (W.ok (ok_loadE (vs := [.string _]) ty9 he6 rfl rfl rfl (by simp)) (W.qcall (between_fc _ _) rfl (W.mv (W.ok (ok_extract rfl rfl) (W.ok (ok_extract rfl rfl) (W.as (W.nil (thn_n (WC.seq (WC.drawW _ sr9 mix (by rintro _ _ _ _ ⟨h | h, _⟩ <;> cases h) (WD.tk 0 rfl (ok_mv) (WD.tk 1 rfl (ok_mv) ?_)))))))))))))
 have hs9 := SlR.slice h_l (lo := 0) (hi := (l.length + 1) / 2) (by omega) (by omega)
 refine WD.tk 2 rfl (ok_slice (0) ((l.length + 1) / 2) sl41 ty69 h_l rfl rfl ⟨_, _, rfl, by omega⟩ ⟨by omega, by omega⟩) (WD.tk 4 rfl (ok_mv) (WD.tk 5 rfl (ok_mv) ?_))
 have hs10 := SlR.slice h_l (lo := (l.length + 1) / 2) (hi := l.length) (by omega) (by omega)
 refine WD.tk 6 rfl (ok_slice ((l.length + 1) / 2) (l.length) sl41 ty69 h_l rfl ⟨_, _, rfl, by omega⟩ rfl ⟨by omega, by omega⟩) (WD.tk 8 rfl (ok_mv) (WD.a1 3 rfl (W.call (Mp := []) (clonep_fc hs9) rfl pr9 ?_)))
 intro _ G11 _ hG11 q13
 refine match q13 with | ⟨e_14, _, e_15, hv12⟩ => ?_
 subst e_14
 subst e_15
 have q17 := hv12.form
 refine match q17 with | ⟨sa_hv12, sc_hv12, e_16⟩ => ?_
 subst e_16
 refine W.nil (WD.n9 hG11 sr9 (WD.a1 7 rfl (W.call (Mp := []) (clonep_fc (hs10.mono hG11)) rfl pr9 ?_)))
 intro _ G18 _ hG18 q20
 refine match q20 with | ⟨e_21, _, e_22, hv19⟩ => ?_
 subst e_21
 subst e_22
 have q24 := hv19.form
 refine match q24 with | ⟨sa_hv19, sc_hv19, e_23⟩ => ?_
 subst e_23
 refine W.nil (WD.n9 hG18 sr9 (WD.tk 9 rfl (ok_as) (WD.tk 10 rfl (ok_as) (WD.tk 11 rfl (ok_as) (WD.tk 12 rfl (ok_as) (WD.done (by kernel_rfl) (thn_n (WC.ret ?_))))))))
 refine ⟨.inr rfl, [_, _, _, _], ⟨rfl, rfl, rfl, rfl, trivial⟩, [], sn9, ?_⟩
 refine ⟨rfl, _, (rowsN_t (by omega)).symm, _, _, rfl, ?_, ?_⟩
 · exact SlR.cast ((hv12.mono hG18)) (by simp)
 exact SlR.cast (hv19) (by simp)

end Go.Proofs.YtebkfinhhpelbaaGreat

namespace Go.Fw
def binsN (p : List Str) (c : List Int) (i : Nat) (k : Str) (v : Int) : List Str × List Int :=
 if c.length ≤ i ∨ (rangeN p (i : Int)).has k = false ∨ k = (rangeN p (i : Int)).lo then ([], []) else ((p.take i ++ [k]) ++ p.drop i, (c.take (i + 1) ++ [v]) ++ c.drop (i + 1))
theorem binsN_0 {p : List Str} {c : List Int} {i : Nat} {k : Str} {v : Int} (h : c.length ≤ i ∨ (rangeN p (i : Int)).has k = false ∨ k = (rangeN p (i : Int)).lo) : binsN p c i k v = ([], []) := if_pos h
theorem binsN_1 {p : List Str} {c : List Int} {i : Nat} {k : Str} {v : Int} (h1 : ¬ c.length ≤ i) (h2 : (rangeN p (i : Int)).has k = true) (h3 : ¬ k = (rangeN p (i : Int)).lo) : binsN p c i k v = ((p.take i ++ [k]) ++ p.drop i, (c.take (i + 1) ++ [v]) ++ c.drop (i + 1)) :=
 if_neg fun h => h.elim h1 (fun h => h.elim (fun h => by rw [h2] at h; cases h) h3)
def bremN (p : List Str) (c : List Int) (i : Nat) : List Str × List Int :=
 if i < 1 ∨ c.length ≤ i ∨ p.length < i then ([], []) else (p.take (i - 1) ++ p.drop i, c.take i ++ c.drop (i + 1))
theorem range_in {p : List Str} {i : Nat} {k : Str} (h : (rangeN p (i : Int)).has k = true) : i ≤ p.length := by
 by_cases h2 : i ≤ p.length
 ·exact h2
 ·rw [rangeN_out (by omega)] at h
  have : Span.zero.has k = false := by
   simp only [Span.zero, Span.has]
   cases h3 : k.lt Str.nil
   ·simp
   ·simp
  rw [this] at h; cases h
theorem range_within {p : List Str} {i : Nat} {k : Str} (h : (rangeN p (i : Int)).has k = true) (h2 : ¬ k = (rangeN p (i : Int)).lo) :
  (∀ h : 0 < i ∧ i - 1 < p.length, (p[i - 1]'h.2).lt k = true) ∧ (∀ h : i < p.length, k.lt p[i] = true) := by
 have hi := range_in h
 have e := rangeN_in (l := p) (i := (i : Int)) (by omega) (by omega)
 have h0 := h
 rw [e, norm_has] at h
 simp only [Span.has, Bool.and_eq_true, Bool.or_eq_true, Bool.not_eq_true', decide_eq_true_eq] at h
 obtain ⟨h3, h4⟩ := h
 have hhi : ∀ h : i < p.length, k.lt p[i] = true := fun hlt => by
  rcases h4 with h4 | h4
  ·omega
  ·rw [show ((i : Int)).toNat = i from rfl, getD_in (d := Str.nil) hlt] at h4; exact h4
 refine ⟨fun ⟨h5, h6⟩ => ?_, hhi⟩
 rw [if_pos (by omega), show ((i : Int) - 1).toNat = i - 1 from by omega, getD_in (d := Str.nil) h6] at h3
 cases hlt : (p[i - 1]'h6).lt k
 ·exfalso
  have hke : k = p[i - 1]'h6 := Str.lt_total h3 hlt
  apply h2
  rw [e, if_pos (by omega), show ((i : Int) - 1).toNat = i - 1 from by omega, getD_in (d := Str.nil) h6]
  unfold Span.norm
  split
  ·rename_i hem
   exfalso
   simp only [Span.empty, Bool.and_eq_true, Bool.not_eq_true', decide_eq_false_iff_not] at hem
   have := h4.resolve_left (by omega)
   rw [hke] at this
   simp_all
  ·split <;> exact hke
 ·rfl
theorem bins_right {p : List Str} {c : List Int} {i : Nat} {k : Str} {v : Int} (hr : rightN p c.length = true) (hi : i < c.length) (h : (rangeN p (i : Int)).has k = true) (h2 : ¬ k = (rangeN p (i : Int)).lo) :
  rightN ((p.take i ++ [k]) ++ p.drop i) ((c.take (i + 1) ++ [v]) ++ c.drop (i + 1)).length = true := by
 obtain ⟨hp, hn⟩ := rightN_spec hr
 obtain ⟨h3, h4⟩ := range_within h h2
 have hi' := range_in h
 refine rightN_of (rising_iff.2 fun j hj => ?_) (by simp; omega)
 have hl : ((p.take i ++ [k]) ++ p.drop i).length = p.length + 1 := by simp; omega
 have get : ∀ q (hq : q < ((p.take i ++ [k]) ++ p.drop i).length), ((p.take i ++ [k]) ++ p.drop i)[q] = if h : q < i then p[q]'(by omega) else if h : q = i then k else p[q - 1]'(by omega) := fun q hq => by
  by_cases h5 : q < i
  ·rw [dif_pos h5, List.getElem_append_left (by simp; omega), List.getElem_append_left (by simp; omega), List.getElem_take]
  ·rw [dif_neg h5]
   by_cases h6 : q = i
   ·rw [dif_pos h6, List.getElem_append_left (by simp; omega), List.getElem_append_right (by simp; omega)]; simp
   ·rw [dif_neg h6, List.getElem_append_right (by simp; omega), List.getElem_drop]
    congr 1; simp; omega
 rw [get, get]
 have hp' := rising_iff.1 hp
 by_cases a : j + 1 < i
 ·rw [dif_pos (by omega), dif_pos a]; exact hp' j (by omega)
 ·by_cases b : j + 1 = i
  ·rw [dif_pos (by omega), dif_neg (by omega), dif_pos b]
   have := h3 ⟨by omega, by omega⟩
   simpa only [show i - 1 = j from by omega] using this
  ·by_cases d : j = i
   ·rw [dif_neg (by omega), dif_pos d, dif_neg (by omega), dif_neg (by omega)]
    have := h4 (by omega)
    simpa only [show j + 1 - 1 = i from by omega] using this
   ·rw [dif_neg (by omega), dif_neg d, dif_neg (by omega), dif_neg (by omega)]
    have := hp' (j - 1) (by omega)
    simpa only [show j - 1 + 1 = j + 1 - 1 from by omega] using this
end Go.Fw
