/- Walks of messages that may be moved on. -/
import Derived.Test.YtmbafmifalppaaaGreatQcWk
import Derived.Test.YtmbafmifalppaaaGreatQcOk
set_option maxRecDepth 100000
set_option maxHeartbeats 1600000
set_option linter.unusedVariables false
set_option linter.unusedSimpArgs false
set_option linter.unnecessarySimpa false
namespace Go.Proofs.YtmbafmifalppaaaGreat
open Go Go.Fw Go.RowKit
theorem mmsize_fc {G : GH} (ms : Int) (mk : Int) (mkey : Str) (mhi : Str) (mo : Bool) (mv : Str) :
    Fc Tryz.prog 122 [.agg #[.int .i64 ms, .int .i64 mk, .string mkey.b, .string mhi.b, .bool mo, .string mv.b]] G [] (fun v _ _ => v = .int .i64 (Msg.size (⟨ms, mk, mkey, mhi, mo, mv⟩ : Msg))) := by
 have h1 := mkey.le
 have h2 := mv.le
 refine Fc.intro (rs := [.tmp 2]) cl122 Tryz.func122 rfl Tryz.ntmps122 rfl rfl (fun w0 => ?_)
 refine WC.seq (WC.region (W.box (L := [.int .i64 _, .int .i64 _, .string _, .string _, .bool _, .string _]) rfl rfl (fun b1 => (W.as (W.nil (thn_n (WC.seq (WC.seq (WC.region (W.ok (ok_fieldB fd150_1 rfl) (W.ok (ok_loadB (i := 0) (vs := [.int .i64 _]) ty3 rfl rfl rfl rfl (by simp)) (W.ok (ok_eql rfl rfl) (W.nil (thn_n ?_))))))))))))))
 refine WC.cond (b := _) rfl (fun h5 => ?_) (fun h5 => ?_)
 ·have p5 := of_decide_eq_true h5
  refine WC.seq (WC.region (W.as (W.nil (thn_n (WC.ret (thn_r ?_))))))
  refine ⟨.inr rfl, [_], ⟨rfl, trivial⟩, [], sn9, ?_⟩
  refine congrArg (Value.int .i64) ?_
  rw [Msg.size, if_pos p5]
 have p5 := of_decide_eq_false h5
 refine WC.skip (thn_n (WC.seq (WC.region (W.ok (ok_fieldB fd150_2 rfl) (W.ok (ok_loadB (i := 0) (vs := [.string _]) ty9 rfl rfl rfl rfl (by simp)) (W.ok (ok_lenS st9 rfl) (W.ok (ok_add rfl rfl (by omega)) (W.ok (ok_fieldB fd150_5 rfl) (W.ok (ok_loadB (i := 0) (vs := [.string _]) ty9 rfl rfl rfl rfl (by simp)) (W.ok (ok_lenS st9 rfl) (W.ok (ok_add rfl rfl (by omega)) (W.as (W.nil (thn_n (WC.ret ?_)))))))))))))))
 refine ⟨.inr rfl, [_], ⟨rfl, trivial⟩, [], sn9, ?_⟩
 refine congrArg (Value.int .i64) ?_
 rw [Msg.size, if_neg p5]

theorem bsize_fc {G : GH} {v_l : Value} {l : List Msg} (h_l : SlR eMsg G v_l l) (hs : ∀ m ∈ l, m.key.b.size ≤ 16 ∧ m.val.b.size ≤ 16) :
    Fc Tryz.prog 212 [v_l] G [] (fun v _ _ => v = .int .i64 (sizesN l)) := by
 obtain ⟨sa_l, sc_l, rfl⟩ := h_l.form
 have hl := h_l.len47
 refine Fc.intro (rs := [.tmp 2]) cl212 Tryz.func212 rfl Tryz.ntmps212 rfl rfl (fun w0 => ?_)
 refine WC.seq (WC.region (W.as (W.nil (thn_n (WC.seq (WC.region (W.as (W.nil (thn_n (WC.seq (WC.seq (WC.region (W.mv (W.ok (ok_len sl40 h_l rfl) (W.mv ?_)))))))))))))))
 refine W.nil (thn_n (WC.block ?_))
 refine WC.loop (X := Nat) (fun k => [(3, .int .i64 (sizesN (l.take k))), (8, .int .i64 ((k : Nat) : Int)), (6, .slice sa_l l.length sc_l), (7, .int .i64 (((l).length : Nat) : Int))]) (fun k _ Ml => Ml = [] ∧ k ≤ l.length ∧ 0 ≤ sizesN (l.take k) ∧ sizesN (l.take k) ≤ 36 * k) (fun k => l.length - k) 0 ⟨eqv, eqv, eqv, eqv, trivial⟩ ?_ ?_
 ·exact ⟨rfl, by omega, by simp [sizesN], by simp [sizesN]⟩
 rintro k gG2 G2 _ hG2 ⟨rfl, hk, h0, h36⟩
 refine WC.seq (WC.region (W.ok (ok_lss rfl rfl) (W.nil (thn_n (WC.seq ?_)))))
 refine WC.cond (b := _) rfl (fun h9 => ?_) (fun h9 => ?_)
 ·have p9 := of_decide_eq_true h9
  have hz := sizes_succ (l := l) (k := k) (by omega)
  have hz2 := size_36 (hs l[k] (List.getElem_mem _))
  have he : Msg.size ⟨l[k].stamp, l[k].kind, l[k].key, l[k].hi, l[k].opn, l[k].val⟩ = l[k].size := rfl
  refine WC.skip (thn_n (WC.seq (WC.block (WC.seq (WC.region ?_)))))
  have q7 := (h_l.mono hG2).at (i := k) (by omega)
  refine match q7 with | ⟨_, he3, ⟨e_6, hm4⟩⟩ => ?_
  subst e_6
  refine W.ok (ok_indexAddr (i := k) sl40 ty150 (h_l.mono hG2) rfl rfl ⟨by omega, by omega⟩) (W.ok (ok_loadE (vs := [.int .i64 _, .int .i64 _, .string _, .string _, .bool _, .string _]) ty150 he3 rfl rfl rfl (by simp)) (W.alloc zr150 (fun b8 => (W.store (i := 0) (vs := [.int .i64 _, .int .i64 _, .string _, .string _, .bool _, .string _]) (L' := [.int .i64 _, .int .i64 _, .string _, .string _, .bool _, .string _]) ty150 rfl rfl rfl rfl rfl rfl rfl rfl (W.nil (thn_n (WC.region (W.mv (W.ok (ok_loadB (i := 0) (vs := [.int .i64 _, .int .i64 _, .string _, .string _, .bool _, .string _]) ty150 rfl rfl rfl rfl (by simp)) (W.qcall (mmsize_fc _ _ _ _ _ _) rfl (W.ok (ok_add rfl rfl (by omega)) (W.as (W.nil (blk_n (thn_n (WC.region (W.ok (ok_add rfl rfl (by omega)) ?_)))))))))))))))))
  refine W.mv (W.sub (sr9.cons _) (W.nil (thn_n ?_)))
  exact ⟨Le.rfl, k + 1, ⟨(iv (by omega)), eqv, eqv, eqv, trivial⟩, ⟨rfl, by omega, by omega, by omega⟩, by omega⟩
 have p9 := of_decide_eq_false h9
 refine WC.exit (thn_x (thn_x (blk_h (thn_n (WC.seq (WC.region (W.mv (W.as (W.nil (thn_n (WC.ret ?_)))))))))))
 refine ⟨.inr rfl, [_], ⟨rfl, trivial⟩, [], sn9, ?_⟩
 refine congrArg (Value.int .i64) ?_
 rw [List.take_of_length_le (by omega)]

theorem bfits_fc {G : GH} {v_l : Value} {l : List Msg} (h_l : SlR eMsg G v_l l) (ms : Int) (mk : Int) (mkey : Str) (mhi : Str) (mo : Bool) (mv : Str) (n : Int) (hs : ∀ m ∈ l, m.key.b.size ≤ 16 ∧ m.val.b.size ≤ 16) (hn : 0 ≤ n ∧ n ≤ 9223372036854775807) :
    Fc Tryz.prog 196 [v_l, .agg #[.int .i64 ms, .int .i64 mk, .string mkey.b, .string mhi.b, .bool mo, .string mv.b], .int .i64 n] G [] (fun v _ _ => v = .bool (decide (Msg.size (⟨ms, mk, mkey, mhi, mo, mv⟩ : Msg) ≤ n - sizesN l))) := by
 obtain ⟨sa_l, sc_l, rfl⟩ := h_l.form
 have hl := h_l.len47
 have hz0 := sizes_bound hs
 refine Fc.intro (rs := [.tmp 6]) cl196 Tryz.func196 rfl Tryz.ntmps196 rfl rfl (fun w0 => ?_)
 refine WC.seq (WC.region (W.box (L := [.int .i64 _, .int .i64 _, .string _, .string _, .bool _, .string _]) rfl rfl (fun b9 => (W.as (W.nil (thn_n (WC.seq (WC.region (W.ok (ok_loadB (i := 0) (vs := [.int .i64 _, .int .i64 _, .string _, .string _, .bool _, .string _]) ty150 rfl rfl rfl rfl (by simp)) (W.qcall (mmsize_fc _ _ _ _ _ _) rfl (W.mv (W.mv (W.qcall (bsize_fc h_l (by assumption)) rfl (W.ok (ok_sub rfl rfl (by omega)) (W.ok (ok_leq rfl rfl) ?_)))))))))))))))
 refine W.as (W.nil (thn_n (WC.ret ?_)))
 refine ⟨.inr rfl, [_], ⟨rfl, trivial⟩, [], sn9, ?_⟩
 rfl

theorem frw_fc {G : GH} (ms : Int) (mk : Int) (mkey : Str) (mhi : Str) (mo : Bool) (mv : Str) :
    Fc Tryz.prog 162 [.agg #[.int .i64 ms, .int .i64 mk, .string mkey.b, .string mhi.b, .bool mo, .string mv.b]] G [] (fun v _ _ => v = .bool (decide (mk = 4))) := by
 refine Fc.intro (rs := [.tmp 2]) cl162 Tryz.func162 rfl Tryz.ntmps162 rfl rfl (fun w0 => ?_)
 refine WC.seq (WC.region (W.box (L := [.int .i64 _, .int .i64 _, .string _, .string _, .bool _, .string _]) rfl rfl (fun b10 => (W.as (W.nil (thn_n (WC.seq (WC.region (W.ok (ok_fieldB fd150_1 rfl) (W.ok (ok_loadB (i := 0) (vs := [.int .i64 _]) ty3 rfl rfl rfl rfl (by simp)) (W.ok (ok_eql rfl rfl) (W.as (W.nil (thn_n (WC.ret ?_)))))))))))))))
 refine ⟨.inr rfl, [_], ⟨rfl, trivial⟩, [], sn9, ?_⟩
 rfl

theorem ixw_fc {G : GH} {v_l : Value} {l : List Msg} (h_l : SlR eMsg G v_l l) :
    Fc Tryz.prog 161 [v_l, .func (.func 162) #[] #[]] G [] (fun v _ _ => v = .int .i64 (idxN isW l)) := by
 obtain ⟨sa_l, sc_l, rfl⟩ := h_l.form
 have hl := h_l.len47
 refine Fc.intro (rs := [.tmp 4]) cl161 Tryz.func161 rfl Tryz.ntmps161 rfl rfl (fun w0 => ?_)
 refine WC.seq (WC.region (W.as (W.nil (thn_n (WC.seq (WC.seq (WC.region (W.mv (W.ok (ok_len sl40 h_l rfl) (W.mv (W.nil (thn_n (WC.block ?_)))))))))))))
 refine WC.loop (X := Nat) (fun k => [(8, .int .i64 ((k : Nat) : Int)), (0, .slice sa_l l.length sc_l), (1, .func (.func 162) #[] #[]), (7, .int .i64 (((l).length : Nat) : Int))]) (fun k _ Ml => Ml = [] ∧ k ≤ l.length ∧ ∀ j (h : j < l.length), j < k → isW l[j] = false) (fun k => l.length - k) 0 ⟨eqv, eqv, eqv, eqv, trivial⟩ ?_ ?_
 ·exact ⟨rfl, by omega, fun j _ h => by omega⟩
 rintro k gG11 G11 _ hG11 ⟨rfl, hk, hj⟩
 refine WC.seq (WC.region (W.ok (ok_lss rfl rfl) (W.nil (thn_n (WC.seq ?_)))))
 refine WC.cond (b := _) rfl (fun h9 => ?_) (fun h9 => ?_)
 ·have p9 := of_decide_eq_true h9
  refine WC.skip (thn_n (WC.seq (WC.block (WC.seq (WC.region (W.mv (W.as (W.nil (thn_n (WC.seq (WC.region (W.mv (W.mv (W.mv ?_))))))))))))))
  have q16 := (h_l.mono hG11).at (i := k) (by omega)
  refine match q16 with | ⟨_, he12, ⟨e_15, hm13⟩⟩ => ?_
  subst e_15
  refine W.ok (ok_indexAddr (i := k) sl40 ty150 (h_l.mono hG11) rfl rfl ⟨by omega, by omega⟩) (W.ok (ok_loadE (vs := [.int .i64 _, .int .i64 _, .string _, .string _, .bool _, .string _]) ty150 he12 rfl rfl rfl (by simp)) (W.qcallV (fst := []) (caps := []) rfl (frw_fc _ _ _ _ _ _) rfl (W.nil (thn_n ?_))))
  refine WC.cond (b := _) rfl (fun h16 => ?_) (fun h16 => ?_)
  ·refine WC.seq (WC.region (W.mv (W.as (W.nil (thn_n (WC.ret (blk_r (thn_r (thn_r (blk_r (thn_r ?_)))))))))))
   refine ⟨.inr rfl, [_], ⟨rfl, trivial⟩, [], sn9, ?_⟩
   refine congrArg (Value.int .i64) ?_
   exact (idxN_at (q := isW) (by omega) h16 hj).symm
  refine WC.skip (blk_n (thn_n (WC.region (W.ok (ok_add rfl rfl (by omega)) (W.mv (W.nil (thn_n ?_)))))))
  exact ⟨Le.rfl, k + 1, ⟨eqv, eqv, eqv, eqv, trivial⟩, ⟨rfl, by omega, fun j h hji => by
      by_cases e2 : j = k
      · subst e2; exact h16
      · exact hj j h (by omega)⟩, by omega⟩
 have p9 := of_decide_eq_false h9
 refine WC.exit (thn_x (thn_x (blk_h (thn_n (WC.seq (WC.region (W.as (W.nil (thn_n (WC.ret ?_))))))))))
 refine ⟨.inr rfl, [_], ⟨rfl, trivial⟩, [], sn9, ?_⟩
 refine congrArg (Value.int .i64) ?_
 exact (idxN_no (q := isW) (fun j h => hj j (by omega) (by omega))).symm

theorem front_fc {G : GH} {v_l : Value} {l : List Msg} (h_l : SlR eMsg G v_l l) :
    Fc Tryz.prog 121 [v_l] G [] (fun v G' M' => M' = [] ∧ ∃ u0, v = u0 ∧ SlR eMsg G' u0 (frontN l)) := by
 obtain ⟨sa_l, sc_l, rfl⟩ := h_l.form
 have hl := h_l.len47
 have hix := idxN_le isW l
 refine Fc.intro (rs := [.tmp 2]) cl121 Tryz.func121 rfl Tryz.ntmps121 rfl rfl (fun w0 => ?_)
 refine WC.seq (WC.region (W.as (W.nil (thn_n (WC.seq (WC.region (W.mv (W.qcall (ixw_fc h_l) rfl (W.as (W.nil (thn_n (WC.seq (WC.seq (WC.region (W.mv ?_)))))))))))))))
 refine W.nil (thn_n (WC.block (WC.seq (WC.region (W.ok (ok_eql rfl rfl) (W.as (W.nil (thn_n ?_))))))))
 refine WC.cond (b := _) rfl (fun h8 => ?_) (fun h8 => ?_)
 ·have p8 := of_decide_eq_true h8
  refine WC.seq (WC.region (W.mv (W.call (Mp := []) (clonem_fc h_l) rfl pr9 ?_)))
  intro _ G17 _ hG17 q19
  refine match q19 with | ⟨e_20, _, e_21, hv18⟩ => ?_
  subst e_20
  subst e_21
  have q23 := hv18.form
  refine match q23 with | ⟨sa_hv18, sc_hv18, e_22⟩ => ?_
  subst e_22
  refine W.as (W.nil (thn_n (WC.ret (blk_r (thn_r ?_)))))
  refine ⟨.inr rfl, [_], ⟨rfl, trivial⟩, [], sn9, ?_⟩
  refine ⟨rfl, _, rfl, ?_⟩
  · exact SlR.cast hv18 (front_all p8)
 have p8 := of_decide_eq_false h8
 refine WC.seq (WC.region (W.ok (ok_eql rfl rfl) (W.as (W.nil (thn_n ?_)))))
 refine WC.cond (b := _) rfl (fun h12 => ?_) (fun h12 => ?_)
 ·have p12 := of_decide_eq_true h12
  refine WC.region (W.as (W.nil (blk_n (thn_n (WC.seq (WC.region (W.mv (W.mv ?_))))))))
  have hs24 := SlR.slice h_l (lo := 0) (hi := 1) (by omega) (by omega)
  refine W.ok (ok_slice (0) (1) sl40 ty150 h_l rfl rfl ⟨_, _, rfl, by omega⟩ ⟨by omega, by omega⟩) (W.call (Mp := []) (clonem_fc hs24) rfl pr9 ?_)
  intro _ G25 _ hG25 q27
  refine match q27 with | ⟨e_28, _, e_29, hv26⟩ => ?_
  subst e_28
  subst e_29
  have q31 := hv26.form
  refine match q31 with | ⟨sa_hv26, sc_hv26, e_30⟩ => ?_
  subst e_30
  refine W.as (W.nil (thn_n (WC.ret ?_)))
  refine ⟨.inr rfl, [_], ⟨rfl, trivial⟩, [], sn9, ?_⟩
  refine ⟨rfl, _, rfl, ?_⟩
  · exact SlR.cast hv26 (front_one p8 p12)
 have p12 := of_decide_eq_false h12
 refine WC.skip (blk_n (thn_n (WC.seq (WC.region (W.mv (W.mv ?_))))))
 have hs32 := SlR.slice h_l (lo := 0) (hi := (idxN isW l).toNat) (by omega) (by omega)
 refine W.ok (ok_slice (0) ((idxN isW l).toNat) sl40 ty150 h_l rfl rfl ⟨_, _, rfl, by omega⟩ ⟨by omega, by omega⟩) (W.call (Mp := []) (clonem_fc hs32) rfl pr9 ?_)
 intro _ G33 _ hG33 q35
 refine match q35 with | ⟨e_36, _, e_37, hv34⟩ => ?_
 subst e_36
 subst e_37
 have q39 := hv34.form
 refine match q39 with | ⟨sa_hv34, sc_hv34, e_38⟩ => ?_
 subst e_38
 refine W.as (W.nil (thn_n (WC.ret ?_)))
 refine ⟨.inr rfl, [_], ⟨rfl, trivial⟩, [], sn9, ?_⟩
 refine ⟨rfl, _, rfl, ?_⟩
 · exact SlR.cast hv34 (front_take p8 p12)

theorem for_fc {G : GH} {v_P : Value} {P : List Str} (h_P : SlR eStr G v_P P) {v_l : Value} {l : List Msg} (h_l : SlR eMsg G v_l l) (i : Int) (hks : ∀ m ∈ l, m.key.b.size < 140737488355328) (hr : rising P = true) (hi : i64 i) :
    Fc Tryz.prog 128 [v_P, v_l, .int .i64 i] G [] (fun v G' M' => M' = [] ∧ ∃ u0, v = u0 ∧ SlR eMsg G' u0 (forN P l i)) := by
 obtain ⟨sa_P, sc_P, rfl⟩ := h_P.form
 obtain ⟨sa_l, sc_l, rfl⟩ := h_l.form
 have hl := h_l.len47
 have hlb : l.length * 72 ≤ 140737488355328 := h_l.bytes
 have hfl := front_len l
 have hkf : ∀ m ∈ frontN l, m.key.b.size < 140737488355328 := fun m h => hks m (front_mem h)
 refine Fc.intro (rs := [.tmp 6]) cl128 Tryz.func128 rfl Tryz.ntmps128 rfl rfl (fun w0 => ?_)
 refine WC.seq (WC.region (W.as (W.nil (thn_n (WC.seq (WC.region (W.as (W.nil (thn_n (WC.seq (WC.region (W.mv (W.mv (W.qcall (brange_fc h_P _ hi) rfl (W.alloc zr45 (fun b40 => ?_))))))))))))))))
 refine W.store (i := 0) (vs := [.string _, .string _, .bool _]) (L' := [.string _, .string _, .bool _]) ty45 rfl rfl rfl rfl rfl rfl rfl rfl (W.nil (thn_n (WC.seq (WC.seq (WC.region (W.mv (W.call (Mp := []) (front_fc h_l) rfl pr9 ?_)))))))
 intro _ G41 _ hG41 q43
 refine match q43 with | ⟨e_44, _, e_45, hv42⟩ => ?_
 subst e_44
 subst e_45
 have q47 := hv42.form
 refine match q47 with | ⟨sa_hv42, sc_hv42, e_46⟩ => ?_
 subst e_46
 refine W.ok (ok_len sl40 hv42 rfl) (W.mv (W.nil (thn_n (WC.block ?_))))
 refine WC.loop (X := (Nat) × Value × MH) (fun k => [(19, .int .i64 ((k.1 : Nat) : Int)), (8, .pointer (some ⟨b40, 0, none⟩)), (0, .slice sa_P P.length sc_P), (2, .int .i64 i), (17, .slice sa_hv42 (frontN (l)).length sc_hv42), (18, .int .i64 (((frontN (l)).length : Nat) : Int)), (7, k.2.1)]) (fun k G Ml => Ml = ((b40, .cells (List.toArray [.string (rangeN P i).lo.b, .string (rangeN P i).hi.b, .bool (rangeN P i).opn]) 45 (0, 0)) :: (k.2.2 ++ [])) ∧ OwnR eMsg 150 G k.2.1 (((frontN l).take k.1).filterMap (forF P i)) k.2.2 ∧ k.1 ≤ (frontN l).length) (fun k => (frontN l).length - k.1) (0, .slice none 0 0, ([] : MH)) ⟨eqv, eqv, eqv, eqv, eqv, eqv, eqv, trivial⟩ ?_ ?_
 ·exact ⟨rfl, (by exact OwnR.nil), by omega⟩
 rintro ⟨k, v_7, M_7⟩ gG48 G48 _ hG48 ⟨rfl, ho_7, hk⟩
 try dsimp only at ho_7 hk
 have hfm := fm_lek (forF P i) (frontN l) k
 refine WC.fr (f := setL gG48 [(19, .int .i64 ((k : Nat) : Int)), (8, .pointer (some ⟨b40, 0, none⟩)), (0, .slice sa_P P.length sc_P), (2, .int .i64 i), (17, .slice sa_hv42 (frontN (l)).length sc_hv42), (18, .int .i64 (((frontN (l)).length : Nat) : Int)), (7, v_7)]) rfl (WC.seq (WC.region (W.ok (ok_lss rfl rfl) (W.nil (thn_n (WC.seq ?_))))))
 refine WC.cond (b := _) rfl (fun h20 => ?_) (fun h20 => ?_)
 ·have p20 := of_decide_eq_true h20
  refine WC.skip (thn_n (WC.seq (WC.block (WC.seq (WC.region ?_)))))
  have q53 := (hv42.mono hG48).at (i := k) (by omega)
  refine match q53 with | ⟨_, he49, ⟨e_52, hm50⟩⟩ => ?_
  subst e_52
  refine W.ok (ok_indexAddr (i := k) sl40 ty150 (hv42.mono hG48) rfl rfl ⟨by omega, by omega⟩) (W.ok (ok_loadE (vs := [.int .i64 _, .int .i64 _, .string _, .string _, .bool _, .string _]) ty150 he49 rfl rfl rfl (by simp)) (W.alloc zr150 (fun b54 => (W.store (i := 0) (vs := [.int .i64 _, .int .i64 _, .string _, .string _, .bool _, .string _]) (L' := [.int .i64 _, .int .i64 _, .string _, .string _, .bool _, .string _]) ty150 rfl rfl rfl rfl rfl rfl rfl rfl (W.nil (thn_n (WC.seq (WC.seq (WC.region (W.mv (W.ok (ok_fieldB fd150_2 rfl) (W.ok (ok_loadB (i := 0) (vs := [.string _]) ty9 rfl rfl rfl rfl (by simp)) (W.qcall (broute_fc (h_P.mono (hG41.trans hG48)) _ hr) rfl (W.mv (W.ok (ok_neq rfl rfl) ?_)))))))))))))))
  refine W.nil (thn_n ?_)
  refine WC.cond (b := _) rfl (fun h28 => ?_) (fun h28 => ?_)
  ·have p28 := nd_t h28
   refine WC.exit (thn_x (blk_h (thn_n (WC.region (W.ok (ok_add rfl rfl (by omega)) (W.mv (W.sub (sr9.cons _) (W.nil (thn_n ?_)))))))))
   exact ⟨Le.rfl, (k + 1, v_7, M_7), ⟨eqv, eqv, eqv, eqv, eqv, eqv, eqv, trivial⟩, ⟨rfl, (by have h := ho_7; rw [for_n (by omega) (fun hh => absurd hh.1 p28)]; exact h), by omega⟩, by omega⟩
  have p28 := nd_f h28
  refine WC.skip (thn_n (WC.seq (WC.region (W.ok (ok_loadB (i := 0) (vs := [.int .i64 _, .int .i64 _, .string _, .string _, .bool _, .string _]) ty150 rfl rfl rfl rfl (by simp)) (W.ok (ok_loadB (i := 1) (vs := [.string _, .string _, .bool _]) ty45 rfl rfl rfl rfl (by simp)) (W.qcall (mclip_fc _ _ _ _ _ _ _ _ _ (hkf _ (List.getElem_mem (by omega : k < (frontN l).length)))) rfl (W.mv (W.ok (ok_extract rfl rfl) (W.ok (ok_extract rfl rfl) (W.alloc zr150 (fun b55 => (W.store (i := 0) (vs := [.int .i64 _, .int .i64 _, .string _, .string _, .bool _, .string _]) (L' := [.int .i64 _, .int .i64 _, .string _, .string _, .bool _, .string _]) ty150 rfl rfl rfl rfl rfl rfl rfl rfl (W.as (W.nil (thn_n (WC.seq ?_))))))))))))))))
  refine WC.region (W.mv (W.nil (thn_n ?_)))
  refine WC.cond (b := _) rfl (fun h32_1 => ?_) (fun h32_1 => ?_)
  ·refine WC.region (W.mv (W.ok (ok_loadB (i := 0) (vs := [.int .i64 _, .int .i64 _, .string _, .string _, .bool _, .string _]) ty150 rfl rfl rfl rfl (by simp)) (W.lit (e := eMsg) (l := [(Msg.clip (frontN l)[k] (rangeN P i)).1]) (css := [[.int .i64 _, .int .i64 _, .string _, .string _, .bool _, .string _]]) sl40 ty150 zr150 rfl rfl rfl rfl rfl rfl ⟨⟨rfl, clip_ok (by assumption)⟩, trivial⟩ (fun bl56 G56 hG56 hv56 => (W.app (e := eMsg) sl40 ty150 zr150 rfl by150 rfl rfl ((ho_7.mono hG56)) (hv56) (pmC (pmC (pmC pr9))) (by show (List.length _ + 1) * 72 ≤ _; omega) (fun v57 Ms58 ho59 => (W.perm (pmC (pmC (pmC pr9))).symm (W.as (W.nil (blk_n (thn_n (WC.region (W.ok (ok_add rfl rfl (by omega)) (W.mv (W.sub ((sr9.cons _).cons _) (W.nil (thn_n ?_)))))))))))))))))
   exact ⟨hG56, (k + 1, v57, Ms58), ⟨eqv, eqv, eqv, eqv, eqv, eqv, eqv, trivial⟩, ⟨rfl, (by have h := ho59; rw [for_t (by omega) p28 h32_1]; exact h), by omega⟩, by omega⟩
  refine WC.skip (blk_n (thn_n (WC.region (W.ok (ok_add rfl rfl (by omega)) (W.mv (W.sub ((sr9.cons _).cons _) (W.nil (thn_n ?_))))))))
  exact ⟨Le.rfl, (k + 1, v_7, M_7), ⟨eqv, eqv, eqv, eqv, eqv, eqv, eqv, trivial⟩, ⟨rfl, (by have h := ho_7; rw [for_n (by omega) (fun hh => absurd (h32_1.symm.trans hh.2) (by simp))]; exact h), by omega⟩, by omega⟩
 have p20 := of_decide_eq_false h20
 refine WC.exit (thn_x (thn_x (blk_h (thn_n (WC.seq (WC.region (W.mv (W.as (W.nil (thn_n (WC.giveO ho_7 (pmC pr9) (fun G60 hG60 hv60 => (WC.ret ?_)))))))))))))
 refine ⟨.inr rfl, [_], ⟨rfl, trivial⟩, [], sn9, ?_⟩
 refine ⟨rfl, _, rfl, ?_⟩
 · have h := hv60; rw [List.take_of_length_le (by omega)] at h; exact h

theorem clonemo9_fc {G : GH} {v_a : Value} {a : List Msg} (h_a : SlR eMsg G v_a a) :
    Fc Tryz.prog 156 [v_a] G [] (fun v G' M' => OwnR eMsg 150 G' v (a) M') := by
 obtain ⟨sa_a, sc_a, rfl⟩ := h_a.form
 have ha := h_a.bytes
 refine Fc.intro (rs := [.tmp 2]) cl156 Tryz.func156 rfl Tryz.ntmps156 rfl rfl (fun w0 => ?_)
 refine WC.seq (WC.region (W.as (W.nil (thn_n (WC.seq (WC.seq (WC.region (W.mv (W.ok (ok_eqlNil sl40 rfl rfl) (W.nil (thn_n ?_)))))))))))
 refine WC.cond (b := _) rfl (fun h4 => ?_) (fun h4 => ?_)
 ·have hn := SlR.isNone h_a h4
  subst hn
  refine WC.seq (WC.region (W.as (W.nil (thn_n (WC.ret (thn_r ?_))))))
  refine ⟨.inr rfl, [_], ⟨rfl, trivial⟩, [], sn9, ?_⟩
  exact OwnR.nil
 refine WC.skip (thn_n (WC.seq (WC.region (W.lit0 (e := eMsg) sl40 ty150 zr150 rfl (fun v61 Ms62 ho63 => (W.mv (W.app (e := eMsg) sl40 ty150 zr150 rfl by150 rfl rfl (ho63) (h_a) pr9 (by simpa using ha) (fun v64 Ms65 ho66 => (W.as (W.nil (thn_n (WC.ret ?_))))))))))))
 refine ⟨.inr rfl, [_], ⟨rfl, trivial⟩, Ms65, List.sublist_append_left _ _, ?_⟩
 have h := ho66
 rw [List.nil_append] at h
 exact h

theorem badd_fc {G : GH} {v_l : Value} {l : List Msg} (h_l : SlR eMsg G v_l l) (ms : Int) (mk : Int) (mkey : Str) (mhi : Str) (mo : Bool) (mv : Str) (n : Int) (hs : ∀ m ∈ l, m.key.b.size ≤ 16 ∧ m.val.b.size ≤ 16) (hn : 0 ≤ n ∧ n ≤ 9223372036854775807) (hmi : i64 ms ∧ i64 mk) (hl9 : l.length ≤ 1000000) :
    Fc Tryz.prog 166 [v_l, .agg #[.int .i64 ms, .int .i64 mk, .string mkey.b, .string mhi.b, .bool mo, .string mv.b], .int .i64 n] G [] (fun v G' M' => M' = [] ∧ ∃ r : List Msg × Bool, r = addN n l (⟨ms, mk, mkey, mhi, mo, mv⟩ : Msg) ∧ ∃ u0, v = .tuple #[u0, .bool (r.2)] ∧ SlR eMsg G' u0 (r.1)) := by
 obtain ⟨sa_l, sc_l, rfl⟩ := h_l.form
 have hl := h_l.len47
 have hlb : l.length * 72 ≤ 140737488355328 := h_l.bytes
 refine Fc.intro (rs := [.tmp 6, .tmp 7]) cl166 Tryz.func166 rfl Tryz.ntmps166 rfl rfl (fun w0 => ?_)
 refine WC.seq (WC.region (W.box (L := [.int .i64 _, .int .i64 _, .string _, .string _, .bool _, .string _]) rfl rfl (fun b67 => (W.as (W.as (W.nil (thn_n (WC.seq (WC.seq (WC.draw mix (by kernel_rfl) (W.mv (W.ok (ok_loadB (i := 0) (vs := [.int .i64 _, .int .i64 _, .string _, .string _, .bool _, .string _]) ty150 rfl rfl rfl rfl (by simp)) (W.mv (W.qcall (bfits_fc h_l _ _ _ _ _ _ _ (by assumption) (by omega)) rfl (W.ok (ok_not rfl) ?_)))))))))))))))
 refine W.mv ?_
 refine W.sp 13 rfl (fun h12 => ?_) (fun h12 => ?_)
 ·have q11 : ¬ (Msg.size (⟨ms, mk, mkey, mhi, mo, mv⟩ : Msg) ≤ n - sizesN l) := by simpa using h12
  refine W.no (dj := 13) rfl rfl h12 (W.no (dj := 13) rfl rfl h12 (W.no (dj := 13) rfl rfl h12 (W.no (dj := 13) rfl rfl h12 (W.nou (dj := 17) rfl rfl (W.nou (dj := 17) rfl rfl (W.nou (dj := 17) rfl rfl (W.nou (dj := 17) rfl rfl (W.nou (dj := 17) rfl rfl (W.nou (dj := 17) rfl rfl (W.nou (dj := 17) rfl rfl (W.nou (dj := 17) rfl rfl (W.nou (dj := 17) rfl rfl (W.nou (dj := 17) rfl rfl ?_)))))))))))))
  refine W.no (dj := 13) rfl rfl h12 (W.ok (ok_pick_t rfl h12) (W.nil (thn_n (WC.cond_t rfl rfl (WC.seq (WC.region (W.as (W.as (W.nil (thn_n (WC.ret (thn_r ?_))))))))))))
  refine ⟨.inr rfl, [_, _], ⟨rfl, rfl, trivial⟩, [], sn9, ?_⟩
  refine ⟨rfl, _, (addN_f (room_f1 q11)).symm, _, rfl, ?_⟩
  · exact SlR.nil
 have q11 : Msg.size (⟨ms, mk, mkey, mhi, mo, mv⟩ : Msg) ≤ n - sizesN l := by simpa using h12
 refine W.yes (dj := 13) rfl rfl h12 (W.mv (W.yes (dj := 13) rfl rfl h12 (W.ok (ok_len sl40 h_l rfl) (W.yes (dj := 13) rfl rfl h12 (W.ok (ok_gtr rfl rfl) (W.yes (dj := 13) rfl rfl h12 (W.mv ?_)))))))
 refine W.sp 17 rfl (fun h16 => ?_) (fun h16 => ?_)
 ·have p16 := of_decide_eq_true h16
  refine W.yes (dj := 17) rfl rfl h16 (W.mv (W.yes (dj := 17) rfl rfl h16 (W.mv (W.yes (dj := 17) rfl rfl h16 (W.ok (ok_len sl40 h_l rfl) (W.yes (dj := 17) rfl rfl h16 (W.ok (ok_sub rfl rfl (by omega)) (W.yes (dj := 17) rfl rfl h16 ?_))))))))
  have q72 := h_l.at (i := l.length - 1) (by omega)
  refine match q72 with | ⟨_, he68, ⟨e_71, hm69⟩⟩ => ?_
  subst e_71
  refine W.ok (ok_indexAddr (i := l.length - 1) sl40 ty150 h_l rfl rfl ⟨by omega, by omega⟩) (W.yes (dj := 17) rfl rfl h16 (W.ok (ok_fieldE fd150_0 rfl he68.form) (W.yes (dj := 17) rfl rfl h16 (W.ok (ok_loadE (vs := [.int .i64 _]) ty3 he68 rfl rfl rfl (by simp)) (W.yes (dj := 17) rfl rfl h16 (W.ok (ok_fieldB fd150_0 rfl) (W.yes (dj := 17) rfl rfl h16 (W.ok (ok_loadB (i := 0) (vs := [.int .i64 _]) ty3 rfl rfl rfl rfl (by simp)) (W.yes (dj := 17) rfl rfl h16 (W.ok (ok_geq rfl rfl) (W.yes (dj := 13) rfl rfl h12 (W.ok (ok_pick_t rfl h16) (W.ok (ok_pick_f rfl h12) ?_)))))))))))))
  refine W.nil (thn_n ?_)
  refine WC.cond (b := _) rfl (fun h27 => ?_) (fun h27 => ?_)
  ·have p27 := of_decide_eq_true h27
   refine WC.seq (WC.region (W.as (W.as (W.nil (thn_n (WC.ret (thn_r ?_)))))))
   refine ⟨.inr rfl, [_, _], ⟨rfl, rfl, trivial⟩, [], sn9, ?_⟩
   refine ⟨rfl, _, (addN_f (room_f2 (by omega) (by dsimp only; omega))).symm, _, rfl, ?_⟩
   · exact SlR.nil
  have p27 := of_decide_eq_false h27
  refine WC.skip (thn_n (WC.seq (WC.drawW _ sr9.k9 mix (by rintro _ _ _ _ ⟨h | h, _⟩ <;> cases h) (WD.tk 0 rfl (ok_mv) (WD.tk 2 rfl (ok_loadB (i := 0) (vs := [.int .i64 _, .int .i64 _, .string _, .string _, .bool _, .string _]) ty150 rfl rfl rfl rfl (by simp)) ?_)))))
  refine WD.any [1, 3] (by kernel_rfl) rfl ⟨⟨_, rfl, rfl, ?_⟩, ⟨_, rfl, rfl, ?_⟩, trivial⟩
  ·refine W.call (Mp := []) (clonemo9_fc h_l) rfl pr9 ?_
   rintro v74 G73 Ms75 hG73 ho76
   refine W.perm (pmC pr9).symm ?_
   have q80 := ho76.form
   refine match q80 with | ⟨sa77, sc78, e_79⟩ => ?_
   subst e_79
   refine W.nil (WD.n9 hG73 sn9.k9 (WD.a1 3 rfl (W.litO (e := eMsg) (l := [(⟨ms, mk, mkey, mhi, mo, mv⟩ : Msg)]) (css := [[.int .i64 _, .int .i64 _, .string _, .string _, .bool _, .string _]]) sl40 ty150 zr150 rfl rfl rfl rfl rfl rfl ⟨⟨rfl, hmi⟩, trivial⟩ (fun v81 Ms82 ho83 => (W.perm (pmC pr9).symm ?_)))))
   have q87 := ho83.form
   refine match q87 with | ⟨sa84, sc85, e_86⟩ => ?_
   subst e_86
   refine W.nil (WD.n9 Le.rfl sn9.k9 (WD.a1 4 rfl (W.giveO ho83 (pmC pr9) (fun G88 hG88 hv88 => (W.app (e := eMsg) sl40 ty150 zr150 rfl by150 rfl rfl ((ho76.mono hG88)) (hv88) (pmC pr9) (by show (List.length _ + List.length _) * 72 ≤ _; simp; omega) (fun v89 Ms90 ho91 => (W.perm (pmC pr9).symm ?_)))))))
   have q95 := ho91.form
   refine match q95 with | ⟨sa92, sc93, e_94⟩ => ?_
   subst e_94
   refine W.nil (WD.n9 hG88 sn9.k9 (WD.tk 5 rfl (ok_as) (WD.tk 6 rfl (ok_as) (WD.done (by kernel_rfl) (thn_n (WC.giveO ho91 (pmC pr9) (fun G96 hG96 hv96 => (WC.ret ?_))))))))
   refine ⟨.inr rfl, [_, _], ⟨rfl, rfl, trivial⟩, [], sn9, ?_⟩
   refine ⟨rfl, _, (addN_t (room_iff.2 ⟨q11, fun h => by dsimp only; omega⟩)).symm, _, rfl, ?_⟩
   · exact hv96
  refine W.litO (e := eMsg) (l := [(⟨ms, mk, mkey, mhi, mo, mv⟩ : Msg)]) (css := [[.int .i64 _, .int .i64 _, .string _, .string _, .bool _, .string _]]) sl40 ty150 zr150 rfl rfl rfl rfl rfl rfl ⟨⟨rfl, hmi⟩, trivial⟩ (fun v97 Ms98 ho99 => (W.perm (pmC pr9).symm ?_))
  have q103 := ho99.form
  refine match q103 with | ⟨sa100, sc101, e_102⟩ => ?_
  subst e_102
  refine W.nil (WD.n9 Le.rfl sn9.k9 (WD.a1 1 rfl (W.call (Mp := []) (clonemo9_fc h_l) rfl pr9 ?_)))
  rintro v105 G104 Ms106 hG104 ho107
  refine W.perm (pmC pr9).symm ?_
  have q111 := ho107.form
  refine match q111 with | ⟨sa108, sc109, e_110⟩ => ?_
  subst e_110
  refine W.nil (WD.n9 hG104 sn9.k9 (WD.a1 4 rfl (W.giveO (ho99.mono hG104) (pmC (pmA pr9)) (fun G112 hG112 hv112 => (W.app (e := eMsg) sl40 ty150 zr150 rfl by150 rfl rfl ((ho107.mono hG112)) (hv112) (pmC pr9) (by show (List.length _ + List.length _) * 72 ≤ _; simp; omega) (fun v113 Ms114 ho115 => (W.perm (pmC pr9).symm ?_)))))))
  have q119 := ho115.form
  refine match q119 with | ⟨sa116, sc117, e_118⟩ => ?_
  subst e_118
  refine W.nil (WD.n9 hG112 sn9.k9 (WD.tk 5 rfl (ok_as) (WD.tk 6 rfl (ok_as) (WD.done (by kernel_rfl) (thn_n (WC.giveO ho115 (pmC pr9) (fun G120 hG120 hv120 => (WC.ret ?_))))))))
  refine ⟨.inr rfl, [_, _], ⟨rfl, rfl, trivial⟩, [], sn9, ?_⟩
  refine ⟨rfl, _, (addN_t (room_iff.2 ⟨q11, fun h => by dsimp only; omega⟩)).symm, _, rfl, ?_⟩
  · exact hv120
 have p16 := of_decide_eq_false h16
 refine W.no (dj := 17) rfl rfl h16 (W.no (dj := 17) rfl rfl h16 (W.no (dj := 17) rfl rfl h16 (W.no (dj := 17) rfl rfl h16 (W.no (dj := 17) rfl rfl h16 (W.no (dj := 17) rfl rfl h16 (W.no (dj := 17) rfl rfl h16 (W.no (dj := 17) rfl rfl h16 (W.no (dj := 17) rfl rfl h16 (W.no (dj := 17) rfl rfl h16 (W.yes (dj := 13) rfl rfl h12 (W.ok (ok_pick_f rfl h16) (W.ok (ok_pick_f rfl h12) (W.nil (thn_n ?_))))))))))))))
 refine WC.cond_f rfl rfl (WC.skip (thn_n (WC.seq (WC.drawW _ sr9.k9 mix (by rintro _ _ _ _ ⟨h | h, _⟩ <;> cases h) (WD.tk 0 rfl (ok_mv) (WD.tk 2 rfl (ok_loadB (i := 0) (vs := [.int .i64 _, .int .i64 _, .string _, .string _, .bool _, .string _]) ty150 rfl rfl rfl rfl (by simp)) ?_))))))
 refine WD.any [1, 3] (by kernel_rfl) rfl ⟨⟨_, rfl, rfl, ?_⟩, ⟨_, rfl, rfl, ?_⟩, trivial⟩
 ·refine W.call (Mp := []) (clonemo9_fc h_l) rfl pr9 ?_
  rintro v122 G121 Ms123 hG121 ho124
  refine W.perm (pmC pr9).symm ?_
  have q128 := ho124.form
  refine match q128 with | ⟨sa125, sc126, e_127⟩ => ?_
  subst e_127
  refine W.nil (WD.n9 hG121 sn9.k9 (WD.a1 3 rfl (W.litO (e := eMsg) (l := [(⟨ms, mk, mkey, mhi, mo, mv⟩ : Msg)]) (css := [[.int .i64 _, .int .i64 _, .string _, .string _, .bool _, .string _]]) sl40 ty150 zr150 rfl rfl rfl rfl rfl rfl ⟨⟨rfl, hmi⟩, trivial⟩ (fun v129 Ms130 ho131 => (W.perm (pmC pr9).symm ?_)))))
  have q135 := ho131.form
  refine match q135 with | ⟨sa132, sc133, e_134⟩ => ?_
  subst e_134
  refine W.nil (WD.n9 Le.rfl sn9.k9 (WD.a1 4 rfl (W.giveO ho131 (pmC pr9) (fun G136 hG136 hv136 => (W.app (e := eMsg) sl40 ty150 zr150 rfl by150 rfl rfl ((ho124.mono hG136)) (hv136) (pmC pr9) (by show (List.length _ + List.length _) * 72 ≤ _; simp; omega) (fun v137 Ms138 ho139 => (W.perm (pmC pr9).symm ?_)))))))
  have q143 := ho139.form
  refine match q143 with | ⟨sa140, sc141, e_142⟩ => ?_
  subst e_142
  refine W.nil (WD.n9 hG136 sn9.k9 (WD.tk 5 rfl (ok_as) (WD.tk 6 rfl (ok_as) (WD.done (by kernel_rfl) (thn_n (WC.giveO ho139 (pmC pr9) (fun G144 hG144 hv144 => (WC.ret ?_))))))))
  refine ⟨.inr rfl, [_, _], ⟨rfl, rfl, trivial⟩, [], sn9, ?_⟩
  refine ⟨rfl, _, (addN_t (room_iff.2 ⟨q11, fun h => by omega⟩)).symm, _, rfl, ?_⟩
  · exact hv144
 refine W.litO (e := eMsg) (l := [(⟨ms, mk, mkey, mhi, mo, mv⟩ : Msg)]) (css := [[.int .i64 _, .int .i64 _, .string _, .string _, .bool _, .string _]]) sl40 ty150 zr150 rfl rfl rfl rfl rfl rfl ⟨⟨rfl, hmi⟩, trivial⟩ (fun v145 Ms146 ho147 => (W.perm (pmC pr9).symm ?_))
 have q151 := ho147.form
 refine match q151 with | ⟨sa148, sc149, e_150⟩ => ?_
 subst e_150
 refine W.nil (WD.n9 Le.rfl sn9.k9 (WD.a1 1 rfl (W.call (Mp := []) (clonemo9_fc h_l) rfl pr9 ?_)))
 rintro v153 G152 Ms154 hG152 ho155
 refine W.perm (pmC pr9).symm ?_
 have q159 := ho155.form
 refine match q159 with | ⟨sa156, sc157, e_158⟩ => ?_
 subst e_158
 refine W.nil (WD.n9 hG152 sn9.k9 (WD.a1 4 rfl (W.giveO (ho147.mono hG152) (pmC (pmA pr9)) (fun G160 hG160 hv160 => (W.app (e := eMsg) sl40 ty150 zr150 rfl by150 rfl rfl ((ho155.mono hG160)) (hv160) (pmC pr9) (by show (List.length _ + List.length _) * 72 ≤ _; simp; omega) (fun v161 Ms162 ho163 => (W.perm (pmC pr9).symm ?_)))))))
 have q167 := ho163.form
 refine match q167 with | ⟨sa164, sc165, e_166⟩ => ?_
 subst e_166
 refine W.nil (WD.n9 hG160 sn9.k9 (WD.tk 5 rfl (ok_as) (WD.tk 6 rfl (ok_as) (WD.done (by kernel_rfl) (thn_n (WC.giveO ho163 (pmC pr9) (fun G168 hG168 hv168 => (WC.ret ?_))))))))
 refine ⟨.inr rfl, [_, _], ⟨rfl, rfl, trivial⟩, [], sn9, ?_⟩
 refine ⟨rfl, _, (addN_t (room_iff.2 ⟨q11, fun h => by omega⟩)).symm, _, rfl, ?_⟩
 · exact hv168

end Go.Proofs.YtmbafmifalppaaaGreat
