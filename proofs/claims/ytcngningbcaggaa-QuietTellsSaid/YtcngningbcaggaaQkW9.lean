/- Walks of functions that tell whether messages may be. -/
import Derived.Test.YtcngningbcaggaaQkW2
import Derived.Test.YtcngningbcaggaaQkQc
set_option maxRecDepth 100000
set_option maxHeartbeats 1600000
set_option linter.unusedVariables false
set_option linter.unusedSimpArgs false
set_option linter.unnecessarySimpa false
namespace Go.Proofs.Ytcngningbcaggaa
open Go Go.Fw Go.RowKit
attribute [local irreducible] Ok W WC
theorem mright_fc {G : GH} (ms : Int) (mk : Int) (mkey : Str) (mhi : Str) (mo : Bool) (mv : Str) :
    Fc Try.prog 127 [.agg #[iV ms, iV mk, sV mkey.b, sV mhi.b, .bool mo, sV mv.b]] G [] (fun v _ _ => v = .bool (decide (Msg.R (⟨ms, mk, mkey, mhi, mo, mv⟩ : Msg)))) := by
 have h1 := mkey.le
 have h2 := mv.le
 have h3 := mhi.le
 refine Fc.go [.tmp 2] Try.func127 Try.ntmps127 rfl (fun w0 => (g9 2 ?_))
 refine W.box (L := [iV _, iV _, sV _, sV _, .bool _, sV _]) rfl rfl (fun b1 => (g9 10 ?_))
 refine W.sd 6 (fun h5 p5 => ?_) (fun h5 p5 => ?_)
 ·refine g9 28 ?_
  refine congrArg Value.bool ?_
  rw [Bool.eq_iff_iff, decide_eq_true_iff]
  simp only [Msg.R]
  first | (simp_all [← Str.b_inj, Str.nil]; done) | (simp_all [← Str.b_inj, Str.nil]; omega)
 refine g9 10 ?_
 refine W.sd 12 (fun h10 p10 => ?_) (fun h10 p10 => ?_)
 ·refine g9 22 ?_
  refine congrArg Value.bool ?_
  rw [Bool.eq_iff_iff, decide_eq_true_iff]
  simp only [Msg.R]
  first | (simp_all [← Str.b_inj, Str.nil]; done) | (simp_all [← Str.b_inj, Str.nil]; omega)
 refine g9 10 ?_
 refine W.sd 18 (fun h16 p16 => ?_) (fun h16 p16 => ?_)
 ·refine g9 16 ?_
  refine congrArg Value.bool ?_
  rw [Bool.eq_iff_iff, decide_eq_true_iff]
  simp only [Msg.R]
  first | (simp_all [← Str.b_inj, Str.nil]; done) | (simp_all [← Str.b_inj, Str.nil]; omega)
 refine g9 11 ?_
 refine WC.cd (fun h22 p22 => ?_) (fun h22 p22 => ?_)
 ·refine g9 8 ?_
  refine congrArg Value.bool ?_
  rw [Bool.eq_iff_iff, decide_eq_true_iff]
  simp only [Msg.R]
  first | (simp_all [← Str.b_inj, Str.nil]; done) | (simp_all [← Str.b_inj, Str.nil]; omega)
 refine g9 10 ?_
 refine WC.cd (fun h26 p26 => ?_) (fun h26 p26 => ?_)
 ·refine g9 6 ?_
  refine W.sd 30 (fun h29 p29 => ?_) (fun h29 p29 => ?_)
  ·refine g9 8 ?_
   refine W.sp 34 rfl (fun h33 => ?_) (fun h33 => ?_)
   ·refine g9 10 ?_
    refine W.qcall (rspan_fc _ _ _ _ _ _ (by first | assumption | omega | (dsimp only; omega))) rfl (g9 1 ?_)
    refine W.qcall (empty_fc _ _ _) rfl (g9 9 ?_)
    refine congrArg Value.bool ?_
    rw [Bool.eq_iff_iff, decide_eq_true_iff]
    simp only [Msg.R]
    first | (simp_all [← Str.b_inj, Str.nil]; done) | (simp_all [← Str.b_inj, Str.nil]; omega)
   refine g9 10 ?_
   refine W.sd 40 (fun h37 p37 => ?_) (fun h37 p37 => ?_)
   ·refine g9 3 ?_
    refine W.qcall (rspan_fc _ _ _ _ _ _ (by first | assumption | omega | (dsimp only; omega))) rfl (g9 1 ?_)
    refine W.qcall (empty_fc _ _ _) rfl (g9 9 ?_)
    refine congrArg Value.bool ?_
    rw [Bool.eq_iff_iff, decide_eq_true_iff]
    simp only [Msg.R]
    first | (simp_all [← Str.b_inj, Str.nil]; done) | (simp_all [← Str.b_inj, Str.nil]; omega)
   refine g9 11 ?_
   refine congrArg Value.bool ?_
   rw [Bool.eq_iff_iff, decide_eq_true_iff]
   simp only [Msg.R]
   first | (simp_all [← Str.b_inj, Str.nil]; done) | (simp_all [← Str.b_inj, Str.nil]; omega)
  refine g9 21 ?_
  refine congrArg Value.bool ?_
  rw [Bool.eq_iff_iff, decide_eq_true_iff]
  simp only [Msg.R]
  first | (simp_all [← Str.b_inj, Str.nil]; done) | (simp_all [← Str.b_inj, Str.nil]; omega)
 refine g9 8 ?_
 refine W.sd 49 (fun h48 p48 => ?_) (fun h48 p48 => ?_)
 ·refine g9 8 ?_
  refine W.sp 54 rfl (fun h52 => ?_) (fun h52 => ?_)
  ·refine g9 8 ?_
   refine W.sd 58 (fun h57 p57 => ?_) (fun h57 p57 => ?_)
   ·refine g9 23 ?_
    refine congrArg Value.bool ?_
    rw [Bool.eq_iff_iff, decide_eq_true_iff]
    simp only [Msg.R]
    first | (simp_all [← Str.b_inj, Str.nil]; done) | (simp_all [← Str.b_inj, Str.nil]; omega)
   refine g9 10 ?_
   refine W.sd 63 (fun h61 p61 => ?_) (fun h61 p61 => ?_)
   ·refine g9 16 ?_
    refine congrArg Value.bool ?_
    rw [Bool.eq_iff_iff, decide_eq_true_iff]
    simp only [Msg.R]
    first | (simp_all [← Str.b_inj, Str.nil]; done) | (simp_all [← Str.b_inj, Str.nil]; omega)
   refine g9 8 ?_
   refine W.sd 67 (fun h66 p66 => ?_) (fun h66 p66 => ?_)
   ·refine g9 16 ?_
    refine congrArg Value.bool ?_
    rw [Bool.eq_iff_iff, decide_eq_true_iff]
    simp only [Msg.R]
    first | (simp_all [← Str.b_inj, Str.nil]; done) | (simp_all [← Str.b_inj, Str.nil]; omega)
   refine g9 13 ?_
   refine congrArg Value.bool ?_
   rw [Bool.eq_iff_iff, decide_eq_true_iff]
   simp only [Msg.R]
   first | (simp_all [← Str.b_inj, Str.nil]; done) | (simp_all [← Str.b_inj, Str.nil]; omega)
  refine g9 24 ?_
  refine congrArg Value.bool ?_
  rw [Bool.eq_iff_iff, decide_eq_true_iff]
  simp only [Msg.R]
  first | (simp_all [← Str.b_inj, Str.nil]; done) | (simp_all [← Str.b_inj, Str.nil]; omega)
 refine g9 29 ?_
 refine congrArg Value.bool ?_
 rw [Bool.eq_iff_iff, decide_eq_true_iff]
 simp only [Msg.R]
 first | (simp_all [← Str.b_inj, Str.nil]; done) | (simp_all [← Str.b_inj, Str.nil]; omega)

theorem mall_fc {G : GH} {v_l : Value} {l : List Msg} (h_l : SlR eMsg G v_l l) :
    Fc Try.prog 110 [v_l] G [] (fun v _ _ => v = .bool (decide (MsgsR l))) := by
 obtain ⟨sa_l, sc_l, rfl⟩ := h_l.form
 have hl := h_l.len47
 refine Fc.go [.tmp 2] Try.func110 Try.ntmps110 rfl (fun w0 => (g9 12 ?_))
 refine WC.loop (X := Nat) (fun k => [(3, nt9 k), (0, lV sa_l l.length sc_l)]) (fun k _ Ml => Ml = [] ∧ ∀ i (h : i < l.length), i < k → l[i].R ∧ (0 < i → (l[i - 1]'om9).stamp < l[i].stamp)) (fun k => l.length - k) 0 hs9 ?_ ?_
 ·exact ⟨rfl, fun i _ h => by omega⟩
 rintro k gG2 G2 _ hG2 ⟨rfl, hk⟩
 refine g9 9 ?_
 refine WC.cd (fun h7 p7 => ?_) (fun h7 p7 => ?_)
 ·refine g9 8 ?_
  refine (h_l.mono hG2).a2 (i := k) om9 (fun he3 hm4 => (g9 2 ?_))
  refine W.qcall (mright_fc _ _ _ _ _ _) rfl (g9 2 ?_)
  refine W.sp 16 rfl (fun h15 => ?_) (fun h15 => ?_)
  ·refine g9 32 ?_
   refine congrArg Value.bool ?_
   exact (decide_eq_false fun h => by obtain ⟨q1, q2⟩ := h k om9; first | (have := q2 om9; omega) | (simp [q1] at h15)).symm
  refine g9 6 ?_
  refine W.sd 19 (fun h18 p18 => ?_) (fun h18 p18 => ?_)
  ·refine g9 5 ?_
   refine (h_l.mono hG2).a2 (i := k) om9 (fun he8 hm9 => (g9 12 ?_))
   refine (h_l.mono hG2).a2 (i := k - 1) om9 (fun he13 hm14 => (W.ok (ok_indexAddr (i := k - 1) sl33 ty90 (h_l.mono hG2) rfl rfl ⟨om9, om9⟩) (g9 11 ?_)))
   refine WC.cd (fun h31 p31 => ?_) (fun h31 p31 => ?_)
   ·refine g9 12 ?_
    refine congrArg Value.bool ?_
    exact (decide_eq_false fun h => by obtain ⟨q1, q2⟩ := h k om9; first | (have := q2 om9; omega) | (simp [q1] at h15)).symm
   refine g9 9 ?_
   exact ⟨Le.rfl, k + 1, hs9, ⟨rfl, fun i h hi => by
      by_cases e : i = k
      · subst e; exact ⟨by simpa using h15, fun h0 => by omega⟩
      · exact hk i h om9⟩, om9⟩
  refine g9 27 ?_
  exact ⟨Le.rfl, k + 1, hs9, ⟨rfl, fun i h hi => by
      by_cases e : i = k
      · subst e; exact ⟨by simpa using h15, fun h0 => by omega⟩
      · exact hk i h om9⟩, om9⟩
 refine g9 12 ?_
 refine congrArg Value.bool ?_
 exact (decide_eq_true fun i h => hk i h om9).symm

theorem msizes_fc {G : GH} {v_l : Value} {l : List Msg} (h_l : SlR eMsg G v_l l) (hs : ∀ m ∈ l, m.key.b.size ≤ 16 ∧ m.val.b.size ≤ 16) :
    Fc Try.prog 111 [v_l] G [] (fun v _ _ => v = iV (sizesN l)) := by
 obtain ⟨sa_l, sc_l, rfl⟩ := h_l.form
 have hl := h_l.len47
 refine Fc.go [.tmp 2] Try.func111 Try.ntmps111 rfl (fun w0 => (g9 17 ?_))
 refine WC.loop (X := Nat) (fun k => [(3, iV (sizesN (l.take k))), (4, nt9 k), (0, lV sa_l l.length sc_l)]) (fun k _ Ml => Ml = [] ∧ k ≤ l.length ∧ 0 ≤ sizesN (l.take k) ∧ sizesN (l.take k) ≤ 36 * k) (fun k => l.length - k) 0 hs9 ?_ ?_
 ·exact ⟨rfl, om9, by simp [sizesN], by simp [sizesN]⟩
 rintro k gG18 G18 _ hG18 ⟨rfl, hk, h0, h36⟩
 refine g9 9 ?_
 refine WC.cd (fun h8 p8 => ?_) (fun h8 p8 => ?_)
 ·have hz := sizes_succ (l := l) (k := k) om9
  have hz2 := size_36 (hs l[k] (List.getElem_mem _))
  have he : Msg.size ⟨l[k].stamp, l[k].kind, l[k].key, l[k].hi, l[k].opn, l[k].val⟩ = l[k].size := rfl
  refine g9 8 ?_
  refine (h_l.mono hG18).a2 (i := k) om9 (fun he19 hm20 => (g9 2 ?_))
  refine W.qcall (msize_fc _ _ _ _ _ _) rfl (g9 11 ?_)
  exact ⟨Le.rfl, k + 1, ⟨(iv om9), eqv, eqv, trivial⟩, ⟨rfl, om9, om9, om9⟩, om9⟩
 refine g9 13 ?_
 refine congrArg (Value.int .i64) ?_
 rw [List.take_of_length_le om9]

theorem rtakeF_fc {G : GH} {v_l : Value} {l : List Pair} (h_l : SlR ePair G v_l l) (ms : Int) (mk : Int) (mkey : Str) (mhi : Str) (mo : Bool) (mv : Str) (hP : PairsR l) (hn : l.length ≤ 1000000) (hk : Msg.fit (⟨ms, mk, mkey, mhi, mo, mv⟩ : Msg)) :
    Fc Try.prog 93 [v_l, .agg #[iV ms, iV mk, sV mkey.b, sV mhi.b, .bool mo, sV mv.b]] G [] (fun v G' M' => M' = [] ∧ ∃ u0, v = u0 ∧ SlR ePair G' u0 (takeN l (⟨ms, mk, mkey, mhi, mo, mv⟩ : Msg))) := by
 obtain ⟨sa_l, sc_l, rfl⟩ := h_l.form
 obtain ⟨hk1, hk2, hk3⟩ := hk
 dsimp only at hk1 hk2 hk3
 have hl := h_l.len47
 have hov := on_val (m := (⟨ms, mk, mkey, mhi, mo, mv⟩ : Msg)) mkey hk3
 refine Fc.go [.tmp 4] Try.func93 Try.ntmps93 rfl (fun w0 => (g9 2 ?_))
 refine W.box (L := [iV _, iV _, sV _, sV _, .bool _, sV _]) rfl rfl (fun b27 => (g9 11 ?_))
 refine WC.cn (fun h9 p9 => ?_) (fun h9 p9 => ?_)
 ·refine WC.seq (WC.dw sr9.k9 (d9 [0, 1, 2, 3, 4, 5] ?_))
  refine WD.a1 6 rfl (W.qcall (ron_fc ms mk mkey mhi mo mv mkey om9) rfl (W.nn (WD.a1 7 rfl (W.cS (rwith_fc h_l mkey (Msg.on (⟨ms, mk, mkey, mhi, mo, mv⟩ : Msg) mkey).kind (Msg.on (⟨ms, mk, mkey, mhi, mo, mv⟩ : Msg) mkey).val hP hn om9) rfl (fun sa_hv29 sc_hv29 G28 hG28 hv29 => (W.nn (d9 [8] ?_)))))))
  refine g9 5 ?_
  refine ⟨rfl, _, rfl, ?_⟩
  · have h := hv29; rw [takeN, if_neg (by simpa using h9)]; exact h
 refine g9 14 ?_
 refine WC.loop (X := (Nat) × Value × MH) (fun i => [(6, nt9 i.1), (3, pt9 b27), (0, lV sa_l l.length sc_l), (5, i.2.1)]) (fun i G Ml => Ml = ((b27, ce9 90 [iV ms, iV mk, sV mkey.b, sV mhi.b, .bool mo, sV mv.b]) :: (i.2.2 ++ [])) ∧ OwnR ePair 68 G i.2.1 (List.filter (fun p : Pair => !(Msg.span (⟨ms, mk, mkey, mhi, mo, mv⟩ : Msg)).has p.key) (l.take i.1)) i.2.2 ∧ i.1 ≤ l.length) (fun i => l.length - i.1) (0, lV none 0 0, ([] : MH)) hs9 ?_ ?_
 ·exact ⟨rfl, (by simpa using OwnR.nil), om9⟩
 rintro ⟨i, v_5, M_5⟩ gG35 G35 _ hG35 ⟨rfl, ho_5, hi⟩
 try dsimp only at ho_5 hi
 have hfl := filt_le (fun p : Pair => !(Msg.span (⟨ms, mk, mkey, mhi, mo, mv⟩ : Msg)).has p.key) l i
 refine WC.fr (f := setL gG35 [(6, nt9 i), (3, pt9 b27), (0, lV sa_l l.length sc_l), (5, v_5)]) rfl (g9 9 ?_)
 refine WC.cd (fun h21 p21 => ?_) (fun h21 p21 => ?_)
 ·refine g9 7 ?_
  refine W.qcall (rspan_fc _ _ _ _ _ _ (by first | assumption | omega | (dsimp only; omega))) rfl (g9 2 ?_)
  refine (h_l.mono hG35).a1 (i := i) om9 (fun he36 => (g9 3 ?_))
  refine W.qcall (has_fc _ _ _ _) rfl (g9 3 ?_)
  refine WC.cond rfl (fun h32 => ?_) (fun h32 => ?_)
  ·refine g9 4 ?_
   refine (h_l.mono hG35).a1 (i := i) om9 (fun he39 => (g9 2 ?_))
   refine W.lit (e := ePair) (l := [((l)[i])]) (css := [[sV _, sV _]]) sl31 ty68 zr68 rfl rfl rfl rfl rfl rfl ⟨rfl, trivial⟩ (fun bl42 G42 hG42 hv42 => (W.app (e := ePair) sl31 ty68 zr68 rfl by68 rfl rfl ((ho_5.mono hG42)) (hv42) (pmC pr9) (by show (_ + 1) * 32 ≤ _; (try simp only [List.length_append] at *); omega) (fun v43 Ms44 ho45 => (W.perm (pmC pr9).symm (g9 10 ?_)))))
   exact ⟨hG42, (i + 1, v43, Ms44), hs9, ⟨rfl, (by have h := ho45; rw [filt_t (p := (fun p : Pair => !(Msg.span (⟨ms, mk, mkey, mhi, mo, mv⟩ : Msg)).has p.key)) om9 (by simpa using h32)]; exact h), om9⟩, om9⟩
  refine g9 9 ?_
  exact ⟨Le.rfl, (i + 1, v_5, M_5), hs9, ⟨rfl, (by have h := ho_5; rw [filt_f (p := (fun p : Pair => !(Msg.span (⟨ms, mk, mkey, mhi, mo, mv⟩ : Msg)).has p.key)) om9 (by simpa using h32)]; exact h), om9⟩, om9⟩
 refine g9 11 ?_
 refine WC.giveO ho_5 (pmC pr9) (fun G46 hG46 hv46 => (g9 2 ?_))
 refine ⟨rfl, _, rfl, ?_⟩
 · have h := hv46; rw [List.take_of_length_le om9] at h; rw [takeN, if_pos (by simpa using h9)]; exact h

theorem rfoldF_fc {G : GH} {v_l : Value} {l : List Pair} (h_l : SlR ePair G v_l l) {v_ms : Value} {ms : List Msg} (h_ms : SlR eMsg G v_ms ms) (hP : PairsR l) (hn : l.length + ms.length ≤ 1000000) (hm : ∀ m ∈ ms, m.fit) :
    Fc Try.prog 71 [v_l, v_ms] G [] (fun v G' M' => M' = [] ∧ ∃ u0, v = u0 ∧ SlR ePair G' u0 (foldN l ms)) := by
 obtain ⟨sa_l, sc_l, rfl⟩ := h_l.form
 obtain ⟨sa_ms, sc_ms, rfl⟩ := h_ms.form
 have hl := h_l.len47
 have hlm := h_ms.len47
 refine Fc.go [.tmp 4] Try.func71 Try.ntmps71 rfl (fun w0 => (g9 7 ?_))
 refine W.lit0 (e := ePair) sl31 ty68 zr68 rfl (fun v68 Ms69 ho70 => (W.mv (W.app (e := ePair) sl31 ty68 zr68 rfl by68 rfl rfl (ho70) (h_l) pr9 (by show (0 + _) * 32 ≤ _; omega) (fun v71 Ms72 ho73 => (g9 10 ?_)))))
 refine WC.giveO (ho73) pr9 (fun G74 hG74 hv74 => ?_)
 refine WC.loop (X := (Nat) × Value) (fun k => [(6, nt9 k.1), (1, lV sa_ms ms.length sc_ms), (5, k.2)]) (fun k G Ml => Ml = [] ∧ SlR ePair G k.2 (foldN l (ms.take k.1)) ∧ k.1 ≤ ms.length) (fun k => ms.length - k.1) (0, v71) hs9 ?_ ?_
 ·exact ⟨rfl, (by simpa [foldN] using hv74), om9⟩
 rintro ⟨k, v_5⟩ gG75 G75 _ hG75 ⟨rfl, ho_5, hk⟩
 try dsimp only at ho_5 hk
 have hPk := PairsR.foldF (ms := ms.take k) hP (fun m h => hm m (List.mem_of_mem_take h))
 have hnk := fold_lenF (ms := ms.take k) hP (fun m h => hm m (List.mem_of_mem_take h))
 have hkl : (ms.take k).length ≤ k := by simp; omega
 refine WC.fr (f := setL gG75 [(6, nt9 k), (1, lV sa_ms ms.length sc_ms), (5, v_5)]) rfl (g9 9 ?_)
 refine WC.cd (fun h13 p13 => ?_) (fun h13 p13 => ?_)
 ·refine g9 8 ?_
  refine (h_ms.mono (hG74.trans hG75)).a2 (i := k) om9 (fun he76 hm77 => (g9 2 ?_))
  refine W.cS (rtakeF_fc ho_5 ms[k].stamp ms[k].kind ms[k].key ms[k].hi ms[k].opn ms[k].val hPk om9 (hm _ (List.getElem_mem _))) rfl (fun sa_hv82 sc_hv82 G81 hG81 hv82 => (g9 10 ?_))
  exact ⟨hG81, (k + 1, lV sa_hv82 (takeN (foldN l (ms.take k)) ms[k]).length sc_hv82), hs9, ⟨rfl, (by have h := hv82; rw [foldN_succ om9]; exact h), om9⟩, om9⟩
 refine g9 13 ?_
 refine ⟨rfl, _, rfl, ?_⟩
 · have h := ho_5; rw [List.take_of_length_le om9] at h; exact h

theorem rclips_fc {G : GH} {v_l : Value} {l : List Msg} (h_l : SlR eMsg G v_l l) (alo : Str) (ahi : Str) (ao : Bool) (hks : ∀ m ∈ l, m.key.b.size < 140737488355328) :
    Fc Try.prog 38 [v_l, .agg #[sV alo.b, sV ahi.b, .bool ao]] G [] (fun v G' M' => M' = [] ∧ ∃ u0, v = u0 ∧ SlR eMsg G' u0 (clips ⟨alo, ahi, ao⟩ l)) := by
 obtain ⟨sa_l, sc_l, rfl⟩ := h_l.form
 have hl := h_l.len47
 have hlb : l.length * 72 ≤ 140737488355328 := h_l.bytes
 refine Fc.go [.tmp 4] Try.func38 Try.ntmps38 rfl (fun w0 => (g9 2 ?_))
 refine W.box (L := [sV _, sV _, .bool _]) rfl rfl (fun b1 => (g9 15 ?_))
 refine WC.loop (X := (Nat) × Value × MH) (fun i => [(6, nt9 i.1), (3, pt9 b1), (0, lV sa_l l.length sc_l), (5, i.2.1)]) (fun i G Ml => Ml = ((b1, ce9 37 [sV alo.b, sV ahi.b, .bool ao]) :: (i.2.2 ++ [])) ∧ OwnR eMsg 90 G i.2.1 (clips ⟨alo, ahi, ao⟩ (l.take i.1)) i.2.2 ∧ i.1 ≤ l.length) (fun i => l.length - i.1) (0, lV none 0 0, ([] : MH)) hs9 ?_ ?_
 ·exact ⟨rfl, (by exact OwnR.nil), om9⟩
 rintro ⟨i, v_5, M_5⟩ gG2 G2 _ hG2 ⟨rfl, ho_5, hi⟩
 try dsimp only at ho_5 hi
 have hcl := clips_le (s := ⟨alo, ahi, ao⟩) (l := l.take i)
 have htl : (l.take i).length ≤ i := by simp; omega
 refine WC.fr (f := setL gG2 [(6, nt9 i), (3, pt9 b1), (0, lV sa_l l.length sc_l), (5, v_5)]) rfl (g9 9 ?_)
 refine WC.cd (fun h12 p12 => ?_) (fun h12 p12 => ?_)
 ·refine g9 5 ?_
  refine WC.dw sr9.k9 (d9 [0, 1] ?_)
  refine (h_l.mono hG2).a2 (i := i) om9 (fun he3 hm4 => (d9 [2, 3, 4] ?_))
  refine WD.any [5, 9] (by kernel_rfl) rfl ⟨WD.ap ?_, WD.ap ?_, trivial⟩
  ·refine W.qcall (rclip_fc _ _ _ _ _ _ _ _ _ (hks _ (List.getElem_mem _))) rfl (W.nn (d9 [6, 7, 8] ?_))
   refine WD.a1 9 rfl (W.alloc zr90 (fun b8 => (W.nn (d9 [10, 11] ?_))))
   refine g9 7 ?_
   refine WC.cond rfl (fun h21_1 => ?_) (fun h21_1 => ?_)
   ·refine g9 3 ?_
    refine W.lit (e := eMsg) (l := [(Msg.clip l[i] ⟨alo, ahi, ao⟩).1]) (css := [[iV _, iV _, sV _, sV _, .bool _, sV _]]) sl33 ty90 zr90 rfl rfl rfl rfl rfl rfl ⟨⟨rfl, clip_ok (by assumption)⟩, trivial⟩ (fun bl9 G9 hG9 hv9 => (W.app (e := eMsg) sl33 ty90 zr90 rfl by90 rfl rfl ((ho_5.mono hG9)) (hv9) (pmC (pmC pr9)) (by show ((clips ⟨alo, ahi, ao⟩ (l.take i)).length + 1) * 72 ≤ _; omega) (fun v10 Ms11 ho12 => (W.perm (pmC (pmC pr9)).symm (g9 8 ?_)))))
    refine W.sub (sr9.cons _) (g9 2 ?_)
    exact ⟨hG9, (i + 1, v10, Ms11), hs9, ⟨rfl, (by have h := ho12; rw [clips_t om9 h21_1]; exact h), om9⟩, om9⟩
   refine g9 7 ?_
   refine W.sub (sr9.cons _) (g9 2 ?_)
   exact ⟨Le.rfl, (i + 1, v_5, M_5), hs9, ⟨rfl, (by have h := ho_5; rw [clips_f om9 h21_1]; exact h), om9⟩, om9⟩
  refine W.alloc zr90 (fun b13 => (W.nn (WD.a1 5 rfl (W.qcall (rclip_fc _ _ _ _ _ _ _ _ _ (hks _ (List.getElem_mem _))) rfl (W.nn (d9 [6, 7, 8, 10, 11] ?_))))))
  refine g9 7 ?_
  refine WC.cond rfl (fun h21_1 => ?_) (fun h21_1 => ?_)
  ·refine g9 3 ?_
   refine W.lit (e := eMsg) (l := [(Msg.clip l[i] ⟨alo, ahi, ao⟩).1]) (css := [[iV _, iV _, sV _, sV _, .bool _, sV _]]) sl33 ty90 zr90 rfl rfl rfl rfl rfl rfl ⟨⟨rfl, clip_ok (by assumption)⟩, trivial⟩ (fun bl14 G14 hG14 hv14 => (W.app (e := eMsg) sl33 ty90 zr90 rfl by90 rfl rfl ((ho_5.mono hG14)) (hv14) (pmC (pmC pr9)) (by show ((clips ⟨alo, ahi, ao⟩ (l.take i)).length + 1) * 72 ≤ _; omega) (fun v15 Ms16 ho17 => (W.perm (pmC (pmC pr9)).symm (g9 8 ?_)))))
   refine W.sub (sr9.cons _) (g9 2 ?_)
   exact ⟨hG14, (i + 1, v15, Ms16), hs9, ⟨rfl, (by have h := ho17; rw [clips_t om9 h21_1]; exact h), om9⟩, om9⟩
  refine g9 7 ?_
  refine W.sub (sr9.cons _) (g9 2 ?_)
  exact ⟨Le.rfl, (i + 1, v_5, M_5), hs9, ⟨rfl, (by have h := ho_5; rw [clips_f om9 h21_1]; exact h), om9⟩, om9⟩
 refine g9 11 ?_
 refine WC.giveO ho_5 (pmC pr9) (fun G18 hG18 hv18 => (g9 2 ?_))
 refine ⟨rfl, _, rfl, ?_⟩
 · have h := hv18; rw [List.take_of_length_le om9] at h; exact h

theorem rview_fc {G : GH} {v_l : Value} {l : List Pair} (h_l : SlR ePair G v_l l) (slo : Str) (shi : Str) (so : Bool) {v_ms : Value} {ms : List Msg} (h_ms : SlR eMsg G v_ms ms) (hP : PairsR l) (hn : l.length + ms.length ≤ 1000000) (hm : ∀ m ∈ ms, m.key.b.size ≤ 16 ∧ m.val.b.size ≤ 16) (hs : slo.b.size ≤ 300) :
    Fc Try.prog 43 [v_l, .agg #[sV slo.b, sV shi.b, .bool so], v_ms] G [] (fun v G' M' => M' = [] ∧ ∃ u0, v = u0 ∧ SlR ePair G' u0 (foldN (l.filter fun p => Span.has ⟨slo, shi, so⟩ p.key) (clips ⟨slo, shi, so⟩ ms))) := by
 obtain ⟨sa_l, sc_l, rfl⟩ := h_l.form
 obtain ⟨sa_ms, sc_ms, rfl⟩ := h_ms.form
 have hPf : PairsR (l.filter fun p => Span.has ⟨slo, shi, so⟩ p.key) := hP.filter _
 have hcm := clips_fit (s := ⟨slo, shi, so⟩) hs hm
 have hcl : (clips ⟨slo, shi, so⟩ ms).length ≤ ms.length := clips_le
 have hfl := List.length_filter_le (fun p : Pair => Span.has ⟨slo, shi, so⟩ p.key) l
 have hks : ∀ m ∈ ms, m.key.b.size < 140737488355328 := fun m h => by have := (hm m h).1; omega
 refine Fc.go [.tmp 6] Try.func43 Try.ntmps43 rfl (fun w0 => (g9 2 ?_))
 refine W.box (L := [sV _, sV _, .bool _]) rfl rfl (fun b23 => (g9 4 ?_))
 refine WC.dw sr9.k9 (d9 [0, 1, 2, 3, 5, 6] ?_)
 refine WD.a1 4 rfl (W.cS (rscan_fc h_l slo shi so (l.length : Int) om9) rfl (fun sa_hv25 sc_hv25 G24 hG24 hv25 => (W.nn (WD.a1 7 rfl (W.cS (rclips_fc (h_ms.mono hG24) slo shi so hks) rfl (fun sa_hv32 sc_hv32 G31 hG31 hv32 => (W.nn (WD.a1 8 rfl (W.cS (rfoldF_fc (SlR.cast (hv25.mono hG31) (scan_whole l ⟨slo, shi, so⟩)) hv32 hPf om9 hcm) rfl (fun sa_hv39 sc_hv39 G38 hG38 hv39 => (W.nn (d9 [9] ?_))))))))))))
 refine g9 4 ?_
 refine ⟨rfl, _, rfl, ?_⟩
 · exact hv39

theorem qbysl_fc {G : GH} {v_l : Value} {l : List Nd} (h_l : SlR eNode G v_l l) :
    Fc Try.prog 42 [v_l] G [] (fun v G' M' => M' = [] ∧ MpG vNode G' v (bySl l)) := by
 obtain ⟨sa_l, sc_l, rfl⟩ := h_l.form
 have hl := h_l.len47
 refine Fc.go [.tmp 2] Try.func42 Try.ntmps42 rfl (fun w0 => (g9 7 ?_))
 refine W.makeMap (V := vNode) (fun bm1 hm2 => (g9 12 ?_))
 refine WC.loop (X := (Nat) × MH) (fun i => [(9, nt9 i.1), (7, lV sa_l l.length sc_l), (8, nt9 ((l).length)), (3, .map (some bm1))]) (fun i G Ml => Ml = (i.2 ++ []) ∧ MpR vNode bm1 G (bySl (l.take i.1)) i.2 ∧ i.1 ≤ l.length) (fun i => l.length - i.1) (0, [(bm1, Obj.map #[] 0)]) hs9 ?_ ?_
 ·exact ⟨rfl, (by exact hm2), om9⟩
 rintro ⟨i, M_3⟩ gG3 G3 _ hG3 ⟨rfl, ho_3, hi⟩
 try dsimp only at ho_3 hi
 refine WC.fr (f := setL gG3 [(9, nt9 i), (7, lV sa_l l.length sc_l), (8, nt9 ((l).length)), (3, .map (some bm1))]) rfl (g9 6 ?_)
 refine WC.cd (fun h10 p10 => ?_) (fun h10 p10 => ?_)
 ·refine g9 6 ?_
  refine (h_l.mono hG3).aN (i := i) om9 (fun _ _ _ _ _ _ _ _ he4 hp_n5 hk_n5 hm_n5 hr_n5 hok_n5 => (g9 2 ?_))
  refine W.alloc zr35 (fun b8 => (g9 8 ?_))
  refine W.mapUp (V := vNode) (k := ((l)[i]).slot) mk71 rfl rfl rfl ho_3 (pmC pr9) ⟨_, rfl, (nk9 hp_n5 hk_n5 hm_n5 hr_n5 hok_n5)⟩ (fun Ms9 hm10 => (W.perm (pmC pr9).symm (g9 6 ?_)))
  refine W.sub (sr9.cons _) (g9 2 ?_)
  exact ⟨Le.rfl, (i + 1, Ms9), hs9, ⟨rfl, (by have h := hm10; rw [← bySl_succ om9] at h; exact h), om9⟩, om9⟩
 refine g9 6 ?_
 have hob := ho_3
 rw [List.take_of_length_le om9] at hob
 refine WC.giveMap hob pr9 (fun G11 hG11 hvG11 => (g9 7 ?_))
 exact ⟨rfl, hvG11⟩

theorem qfirst_fc {G : GH} {v_at : Value} {c : Cfg} {l : List Nd} {ss : List Seat} (h_at : MpG vNode G v_at (bySl l)) (t : Tree c l ss) (lv : Int) :
    Fc Try.prog 69 [v_at, iV lv] G [] (fun v G' M' => M' = [] ∧ ∃ cs n, v = .tuple #[.agg (List.toArray cs), .bool (decide (0 < (lvlS ss lv).length))] ∧ NodeC G' cs n ∧ ∀ hp : 0 < (lvlS ss lv).length, n = ((lvlS ss lv)[0]).n) := by
 obtain ⟨ba_at, rfl⟩ := h_at.form
 have hsl := t.sml.1
 refine Fc.go [.cell 4 35, .tmp 5] Try.func69 Try.ntmps69 rfl (fun w0 => (g9 2 ?_))
 refine W.alloc zr35 (fun b12 => (g9 6 ?_))
 refine W.lookS (V := vNode) (show getM (bySl l) 0 = some (rootS l 0).n from by have h := t.inMap t.root; rw [t.root0] at h; exact h) mk71 mz35 ⟨_, rfl, ⟨_, _, _, _, _, _, _, _, rfl, SlR.nil, SlR.nil, SlR.nil, SlR.nil, Nd.zero_ok⟩⟩ h_at rfl rfl (fun v13 hv14 => ?_)
 refine match hv14 with | ⟨_, e_16, ⟨pa_mn15, pc_mn15, ka_mn15, kc_mn15, ma_mn15, mc_mn15, ra_mn15, rc_mn15, e_17, hp_mn15, hk_mn15, hm_mn15, hr_mn15, hok_mn15⟩⟩ => ?_
 subst e_16
 subst e_17
 refine g9 3 ?_
 refine W.alloc zr35 (fun b18 => (g9 6 ?_))
 refine WC.loop (X := (Seat) × List Value) (fun x => [(7, .bool true), (4, pt9 b12), (6, pt9 b18), (0, .map (some ba_at)), (1, iV lv)]) (fun x G Ml => Ml = [(b18, .cells (List.toArray x.2) 35 (0, 0)), (b12, ce9 35 nz9)] ∧ NodeC G x.2 (x.1.n) ∧ x.1 ∈ ss ∧ (∃ C, lvlS ss x.1.n.level = x.1 :: C) ∧ (lv ≤ x.1.n.level ∨ x.1 = rootS l 0)) (fun x => x.1.n.level.toNat) ((rootS l 0), ((ndl (rootS l 0).n pa_mn15 pc_mn15 ka_mn15 kc_mn15 ma_mn15 mc_mn15 ra_mn15 rc_mn15) : List Value)) hs9 ?_ ?_
 ·exact ⟨rfl, (by exact (nk9 hp_mn15 hk_mn15 hm_mn15 hr_mn15 hok_mn15)), t.root, ⟨[], lvl_root t⟩, .inr rfl⟩
 rintro ⟨x, C_6⟩ gG19 G19 _ hG19 ⟨rfl, ho_6, hx, hC0, hlx⟩
 try dsimp only at ho_6 hx hC0 hlx
 obtain ⟨C, hC⟩ := hC0
 have hl0 := t.lvl hx
 have hlh := (t.ms_small x hx).2
 have hht := t.height
 refine match ho_6 with | ⟨_, _, _, _, _, _, _, _, e_21, hp_nb20, hk_nb20, hm_nb20, hr_nb20, hok_nb20⟩ => ?_
 subst e_21
 refine WC.fr (f := setL gG19 [(7, .bool true), (4, pt9 b12), (6, pt9 b18), (0, .map (some ba_at)), (1, iV lv)]) rfl (g9 12 ?_)
 refine W.ok (ok_maxi rfl rfl) (g9 4 ?_)
 refine W.sd 22 (fun h20 p20 => ?_) (fun h20 p20 => ?_)
 ·try dsimp only at p20
  have hka := kids_all (t.kids hx) om9
  have hkn : 0 < x.n.kids.length := by have := (rightN_spec hka.2.2.1).2; omega
  have hat := t.at hx om9 (j := 0) hkn
  refine g9 11 ?_
  refine WC.cd (fun h26 p26 => ?_) (fun h26 p26 => ?_)
  ·try dsimp only at p26
   refine g9 15 ?_
   refine hk_nb20.a2 (i := 0) om9 (fun he22 hi23 => (W.ok (ok_indexAddr (i := 0) sl30 ty3 hk_nb20 rfl rfl ⟨om9, om9⟩) (g9 1 ?_)))
   refine W.lookS (V := vNode) (show getM (bySl l) (x.n.kids[0]'om9) = some (kidSt l x 0).n from by have h := t.inMap hat.1; rw [hat.2.2.1, (getL_slot t.slot hat.2.1).1] at h; rw [← hat.2.2.1] at h; exact h) mk71 mz35 ⟨_, rfl, ⟨_, _, _, _, _, _, _, _, rfl, SlR.nil, SlR.nil, SlR.nil, SlR.nil, Nd.zero_ok⟩⟩ (h_at.mono hG19) rfl rfl (fun v26 hv27 => ?_)
   refine match hv27 with | ⟨_, e_29, ⟨pa_mn28, pc_mn28, ka_mn28, kc_mn28, ma_mn28, mc_mn28, ra_mn28, rc_mn28, e_30, hp_mn28, hk_mn28, hm_mn28, hr_mn28, hok_mn28⟩⟩ => ?_
   subst e_29
   subst e_30
   refine g9 23 ?_
   exact ⟨Le.rfl, ((kidSt l x 0), (ndl (kidSt l x 0).n pa_mn28 pc_mn28 ka_mn28 kc_mn28 ma_mn28 mc_mn28 ra_mn28 rc_mn28)), ⟨(congrArg Value.bool (decide_eq_true (by have := hat.2.2.2; omega))), eqv, eqv, eqv, eqv, trivial⟩, ⟨rfl, (by exact (nk9 hp_mn28 hk_mn28 hm_mn28 hr_mn28 hok_mn28)), hat.1, by have h9 := lvl_kid t hC om9; rw [← hat.2.2.2] at h9; exact h9, .inl (by have := hat.2.2.2; dsimp only; omega)⟩, by have := hat.2.2.2; dsimp only; omega⟩
  try dsimp only at p26
  exfalso; omega
 try dsimp only at p20
 have hmx : x.n.level ≤ max lv 0 := by omega
 refine g9 14 ?_
 refine WC.dw ((sr9.cons _).k9) (d9 [0, 1, 2, 3, 4, 5, 6, 7, 8, 9] ?_)
 refine g9 4 ?_
 obtain ⟨hf1, hf2⟩ := fst_ok t hC hlx hmx
 refine ⟨rfl, _, x.n, ?_, (nk9 hp_nb20 hk_nb20 hm_nb20 hr_nb20 hok_nb20), hf2⟩
 rw [← hf1]; rfl

end Go.Proofs.Ytcngningbcaggaa
