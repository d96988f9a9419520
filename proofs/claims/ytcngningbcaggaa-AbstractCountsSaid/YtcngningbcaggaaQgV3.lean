/- Walks of the heap of lists of messages. -/
import Derived.Test.YtcngningbcaggaaQgV1
import Derived.Test.YtcngningbcaggaaQgNd
set_option maxRecDepth 100000
set_option maxHeartbeats 1600000
set_option linter.unusedVariables false
set_option linter.unusedSimpArgs false
set_option linter.unnecessarySimpa false
namespace Go.Proofs.Ytcngningbcaggaa
open Go Go.Fw Go.RowKit
attribute [local irreducible] Ok W WC
theorem hlen_fc {G : GH} {v_l : Value} {l : List Hd} {Ms_l : MH} (h_l : OwnR eHead 127 G v_l l Ms_l) :
    Fc Try.prog 83 [v_l] G Ms_l (fun v _ M' => v = iV ((l.length : Int)) ∧ Ms_l = M') := by
 refine Fc.go [.tmp 2] Try.func83 Try.ntmps83 rfl (fun w0 => (WC.perm (M' := (Ms_l ++ [])) (by simp) (g9 13 ?_)))
 refine ⟨.inr rfl, [_], ⟨rfl, trivial⟩, Ms_l, List.sublist_append_left _ _, ?_⟩
 exact ⟨rfl, rfl⟩

theorem hless_fc {G : GH} {v_l : Value} {l : List Hd} {Ms_l : MH} (h_l : OwnR eHead 127 G v_l l Ms_l) (i : Nat) (j : Nat) (hi : i < l.length) (hj : j < l.length) (hi0 : 0 < l[i].1.length) (hj0 : 0 < l[j].1.length) :
    Fc Try.prog 163 [v_l, nt9 i, nt9 j] G Ms_l (fun v _ M' => v = .bool (Hd.lt (nth l i) (nth l j)) ∧ Ms_l = M') := by
 have hl := h_l.len47
 refine Fc.go [.tmp 6] Try.func163 Try.ntmps163 rfl (fun w0 => (WC.perm (M' := (Ms_l ++ [])) (by simp) (g9 6 ?_)))
 refine WC.dw sr9 (d9 [0, 1] ?_)
 have q4 := h_l.at (i := i) om9
 refine match q4 with | ⟨_, he1, ⟨_, _, e_3, hw_n2, hok_n2⟩⟩ => ?_
 subst e_3
 refine WD.tk 2 rfl (ok_indexAddrO (i := i) sl124 ty127 h_l rfl rfl ⟨om9, om9⟩) (WD.tk 3 rfl (ok_loadO (vs := [lV _ _ _, iV _]) ty127 he1 pr9 rfl rfl rfl (by simp)) (d9 [4, 5] ?_))
 have q8 := h_l.at (i := j) om9
 refine match q8 with | ⟨_, he5, ⟨_, _, e_7, hw_n6, hok_n6⟩⟩ => ?_
 subst e_7
 refine WD.tk 6 rfl (ok_indexAddrO (i := j) sl124 ty127 h_l rfl rfl ⟨om9, om9⟩) (WD.tk 7 rfl (ok_loadO (vs := [lV _ _ _, iV _]) ty127 he5 pr9 rfl rfl rfl (by simp)) ?_)
 refine WD.any [8, 9] (by kernel_rfl) rfl ⟨WD.ap ?_, WD.ap ?_, trivial⟩
 ·refine W.alloc zr127 (fun b9 => (W.nn (WD.a1 9 rfl (W.alloc zr127 (fun b10 => (W.nn (d9 [10, 11] ?_)))))))
  refine g9 6 ?_
  refine hw_n2.a2 (i := 0) om9 (fun he11 hm12 => (W.ok (ok_indexAddr (i := 0) sl33 ty90 hw_n2 rfl rfl ⟨om9, om9⟩) (g9 4 ?_)))
  refine hw_n6.a2 (i := 0) om9 (fun he16 hm17 => (W.ok (ok_indexAddr (i := 0) sl33 ty90 hw_n6 rfl rfl ⟨om9, om9⟩) (g9 4 ?_)))
  refine W.sd 28 (fun h27 p27 => ?_) (fun h27 p27 => ?_)
  ·refine g9 23 ?_
   refine ⟨.inr rfl, [_], ⟨rfl, trivial⟩, Ms_l, ((List.sublist_append_left _ _).cons _).cons _, ?_⟩
   refine ⟨?_, rfl⟩
   refine congrArg Value.bool ?_
   rw [nth_lt hi, nth_lt hj, Hd.lt, Hd.st_at hi0, Hd.st_at hj0]
   simp_all
  refine g9 5 ?_
  refine hw_n2.a2 (i := 0) om9 (fun he21 hm22 => (W.ok (ok_indexAddr (i := 0) sl33 ty90 hw_n2 rfl rfl ⟨om9, om9⟩) (g9 9 ?_)))
  refine hw_n6.a2 (i := 0) om9 (fun he26 hm27 => (W.ok (ok_indexAddr (i := 0) sl33 ty90 hw_n6 rfl rfl ⟨om9, om9⟩) (g9 8 ?_)))
  refine W.sd 40 (fun h39 p39 => ?_) (fun h39 p39 => ?_)
  ·refine g9 17 ?_
   refine ⟨.inr rfl, [_], ⟨rfl, trivial⟩, Ms_l, ((List.sublist_append_left _ _).cons _).cons _, ?_⟩
   refine ⟨?_, rfl⟩
   refine congrArg Value.bool ?_
   rw [nth_lt hi, nth_lt hj, Hd.lt, Hd.st_at hi0, Hd.st_at hj0]
   simp_all
  refine g9 12 ?_
  refine ⟨.inr rfl, [_], ⟨rfl, trivial⟩, Ms_l, ((List.sublist_append_left _ _).cons _).cons _, ?_⟩
  refine ⟨?_, rfl⟩
  refine congrArg Value.bool ?_
  rw [nth_lt hi, nth_lt hj, Hd.lt, Hd.st_at hi0, Hd.st_at hj0]
  simp_all
 refine W.alloc zr127 (fun b31 => (W.nn (WD.a1 8 rfl (W.alloc zr127 (fun b32 => (W.nn (d9 [10, 11] ?_)))))))
 refine g9 6 ?_
 refine hw_n2.a2 (i := 0) om9 (fun he33 hm34 => (W.ok (ok_indexAddr (i := 0) sl33 ty90 hw_n2 rfl rfl ⟨om9, om9⟩) (g9 4 ?_)))
 refine hw_n6.a2 (i := 0) om9 (fun he38 hm39 => (W.ok (ok_indexAddr (i := 0) sl33 ty90 hw_n6 rfl rfl ⟨om9, om9⟩) (g9 4 ?_)))
 refine W.sd 28 (fun h27 p27 => ?_) (fun h27 p27 => ?_)
 ·refine g9 23 ?_
  refine ⟨.inr rfl, [_], ⟨rfl, trivial⟩, Ms_l, ((List.sublist_append_left _ _).cons _).cons _, ?_⟩
  refine ⟨?_, rfl⟩
  refine congrArg Value.bool ?_
  rw [nth_lt hi, nth_lt hj, Hd.lt, Hd.st_at hi0, Hd.st_at hj0]
  simp_all
 refine g9 5 ?_
 refine hw_n2.a2 (i := 0) om9 (fun he43 hm44 => (W.ok (ok_indexAddr (i := 0) sl33 ty90 hw_n2 rfl rfl ⟨om9, om9⟩) (g9 9 ?_)))
 refine hw_n6.a2 (i := 0) om9 (fun he48 hm49 => (W.ok (ok_indexAddr (i := 0) sl33 ty90 hw_n6 rfl rfl ⟨om9, om9⟩) (g9 8 ?_)))
 refine W.sd 40 (fun h39 p39 => ?_) (fun h39 p39 => ?_)
 ·refine g9 17 ?_
  refine ⟨.inr rfl, [_], ⟨rfl, trivial⟩, Ms_l, ((List.sublist_append_left _ _).cons _).cons _, ?_⟩
  refine ⟨?_, rfl⟩
  refine congrArg Value.bool ?_
  rw [nth_lt hi, nth_lt hj, Hd.lt, Hd.st_at hi0, Hd.st_at hj0]
  simp_all
 refine g9 12 ?_
 refine ⟨.inr rfl, [_], ⟨rfl, trivial⟩, Ms_l, ((List.sublist_append_left _ _).cons _).cons _, ?_⟩
 refine ⟨?_, rfl⟩
 refine congrArg Value.bool ?_
 rw [nth_lt hi, nth_lt hj, Hd.lt, Hd.st_at hi0, Hd.st_at hj0]
 simp_all

theorem hswap_fc {G : GH} {v_l : Value} {l : List Hd} {Ms_l : MH} (h_l : OwnR eHead 127 G v_l l Ms_l) (i : Nat) (j : Nat) (hi : i < l.length) (hj : j < l.length) :
    Fc Try.prog 166 [v_l, nt9 i, nt9 j] G Ms_l (fun v G' M' => v = .tuple #[] ∧ OwnR eHead 127 G' v_l (swapL l i j) M') := by
 have hl := h_l.len47
 have hls : (l.set i l[j]).length = l.length := List.length_set ..
 refine Fc.go [] Try.func166 Try.ntmps166 rfl (fun w0 => (WC.perm (M' := (Ms_l ++ [])) (by simp) (WC.dw sn9 (d9 [0, 1, 2, 3, 4, 5] ?_))))
 have q56 := h_l.at (i := j) om9
 refine match q56 with | ⟨_, he53, ⟨_, _, e_55, hw_n54, hok_n54⟩⟩ => ?_
 subst e_55
 refine WD.tk 6 rfl (ok_indexAddrO (i := j) sl124 ty127 h_l rfl rfl ⟨om9, om9⟩) (d9 [8, 9] ?_)
 have q60 := h_l.at (i := i) om9
 refine match q60 with | ⟨_, he57, ⟨_, _, e_59, hw_n58, hok_n58⟩⟩ => ?_
 subst e_59
 refine WD.tk 10 rfl (ok_indexAddrO (i := i) sl124 ty127 h_l rfl rfl ⟨om9, om9⟩) ?_
 refine WD.any [7, 11] (by kernel_rfl) rfl ⟨WD.ap ?_, WD.ap ?_, trivial⟩
 ·refine W.ok (ok_loadO (vs := [lV _ _ _, iV _]) ty127 he53 pr9 rfl rfl rfl (by simp)) (W.nn (WD.a1 11 rfl (W.ok (ok_loadO (vs := [lV _ _ _, iV _]) ty127 he57 pr9 rfl rfl rfl (by simp)) (W.nn ?_))))
  have q64 := h_l.at (i := i) om9
  refine match q64 with | ⟨_, he61, ⟨_, _, e_63, hw_n62, hok_n62⟩⟩ => ?_
  subst e_63
  refine WD.tk 12 rfl (ok_indexAddrO (i := i) sl124 ty127 h_l rfl rfl ⟨om9, om9⟩) (WD.a1 13 rfl (W.storeO (i := i) (o := 0) (vs := [lV _ _ _, iV _]) (a' := l[j]) ty127 rfl rfl rfl rfl rfl (h_l) pr9 om9 (by decide) (fun cs h => by obtain ⟨_, _, rfl, _⟩ := h; exact ⟨_, _, rfl, hw_n54, hok_n54⟩) (fun Ms65 ho66 => (W.nn ?_))))
  have q70 := ho66.at (i := j) om9
  refine match q70 with | ⟨_, he67, ⟨_, _, e_69, hw_n68, hok_n68⟩⟩ => ?_
  subst e_69
  refine WD.tk 14 rfl (ok_indexAddrO (i := j) sl124 ty127 ho66 rfl rfl ⟨om9, om9⟩) (WD.a1 15 rfl (W.storeO (i := j) (o := 0) (vs := [lV _ _ _, iV _]) (a' := l[i]) ty127 rfl rfl rfl rfl rfl (ho66) pr9 om9 (by decide) (fun cs h => by obtain ⟨_, _, rfl, _⟩ := h; exact ⟨_, _, rfl, hw_n58, hok_n58⟩) (fun Ms71 ho72 => (W.nn (WD.done (by kernel_rfl) ?_)))))
  refine ⟨.inl rfl, [], trivial, (Ms71 ++ []), sr9, ?_⟩
  have h := ho72
  refine ⟨rfl, ?_⟩
  rw [swapL, nth_lt hi, nth_lt hj, List.append_nil]; exact h
 refine W.ok (ok_loadO (vs := [lV _ _ _, iV _]) ty127 he57 pr9 rfl rfl rfl (by simp)) (W.nn (WD.a1 7 rfl (W.ok (ok_loadO (vs := [lV _ _ _, iV _]) ty127 he53 pr9 rfl rfl rfl (by simp)) (W.nn ?_))))
 have q76 := h_l.at (i := i) om9
 refine match q76 with | ⟨_, he73, ⟨_, _, e_75, hw_n74, hok_n74⟩⟩ => ?_
 subst e_75
 refine WD.tk 12 rfl (ok_indexAddrO (i := i) sl124 ty127 h_l rfl rfl ⟨om9, om9⟩) (WD.a1 13 rfl (W.storeO (i := i) (o := 0) (vs := [lV _ _ _, iV _]) (a' := l[j]) ty127 rfl rfl rfl rfl rfl (h_l) pr9 om9 (by decide) (fun cs h => by obtain ⟨_, _, rfl, _⟩ := h; exact ⟨_, _, rfl, hw_n54, hok_n54⟩) (fun Ms77 ho78 => (W.nn ?_))))
 have q82 := ho78.at (i := j) om9
 refine match q82 with | ⟨_, he79, ⟨_, _, e_81, hw_n80, hok_n80⟩⟩ => ?_
 subst e_81
 refine WD.tk 14 rfl (ok_indexAddrO (i := j) sl124 ty127 ho78 rfl rfl ⟨om9, om9⟩) (WD.a1 15 rfl (W.storeO (i := j) (o := 0) (vs := [lV _ _ _, iV _]) (a' := l[i]) ty127 rfl rfl rfl rfl rfl (ho78) pr9 om9 (by decide) (fun cs h => by obtain ⟨_, _, rfl, _⟩ := h; exact ⟨_, _, rfl, hw_n58, hok_n58⟩) (fun Ms83 ho84 => (W.nn (WD.done (by kernel_rfl) ?_)))))
 refine ⟨.inl rfl, [], trivial, (Ms83 ++ []), sr9, ?_⟩
 have h := ho84
 refine ⟨rfl, ?_⟩
 rw [swapL, nth_lt hi, nth_lt hj, List.append_nil]; exact h

theorem hdpush_fc {G : GH} {b_b : Nat} {Tb : TypeId} {v_l : Value} {l : List Hd} {Ms_l : MH} (h_l : OwnR eHead 127 G v_l l Ms_l) {pa_a : Option Addr} {pc_a : Nat} {a : Hd} (hw_a : SlR eMsg G (lV pa_a a.1.length pc_a) a.1) (hok_a : i64 a.2) (hb : l.length < 1000000) :
    Fc Try.prog 165 [pt9 b_b, .iface 127 (.agg #[lV pa_a a.1.length pc_a, iV a.2])] G ((b_b, ce9 Tb [v_l]) :: (Ms_l)) (fun v G' M' => v = .tuple #[] ∧ ∃ v' Ms', M' = (b_b, ce9 Tb [v']) :: Ms' ∧ OwnR eHead 127 G' v' (l ++ [a]) Ms') := by
 obtain ⟨sa_l, sc_l, rfl⟩ := h_l.form
 refine Fc.go [] Try.func165 Try.ntmps165 rfl (fun w0 => (WC.perm (M' := ((b_b, ce9 Tb [lV sa_l l.length sc_l]) :: (Ms_l ++ []))) (by simp) (WC.dw (sn9.cons _) (d9 [0, 1, 2, 4] ?_))))
 refine WD.tk 5 rfl (ok_tyA pi127 rfl) ?_
 refine WD.any [3, 6] (by kernel_rfl) rfl ⟨WD.ap ?_, WD.ap ?_, trivial⟩
 ·refine g9 1 ?_
  refine W.nn (WD.a1 6 rfl (W.lit (e := eHead) (l := [a]) (css := [[lV _ _ _, iV _]]) sl124 ty127 zr127 rfl rfl rfl rfl rfl rfl ⟨⟨_, _, rfl, hw_a, hok_a⟩, trivial⟩ (fun bl85 G85 hG85 hv85 => (W.nn (WD.a1 7 rfl (W.app (e := eHead) sl124 ty127 zr127 rfl by127 rfl rfl ((h_l.mono hG85)) (hv85) (pmC pr9) (by show (_ + 1) * 32 ≤ _; omega) (fun v86 Ms87 ho88 => (W.perm (pmC pr9).symm ?_))))))))
  have q92 := ho88.form
  refine match q92 with | ⟨sa89, sc90, e_91⟩ => ?_
  subst e_91
  refine W.nn (d9 [8, 9] ?_)
  refine WD.done (by kernel_rfl) ?_
  refine ⟨.inl rfl, [], trivial, ((b_b, ce9 Tb [lV sa89 ((l ++ [a])).length sc90]) :: (Ms87 ++ [])), sr9.k9, ?_⟩
  exact ⟨rfl, _, _, congrArg _ (List.append_nil _), ho88⟩
 refine W.lit (e := eHead) (l := [a]) (css := [[lV _ _ _, iV _]]) sl124 ty127 zr127 rfl rfl rfl rfl rfl rfl ⟨⟨_, _, rfl, hw_a, hok_a⟩, trivial⟩ (fun bl93 G93 hG93 hv93 => (W.nn (WD.a1 3 rfl (g9 1 ?_))))
 refine W.nn (WD.a1 7 rfl (W.app (e := eHead) sl124 ty127 zr127 rfl by127 rfl rfl ((h_l.mono hG93)) (hv93) (pmC pr9) (by show (_ + 1) * 32 ≤ _; omega) (fun v94 Ms95 ho96 => (W.perm (pmC pr9).symm ?_))))
 have q100 := ho96.form
 refine match q100 with | ⟨sa97, sc98, e_99⟩ => ?_
 subst e_99
 refine W.nn (d9 [8, 9] ?_)
 refine WD.done (by kernel_rfl) ?_
 refine ⟨.inl rfl, [], trivial, ((b_b, ce9 Tb [lV sa97 ((l ++ [a])).length sc98]) :: (Ms95 ++ [])), sr9.k9, ?_⟩
 exact ⟨rfl, _, _, congrArg _ (List.append_nil _), ho96⟩

theorem hdpop_fc {G : GH} {b_b : Nat} {Tb : TypeId} {v_l : Value} {l : List Hd} {Ms_l : MH} (h_l : OwnR eHead 127 G v_l l Ms_l) (h0 : 0 < l.length) :
    Fc Try.prog 164 [pt9 b_b] G ((b_b, ce9 Tb [v_l]) :: (Ms_l)) (fun v G' M' => (∃ p c, v = .iface 127 (.agg (List.toArray [lV p (nth l (l.length - 1)).1.length c, iV (nth l (l.length - 1)).2])) ∧ SlR eMsg G' (lV p (nth l (l.length - 1)).1.length c) (nth l (l.length - 1)).1 ∧ i64 (nth l (l.length - 1)).2) ∧ ∃ v' Ms', M' = (b_b, ce9 Tb [v']) :: Ms' ∧ OwnR eHead 127 G' v' (l.take (l.length - 1)) Ms') := by
 obtain ⟨sa_l, sc_l, rfl⟩ := h_l.form
 have hl := h_l.len47
 have hlast : nth l (l.length - 1) = l[l.length - 1] := nth_lt om9
 refine Fc.go [.tmp 2] Try.func164 Try.ntmps164 rfl (fun w0 => (WC.perm (M' := ((b_b, ce9 Tb [lV sa_l l.length sc_l]) :: (Ms_l ++ []))) (by simp) (g9 11 ?_)))
 refine W.ok (Ok.int (n := ((l.length - 1 : Nat) : Int)) (ok_sub rfl rfl om9) om9) (g9 9 ?_)
 have q104 := h_l.at (i := l.length - 1) om9
 refine match q104 with | ⟨_, he101, ⟨_, _, e_103, hw_n102, hok_n102⟩⟩ => ?_
 subst e_103
 refine W.ok (ok_indexAddrO (i := l.length - 1) sl124 ty127 h_l rfl rfl ⟨om9, om9⟩) (W.ok (ok_loadO (vs := [lV _ _ _, iV _]) ty127 he101 (pmC pr9) rfl rfl rfl (by simp)) (W.alloc zr127 (fun b105 => (g9 10 ?_))))
 refine W.shortO (l.length - 1) sl124 ty127 h_l rfl ⟨_, _, rfl, om9⟩ om9 (fun v106 ho107 => ?_)
 have q111 := ho107.form
 refine match q111 with | ⟨sa108, sc109, e_110⟩ => ?_
 subst e_110
 refine g9 7 ?_
 refine W.ok (ok_mkI pi127 rfl) (g9 4 ?_)
 refine ⟨.inr rfl, [_], ⟨rfl, trivial⟩, ((b_b, ce9 Tb [lV sa108 (((l).take (l.length - 1))).length sc109]) :: (Ms_l ++ [])), sr9.k9.cons _, ?_⟩
 exact ⟨by rw [hlast]; exact ⟨_, _, rfl, hw_n102, hok_n102⟩, _, _, congrArg _ (List.append_nil _), ho107⟩

end Go.Proofs.Ytcngningbcaggaa
