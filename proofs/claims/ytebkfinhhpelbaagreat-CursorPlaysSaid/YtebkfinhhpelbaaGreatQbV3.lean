/- Walks of the heap of lists of messages. -/
import Derived.Test.YtebkfinhhpelbaaGreatQbH9
set_option maxRecDepth 100000
set_option maxHeartbeats 1600000
set_option linter.unusedVariables false
set_option linter.unusedSimpArgs false
set_option linter.unnecessarySimpa false
namespace Go.Proofs.YtebkfinhhpelbaaGreat
open Go Go.Fw Go.RowKit
theorem hlen_fc {G : GH} {v_l : Value} {l : List Hd} {Ms_l : MH} (h_l : OwnR eHead 205 G v_l l Ms_l) :
    Fc Tryz.prog 146 [v_l] G Ms_l (fun v _ M' => v = .int .i64 ((l.length : Int)) ∧ Ms_l = M') := by
 refine Fc.intro (rs := [.tmp 2]) cl146 Tryz.func146 rfl Tryz.ntmps146 rfl rfl (fun w0 => ?_)
 refine WC.perm (M' := (Ms_l ++ [])) (by simp) (WC.seq (WC.region (W.as (W.nil (thn_n (WC.seq (WC.region (W.mv (W.ok (ok_lenO sl202 h_l rfl) (W.as (W.nil (thn_n (WC.ret ?_)))))))))))))
 refine ⟨.inr rfl, [_], ⟨rfl, trivial⟩, Ms_l, List.sublist_append_left _ _, ?_⟩
 exact ⟨rfl, rfl⟩

theorem hless_fc {G : GH} {v_l : Value} {l : List Hd} {Ms_l : MH} (h_l : OwnR eHead 205 G v_l l Ms_l) (i : Nat) (j : Nat) (hi : i < l.length) (hj : j < l.length) (hi0 : 0 < l[i].1.length) (hj0 : 0 < l[j].1.length) :
    Fc Tryz.prog 259 [v_l, .int .i64 ((i : Nat) : Int), .int .i64 ((j : Nat) : Int)] G Ms_l (fun v _ M' => v = .bool (Hd.lt (nth l i) (nth l j)) ∧ Ms_l = M') := by
 have hl := h_l.len47
 refine Fc.intro (rs := [.tmp 6]) cl259 Tryz.func259 rfl Tryz.ntmps259 rfl rfl (fun w0 => ?_)
 refine WC.perm (M' := (Ms_l ++ [])) (by simp) (WC.seq (WC.region (W.as (W.nil (thn_n (WC.seq (WC.drawW _ sr9 mix (by rintro _ _ _ _ ⟨h | h, _⟩ <;> cases h) (WD.tk 0 rfl (ok_mv) (WD.tk 1 rfl (ok_mv) ?_)))))))))
 have q4 := h_l.at (i := i) (by omega)
 refine match q4 with | ⟨_, he1, ⟨pa_n2, pc_n2, e_3, hw_n2, hok_n2⟩⟩ => ?_
 subst e_3
 refine WD.tk 2 rfl (ok_indexAddrO (i := i) sl202 ty205 h_l rfl rfl ⟨by omega, by omega⟩) (WD.tk 3 rfl (ok_loadO (vs := [.slice _ _ _, .int .i64 _]) ty205 he1 pr9 rfl rfl rfl (by simp)) (WD.tk 4 rfl (ok_mv) (WD.tk 5 rfl (ok_mv) ?_)))
 have q8 := h_l.at (i := j) (by omega)
 refine match q8 with | ⟨_, he5, ⟨pa_n6, pc_n6, e_7, hw_n6, hok_n6⟩⟩ => ?_
 subst e_7
 refine WD.tk 6 rfl (ok_indexAddrO (i := j) sl202 ty205 h_l rfl rfl ⟨by omega, by omega⟩) (WD.tk 7 rfl (ok_loadO (vs := [.slice _ _ _, .int .i64 _]) ty205 he5 pr9 rfl rfl rfl (by simp)) ?_)
 refine WD.any [8, 9] (by kernel_rfl) rfl ⟨⟨_, rfl, rfl, ?_⟩, ⟨_, rfl, rfl, ?_⟩, trivial⟩
 ·refine W.alloc zr205 (fun b9 => (W.nil (WD.n9 Le.rfl (sr9.cons _) (WD.a1 9 rfl (W.alloc zr205 (fun b10 => (W.nil (WD.n9 Le.rfl ((sr9.cons _).cons _) (WD.a1 10 rfl (W.store (i := 1) (vs := [.slice _ _ _, .int .i64 _]) (L' := [.slice _ _ _, .int .i64 _]) ty205 rfl rfl rfl rfl rfl rfl rfl rfl (W.nil (WD.n9 Le.rfl ((sr9.cons _).cons _) (WD.a1 11 rfl (W.store (i := 0) (vs := [.slice _ _ _, .int .i64 _]) (L' := [.slice _ _ _, .int .i64 _]) ty205 rfl rfl rfl rfl rfl rfl rfl rfl (W.nil (WD.n9 Le.rfl ((sr9.cons _).cons _) (WD.done (by kernel_rfl) (thn_n (WC.seq (WC.draw mix (by kernel_rfl) ?_))))))))))))))))))))
  refine W.ok (ok_fieldB fd205_0 rfl) (W.ok (ok_loadB (i := 1) (vs := [.slice _ _ _]) ty45 rfl rfl rfl rfl (by simp)) ?_)
  have q15 := hw_n2.at (i := 0) (by omega)
  refine match q15 with | ⟨_, he11, ⟨e_14, hm12⟩⟩ => ?_
  subst e_14
  refine W.ok (ok_indexAddr (i := 0) sl45 ty49 hw_n2 rfl rfl ⟨by omega, by omega⟩) (W.ok (ok_fieldE fd49_0 rfl he11.form) (W.ok (ok_loadE (vs := [.int .i64 _]) ty3 he11 rfl rfl rfl (by simp)) (W.ok (ok_fieldB fd205_0 rfl) (W.ok (ok_loadB (i := 0) (vs := [.slice _ _ _]) ty45 rfl rfl rfl rfl (by simp)) ?_))))
  have q20 := hw_n6.at (i := 0) (by omega)
  refine match q20 with | ⟨_, he16, ⟨e_19, hm17⟩⟩ => ?_
  subst e_19
  refine W.ok (ok_indexAddr (i := 0) sl45 ty49 hw_n6 rfl rfl ⟨by omega, by omega⟩) (W.ok (ok_fieldE fd49_0 rfl he16.form) (W.ok (ok_loadE (vs := [.int .i64 _]) ty3 he16 rfl rfl rfl (by simp)) (W.ok (ok_lss rfl rfl) (W.mv ?_))))
  refine W.sp 28 rfl (fun h27 => ?_) (fun h27 => ?_)
  ·have p27 := of_decide_eq_true h27
   refine W.no (dj := 28) rfl rfl h27 (W.no (dj := 28) rfl rfl h27 (W.no (dj := 28) rfl rfl h27 (W.no (dj := 28) rfl rfl h27 (W.no (dj := 28) rfl rfl h27 (W.no (dj := 28) rfl rfl h27 (W.no (dj := 28) rfl rfl h27 (W.no (dj := 28) rfl rfl h27 (W.no (dj := 28) rfl rfl h27 (W.no (dj := 28) rfl rfl h27 (W.no (dj := 28) rfl rfl h27 (W.no (dj := 28) rfl rfl h27 (W.nou (dj := 40) rfl rfl (W.nou (dj := 40) rfl rfl ?_)))))))))))))
   refine W.nou (dj := 40) rfl rfl (W.nou (dj := 40) rfl rfl (W.nou (dj := 40) rfl rfl (W.no (dj := 28) rfl rfl h27 (W.ok (ok_pick_t rfl h27) (W.as (W.nil (thn_n (WC.ret ?_))))))))
   refine ⟨.inr rfl, [_], ⟨rfl, trivial⟩, Ms_l, ((List.sublist_append_left _ _).cons _).cons _, ?_⟩
   refine ⟨?_, rfl⟩
   refine congrArg Value.bool ?_
   rw [nth_lt hi, nth_lt hj, Hd.lt, Hd.st_at hi0, Hd.st_at hj0]
   simp_all
  have p27 := of_decide_eq_false h27
  refine W.yes (dj := 28) rfl rfl h27 (W.ok (ok_fieldB fd205_0 rfl) (W.yes (dj := 28) rfl rfl h27 (W.ok (ok_loadB (i := 1) (vs := [.slice _ _ _]) ty45 rfl rfl rfl rfl (by simp)) (W.yes (dj := 28) rfl rfl h27 ?_))))
  have q25 := hw_n2.at (i := 0) (by omega)
  refine match q25 with | ⟨_, he21, ⟨e_24, hm22⟩⟩ => ?_
  subst e_24
  refine W.ok (ok_indexAddr (i := 0) sl45 ty49 hw_n2 rfl rfl ⟨by omega, by omega⟩) (W.yes (dj := 28) rfl rfl h27 (W.ok (ok_fieldE fd49_0 rfl he21.form) (W.yes (dj := 28) rfl rfl h27 (W.ok (ok_loadE (vs := [.int .i64 _]) ty3 he21 rfl rfl rfl (by simp)) (W.yes (dj := 28) rfl rfl h27 (W.ok (ok_fieldB fd205_0 rfl) (W.yes (dj := 28) rfl rfl h27 (W.ok (ok_loadB (i := 0) (vs := [.slice _ _ _]) ty45 rfl rfl rfl rfl (by simp)) (W.yes (dj := 28) rfl rfl h27 ?_)))))))))
  have q30 := hw_n6.at (i := 0) (by omega)
  refine match q30 with | ⟨_, he26, ⟨e_29, hm27⟩⟩ => ?_
  subst e_29
  refine W.ok (ok_indexAddr (i := 0) sl45 ty49 hw_n6 rfl rfl ⟨by omega, by omega⟩) (W.yes (dj := 28) rfl rfl h27 (W.ok (ok_fieldE fd49_0 rfl he26.form) (W.yes (dj := 28) rfl rfl h27 (W.ok (ok_loadE (vs := [.int .i64 _]) ty3 he26 rfl rfl rfl (by simp)) (W.yes (dj := 28) rfl rfl h27 (W.ok (ok_eql rfl rfl) (W.yes (dj := 28) rfl rfl h27 (W.mv ?_))))))))
  refine W.sp 40 rfl (fun h39 => ?_) (fun h39 => ?_)
  ·have p39 := of_decide_eq_true h39
   refine W.yes (dj := 40) rfl rfl h39 (W.ok (ok_fieldB fd205_1 rfl) (W.yes (dj := 40) rfl rfl h39 (W.ok (ok_loadB (i := 1) (vs := [.int .i64 _]) ty3 rfl rfl rfl rfl (by simp)) (W.yes (dj := 40) rfl rfl h39 (W.ok (ok_fieldB fd205_1 rfl) (W.yes (dj := 40) rfl rfl h39 (W.ok (ok_loadB (i := 0) (vs := [.int .i64 _]) ty3 rfl rfl rfl rfl (by simp)) (W.yes (dj := 40) rfl rfl h39 (W.ok (ok_lss rfl rfl) (W.yes (dj := 28) rfl rfl h27 (W.ok (ok_pick_t rfl h39) (W.ok (ok_pick_f rfl h27) (W.as ?_)))))))))))))
   refine W.nil (thn_n (WC.ret ?_))
   refine ⟨.inr rfl, [_], ⟨rfl, trivial⟩, Ms_l, ((List.sublist_append_left _ _).cons _).cons _, ?_⟩
   refine ⟨?_, rfl⟩
   refine congrArg Value.bool ?_
   rw [nth_lt hi, nth_lt hj, Hd.lt, Hd.st_at hi0, Hd.st_at hj0]
   simp_all
  have p39 := of_decide_eq_false h39
  refine W.no (dj := 40) rfl rfl h39 (W.no (dj := 40) rfl rfl h39 (W.no (dj := 40) rfl rfl h39 (W.no (dj := 40) rfl rfl h39 (W.no (dj := 40) rfl rfl h39 (W.yes (dj := 28) rfl rfl h27 (W.ok (ok_pick_f rfl h39) (W.ok (ok_pick_f rfl h27) (W.as (W.nil (thn_n (WC.ret ?_)))))))))))
  refine ⟨.inr rfl, [_], ⟨rfl, trivial⟩, Ms_l, ((List.sublist_append_left _ _).cons _).cons _, ?_⟩
  refine ⟨?_, rfl⟩
  refine congrArg Value.bool ?_
  rw [nth_lt hi, nth_lt hj, Hd.lt, Hd.st_at hi0, Hd.st_at hj0]
  simp_all
 refine W.alloc zr205 (fun b31 => (W.nil (WD.n9 Le.rfl (sr9.cons _) (WD.a1 8 rfl (W.alloc zr205 (fun b32 => (W.nil (WD.n9 Le.rfl ((sr9.cons _).cons _) (WD.a1 10 rfl (W.store (i := 0) (vs := [.slice _ _ _, .int .i64 _]) (L' := [.slice _ _ _, .int .i64 _]) ty205 rfl rfl rfl rfl rfl rfl rfl rfl (W.nil (WD.n9 Le.rfl ((sr9.cons _).cons _) (WD.a1 11 rfl (W.store (i := 1) (vs := [.slice _ _ _, .int .i64 _]) (L' := [.slice _ _ _, .int .i64 _]) ty205 rfl rfl rfl rfl rfl rfl rfl rfl (W.nil (WD.n9 Le.rfl ((sr9.cons _).cons _) (WD.done (by kernel_rfl) (thn_n (WC.seq (WC.draw mix (by kernel_rfl) ?_))))))))))))))))))))
 refine W.ok (ok_fieldB fd205_0 rfl) (W.ok (ok_loadB (i := 0) (vs := [.slice _ _ _]) ty45 rfl rfl rfl rfl (by simp)) ?_)
 have q37 := hw_n2.at (i := 0) (by omega)
 refine match q37 with | ⟨_, he33, ⟨e_36, hm34⟩⟩ => ?_
 subst e_36
 refine W.ok (ok_indexAddr (i := 0) sl45 ty49 hw_n2 rfl rfl ⟨by omega, by omega⟩) (W.ok (ok_fieldE fd49_0 rfl he33.form) (W.ok (ok_loadE (vs := [.int .i64 _]) ty3 he33 rfl rfl rfl (by simp)) (W.ok (ok_fieldB fd205_0 rfl) (W.ok (ok_loadB (i := 1) (vs := [.slice _ _ _]) ty45 rfl rfl rfl rfl (by simp)) ?_))))
 have q42 := hw_n6.at (i := 0) (by omega)
 refine match q42 with | ⟨_, he38, ⟨e_41, hm39⟩⟩ => ?_
 subst e_41
 refine W.ok (ok_indexAddr (i := 0) sl45 ty49 hw_n6 rfl rfl ⟨by omega, by omega⟩) (W.ok (ok_fieldE fd49_0 rfl he38.form) (W.ok (ok_loadE (vs := [.int .i64 _]) ty3 he38 rfl rfl rfl (by simp)) (W.ok (ok_lss rfl rfl) (W.mv ?_))))
 refine W.sp 28 rfl (fun h27 => ?_) (fun h27 => ?_)
 ·have p27 := of_decide_eq_true h27
  refine W.no (dj := 28) rfl rfl h27 (W.no (dj := 28) rfl rfl h27 (W.no (dj := 28) rfl rfl h27 (W.no (dj := 28) rfl rfl h27 (W.no (dj := 28) rfl rfl h27 (W.no (dj := 28) rfl rfl h27 (W.no (dj := 28) rfl rfl h27 (W.no (dj := 28) rfl rfl h27 (W.no (dj := 28) rfl rfl h27 (W.no (dj := 28) rfl rfl h27 (W.no (dj := 28) rfl rfl h27 (W.no (dj := 28) rfl rfl h27 (W.nou (dj := 40) rfl rfl (W.nou (dj := 40) rfl rfl ?_)))))))))))))
  refine W.nou (dj := 40) rfl rfl (W.nou (dj := 40) rfl rfl (W.nou (dj := 40) rfl rfl (W.no (dj := 28) rfl rfl h27 (W.ok (ok_pick_t rfl h27) (W.as (W.nil (thn_n (WC.ret ?_))))))))
  refine ⟨.inr rfl, [_], ⟨rfl, trivial⟩, Ms_l, ((List.sublist_append_left _ _).cons _).cons _, ?_⟩
  refine ⟨?_, rfl⟩
  refine congrArg Value.bool ?_
  rw [nth_lt hi, nth_lt hj, Hd.lt, Hd.st_at hi0, Hd.st_at hj0]
  simp_all
 have p27 := of_decide_eq_false h27
 refine W.yes (dj := 28) rfl rfl h27 (W.ok (ok_fieldB fd205_0 rfl) (W.yes (dj := 28) rfl rfl h27 (W.ok (ok_loadB (i := 0) (vs := [.slice _ _ _]) ty45 rfl rfl rfl rfl (by simp)) (W.yes (dj := 28) rfl rfl h27 ?_))))
 have q47 := hw_n2.at (i := 0) (by omega)
 refine match q47 with | ⟨_, he43, ⟨e_46, hm44⟩⟩ => ?_
 subst e_46
 refine W.ok (ok_indexAddr (i := 0) sl45 ty49 hw_n2 rfl rfl ⟨by omega, by omega⟩) (W.yes (dj := 28) rfl rfl h27 (W.ok (ok_fieldE fd49_0 rfl he43.form) (W.yes (dj := 28) rfl rfl h27 (W.ok (ok_loadE (vs := [.int .i64 _]) ty3 he43 rfl rfl rfl (by simp)) (W.yes (dj := 28) rfl rfl h27 (W.ok (ok_fieldB fd205_0 rfl) (W.yes (dj := 28) rfl rfl h27 (W.ok (ok_loadB (i := 1) (vs := [.slice _ _ _]) ty45 rfl rfl rfl rfl (by simp)) (W.yes (dj := 28) rfl rfl h27 ?_)))))))))
 have q52 := hw_n6.at (i := 0) (by omega)
 refine match q52 with | ⟨_, he48, ⟨e_51, hm49⟩⟩ => ?_
 subst e_51
 refine W.ok (ok_indexAddr (i := 0) sl45 ty49 hw_n6 rfl rfl ⟨by omega, by omega⟩) (W.yes (dj := 28) rfl rfl h27 (W.ok (ok_fieldE fd49_0 rfl he48.form) (W.yes (dj := 28) rfl rfl h27 (W.ok (ok_loadE (vs := [.int .i64 _]) ty3 he48 rfl rfl rfl (by simp)) (W.yes (dj := 28) rfl rfl h27 (W.ok (ok_eql rfl rfl) (W.yes (dj := 28) rfl rfl h27 (W.mv ?_))))))))
 refine W.sp 40 rfl (fun h39 => ?_) (fun h39 => ?_)
 ·have p39 := of_decide_eq_true h39
  refine W.yes (dj := 40) rfl rfl h39 (W.ok (ok_fieldB fd205_1 rfl) (W.yes (dj := 40) rfl rfl h39 (W.ok (ok_loadB (i := 0) (vs := [.int .i64 _]) ty3 rfl rfl rfl rfl (by simp)) (W.yes (dj := 40) rfl rfl h39 (W.ok (ok_fieldB fd205_1 rfl) (W.yes (dj := 40) rfl rfl h39 (W.ok (ok_loadB (i := 1) (vs := [.int .i64 _]) ty3 rfl rfl rfl rfl (by simp)) (W.yes (dj := 40) rfl rfl h39 (W.ok (ok_lss rfl rfl) (W.yes (dj := 28) rfl rfl h27 (W.ok (ok_pick_t rfl h39) (W.ok (ok_pick_f rfl h27) (W.as ?_)))))))))))))
  refine W.nil (thn_n (WC.ret ?_))
  refine ⟨.inr rfl, [_], ⟨rfl, trivial⟩, Ms_l, ((List.sublist_append_left _ _).cons _).cons _, ?_⟩
  refine ⟨?_, rfl⟩
  refine congrArg Value.bool ?_
  rw [nth_lt hi, nth_lt hj, Hd.lt, Hd.st_at hi0, Hd.st_at hj0]
  simp_all
 have p39 := of_decide_eq_false h39
 refine W.no (dj := 40) rfl rfl h39 (W.no (dj := 40) rfl rfl h39 (W.no (dj := 40) rfl rfl h39 (W.no (dj := 40) rfl rfl h39 (W.no (dj := 40) rfl rfl h39 (W.yes (dj := 28) rfl rfl h27 (W.ok (ok_pick_f rfl h39) (W.ok (ok_pick_f rfl h27) (W.as (W.nil (thn_n (WC.ret ?_)))))))))))
 refine ⟨.inr rfl, [_], ⟨rfl, trivial⟩, Ms_l, ((List.sublist_append_left _ _).cons _).cons _, ?_⟩
 refine ⟨?_, rfl⟩
 refine congrArg Value.bool ?_
 rw [nth_lt hi, nth_lt hj, Hd.lt, Hd.st_at hi0, Hd.st_at hj0]
 simp_all

theorem hswap_fc {G : GH} {v_l : Value} {l : List Hd} {Ms_l : MH} (h_l : OwnR eHead 205 G v_l l Ms_l) (i : Nat) (j : Nat) (hi : i < l.length) (hj : j < l.length) :
    Fc Tryz.prog 262 [v_l, .int .i64 ((i : Nat) : Int), .int .i64 ((j : Nat) : Int)] G Ms_l (fun v G' M' => v = .tuple #[] ∧ OwnR eHead 205 G' v_l (swapL l i j) M') := by
 have hl := h_l.len47
 have hls : (l.set i l[j]).length = l.length := List.length_set ..
 refine Fc.intro (rs := []) cl262 Tryz.func262 rfl Tryz.ntmps262 rfl rfl (fun w0 => ?_)
 refine WC.perm (M' := (Ms_l ++ [])) (by simp) (WC.drawW _ sn9 mix (by rintro _ _ _ _ ⟨h | h, _⟩ <;> cases h) (WD.tk 0 rfl (ok_mv) (WD.tk 1 rfl (ok_mv) (WD.tk 2 rfl (ok_mv) (WD.tk 3 rfl (ok_mv) (WD.tk 4 rfl (ok_mv) (WD.tk 5 rfl (ok_mv) ?_)))))))
 have q56 := h_l.at (i := j) (by omega)
 refine match q56 with | ⟨_, he53, ⟨pa_n54, pc_n54, e_55, hw_n54, hok_n54⟩⟩ => ?_
 subst e_55
 refine WD.tk 6 rfl (ok_indexAddrO (i := j) sl202 ty205 h_l rfl rfl ⟨by omega, by omega⟩) (WD.tk 8 rfl (ok_mv) (WD.tk 9 rfl (ok_mv) ?_))
 have q60 := h_l.at (i := i) (by omega)
 refine match q60 with | ⟨_, he57, ⟨pa_n58, pc_n58, e_59, hw_n58, hok_n58⟩⟩ => ?_
 subst e_59
 refine WD.tk 10 rfl (ok_indexAddrO (i := i) sl202 ty205 h_l rfl rfl ⟨by omega, by omega⟩) ?_
 refine WD.any [7, 11] (by kernel_rfl) rfl ⟨⟨_, rfl, rfl, ?_⟩, ⟨_, rfl, rfl, ?_⟩, trivial⟩
 ·refine W.ok (ok_loadO (vs := [.slice _ _ _, .int .i64 _]) ty205 he53 pr9 rfl rfl rfl (by simp)) (W.nil (WD.n9 Le.rfl sn9 (WD.a1 11 rfl (W.ok (ok_loadO (vs := [.slice _ _ _, .int .i64 _]) ty205 he57 pr9 rfl rfl rfl (by simp)) (W.nil (WD.n9 Le.rfl sn9 ?_))))))
  have q64 := h_l.at (i := i) (by omega)
  refine match q64 with | ⟨_, he61, ⟨pa_n62, pc_n62, e_63, hw_n62, hok_n62⟩⟩ => ?_
  subst e_63
  refine WD.tk 12 rfl (ok_indexAddrO (i := i) sl202 ty205 h_l rfl rfl ⟨by omega, by omega⟩) (WD.a1 13 rfl (W.storeO (i := i) (o := 0) (vs := [.slice _ _ _, .int .i64 _]) (a' := l[j]) ty205 rfl rfl rfl rfl rfl (h_l) pr9 (by omega) (by decide) (fun cs h => by obtain ⟨_, _, rfl, _⟩ := h; exact ⟨_, _, rfl, hw_n54, hok_n54⟩) (fun Ms65 ho66 => (W.nil (WD.n9 Le.rfl sn9 ?_)))))
  have q70 := ho66.at (i := j) (by omega)
  refine match q70 with | ⟨_, he67, ⟨pa_n68, pc_n68, e_69, hw_n68, hok_n68⟩⟩ => ?_
  subst e_69
  refine WD.tk 14 rfl (ok_indexAddrO (i := j) sl202 ty205 ho66 rfl rfl ⟨by omega, by omega⟩) (WD.a1 15 rfl (W.storeO (i := j) (o := 0) (vs := [.slice _ _ _, .int .i64 _]) (a' := l[i]) ty205 rfl rfl rfl rfl rfl (ho66) pr9 (by omega) (by decide) (fun cs h => by obtain ⟨_, _, rfl, _⟩ := h; exact ⟨_, _, rfl, hw_n58, hok_n58⟩) (fun Ms71 ho72 => (W.nil (WD.n9 Le.rfl sn9 (WD.done (by kernel_rfl) ?_))))))
  refine ⟨.inl rfl, [], trivial, (Ms71 ++ []), sr9, ?_⟩
  have h := ho72
  refine ⟨rfl, ?_⟩
  rw [swapL, nth_lt hi, nth_lt hj, List.append_nil]; exact h
 refine W.ok (ok_loadO (vs := [.slice _ _ _, .int .i64 _]) ty205 he57 pr9 rfl rfl rfl (by simp)) (W.nil (WD.n9 Le.rfl sn9 (WD.a1 7 rfl (W.ok (ok_loadO (vs := [.slice _ _ _, .int .i64 _]) ty205 he53 pr9 rfl rfl rfl (by simp)) (W.nil (WD.n9 Le.rfl sn9 ?_))))))
 have q76 := h_l.at (i := i) (by omega)
 refine match q76 with | ⟨_, he73, ⟨pa_n74, pc_n74, e_75, hw_n74, hok_n74⟩⟩ => ?_
 subst e_75
 refine WD.tk 12 rfl (ok_indexAddrO (i := i) sl202 ty205 h_l rfl rfl ⟨by omega, by omega⟩) (WD.a1 13 rfl (W.storeO (i := i) (o := 0) (vs := [.slice _ _ _, .int .i64 _]) (a' := l[j]) ty205 rfl rfl rfl rfl rfl (h_l) pr9 (by omega) (by decide) (fun cs h => by obtain ⟨_, _, rfl, _⟩ := h; exact ⟨_, _, rfl, hw_n54, hok_n54⟩) (fun Ms77 ho78 => (W.nil (WD.n9 Le.rfl sn9 ?_)))))
 have q82 := ho78.at (i := j) (by omega)
 refine match q82 with | ⟨_, he79, ⟨pa_n80, pc_n80, e_81, hw_n80, hok_n80⟩⟩ => ?_
 subst e_81
 refine WD.tk 14 rfl (ok_indexAddrO (i := j) sl202 ty205 ho78 rfl rfl ⟨by omega, by omega⟩) (WD.a1 15 rfl (W.storeO (i := j) (o := 0) (vs := [.slice _ _ _, .int .i64 _]) (a' := l[i]) ty205 rfl rfl rfl rfl rfl (ho78) pr9 (by omega) (by decide) (fun cs h => by obtain ⟨_, _, rfl, _⟩ := h; exact ⟨_, _, rfl, hw_n58, hok_n58⟩) (fun Ms83 ho84 => (W.nil (WD.n9 Le.rfl sn9 (WD.done (by kernel_rfl) ?_))))))
 refine ⟨.inl rfl, [], trivial, (Ms83 ++ []), sr9, ?_⟩
 have h := ho84
 refine ⟨rfl, ?_⟩
 rw [swapL, nth_lt hi, nth_lt hj, List.append_nil]; exact h

theorem hdpush_fc {G : GH} {b_b : Nat} {Tb : TypeId} {v_l : Value} {l : List Hd} {Ms_l : MH} (h_l : OwnR eHead 205 G v_l l Ms_l) {pa_a : Option Addr} {pc_a : Nat} {a : Hd} (hw_a : SlR eMsg G (.slice pa_a a.1.length pc_a) a.1) (hok_a : i64 a.2) (hb : l.length < 1000000) :
    Fc Tryz.prog 261 [.pointer (some ⟨b_b, 0, none⟩), .iface 205 (.agg #[.slice pa_a a.1.length pc_a, .int .i64 a.2])] G ((b_b, .cells (List.toArray [v_l]) Tb (0, 0)) :: (Ms_l)) (fun v G' M' => v = .tuple #[] ∧ ∃ v' Ms', M' = (b_b, .cells (List.toArray [v']) Tb (0, 0)) :: Ms' ∧ OwnR eHead 205 G' v' (l ++ [a]) Ms') := by
 obtain ⟨sa_l, sc_l, rfl⟩ := h_l.form
 refine Fc.intro (rs := []) cl261 Tryz.func261 rfl Tryz.ntmps261 rfl rfl (fun w0 => ?_)
 refine WC.perm (M' := ((b_b, .cells (List.toArray [.slice sa_l l.length sc_l]) Tb (0, 0)) :: (Ms_l ++ []))) (by simp) (WC.drawW _ (sn9.cons _) mix (by rintro _ _ _ _ ⟨h | h, _⟩ <;> cases h) (WD.tk 0 rfl (ok_mv) (WD.tk 1 rfl (ok_mv) (WD.tk 2 rfl (ok_nilP rfl) (WD.tk 4 rfl (ok_mv) (WD.tk 5 rfl (ok_tyA pi205 rfl) ?_))))))
 refine WD.any [3, 6] (by kernel_rfl) rfl ⟨⟨_, rfl, rfl, ?_⟩, ⟨_, rfl, rfl, ?_⟩, trivial⟩
 ·refine W.ok (ok_loadB (i := 0) (vs := [.slice _ _ _]) ty202 rfl rfl rfl rfl (by simp)) (W.nil (WD.n9 Le.rfl (sn9.cons _) (WD.a1 6 rfl (W.lit (e := eHead) (l := [a]) (css := [[.slice _ _ _, .int .i64 _]]) sl202 ty205 zr205 rfl rfl rfl rfl rfl rfl ⟨⟨_, _, rfl, hw_a, hok_a⟩, trivial⟩ (fun bl85 G85 hG85 hv85 => (W.nil (WD.n9 hG85 (sn9.cons _) (WD.a1 7 rfl (W.app (e := eHead) sl202 ty205 zr205 rfl by205 rfl rfl ((h_l.mono hG85)) (hv85) (pmC pr9) (by show (_ + 1) * 32 ≤ _; omega) (fun v86 Ms87 ho88 => (W.perm (pmC pr9).symm ?_)))))))))))
  have q92 := ho88.form
  refine match q92 with | ⟨sa89, sc90, e_91⟩ => ?_
  subst e_91
  refine W.nil (WD.n9 Le.rfl (sn9.cons _) (WD.tk 8 rfl (ok_nilP rfl) (WD.a1 9 rfl (W.store (i := 0) (vs := [.slice _ _ _]) (L' := [.slice _ _ _]) ty202 rfl rfl rfl rfl rfl rfl rfl rfl (W.nil (WD.n9 Le.rfl (sn9.cons _) (WD.done (by kernel_rfl) ?_)))))))
  refine ⟨.inl rfl, [], trivial, ((b_b, .cells (List.toArray [.slice sa89 ((l ++ [a])).length sc90]) Tb (0, 0)) :: (Ms87 ++ [])), sr9.k9, ?_⟩
  exact ⟨rfl, _, _, congrArg _ (List.append_nil _), ho88⟩
 refine W.lit (e := eHead) (l := [a]) (css := [[.slice _ _ _, .int .i64 _]]) sl202 ty205 zr205 rfl rfl rfl rfl rfl rfl ⟨⟨_, _, rfl, hw_a, hok_a⟩, trivial⟩ (fun bl93 G93 hG93 hv93 => (W.nil (WD.n9 hG93 (sn9.cons _) (WD.a1 3 rfl (W.ok (ok_loadB (i := 0) (vs := [.slice _ _ _]) ty202 rfl rfl rfl rfl (by simp)) (W.nil (WD.n9 Le.rfl (sn9.cons _) (WD.a1 7 rfl (W.app (e := eHead) sl202 ty205 zr205 rfl by205 rfl rfl ((h_l.mono hG93)) (hv93) (pmC pr9) (by show (_ + 1) * 32 ≤ _; omega) (fun v94 Ms95 ho96 => (W.perm (pmC pr9).symm ?_)))))))))))
 have q100 := ho96.form
 refine match q100 with | ⟨sa97, sc98, e_99⟩ => ?_
 subst e_99
 refine W.nil (WD.n9 Le.rfl (sn9.cons _) (WD.tk 8 rfl (ok_nilP rfl) (WD.a1 9 rfl (W.store (i := 0) (vs := [.slice _ _ _]) (L' := [.slice _ _ _]) ty202 rfl rfl rfl rfl rfl rfl rfl rfl (W.nil (WD.n9 Le.rfl (sn9.cons _) (WD.done (by kernel_rfl) ?_)))))))
 refine ⟨.inl rfl, [], trivial, ((b_b, .cells (List.toArray [.slice sa97 ((l ++ [a])).length sc98]) Tb (0, 0)) :: (Ms95 ++ [])), sr9.k9, ?_⟩
 exact ⟨rfl, _, _, congrArg _ (List.append_nil _), ho96⟩

theorem hdpop_fc {G : GH} {b_b : Nat} {Tb : TypeId} {v_l : Value} {l : List Hd} {Ms_l : MH} (h_l : OwnR eHead 205 G v_l l Ms_l) (h0 : 0 < l.length) :
    Fc Tryz.prog 260 [.pointer (some ⟨b_b, 0, none⟩)] G ((b_b, .cells (List.toArray [v_l]) Tb (0, 0)) :: (Ms_l)) (fun v G' M' => (∃ p c, v = .iface 205 (.agg (List.toArray [.slice p (nth l (l.length - 1)).1.length c, .int .i64 (nth l (l.length - 1)).2])) ∧ SlR eMsg G' (.slice p (nth l (l.length - 1)).1.length c) (nth l (l.length - 1)).1 ∧ i64 (nth l (l.length - 1)).2) ∧ ∃ v' Ms', M' = (b_b, .cells (List.toArray [v']) Tb (0, 0)) :: Ms' ∧ OwnR eHead 205 G' v' (l.take (l.length - 1)) Ms') := by
 obtain ⟨sa_l, sc_l, rfl⟩ := h_l.form
 have hl := h_l.len47
 have hlast : nth l (l.length - 1) = l[l.length - 1] := nth_lt (by omega)
 refine Fc.intro (rs := [.tmp 2]) cl260 Tryz.func260 rfl Tryz.ntmps260 rfl rfl (fun w0 => ?_)
 refine WC.perm (M' := ((b_b, .cells (List.toArray [.slice sa_l l.length sc_l]) Tb (0, 0)) :: (Ms_l ++ []))) (by simp) (WC.seq (WC.region (W.as (W.nil (thn_n (WC.seq (WC.region (W.mv (W.ok (ok_nilP rfl) (W.ok (ok_loadB (i := 0) (vs := [.slice _ _ _]) ty202 rfl rfl rfl rfl (by simp)) (W.ok (ok_lenO sl202 h_l rfl) (W.ok (Ok.int (n := ((l.length - 1 : Nat) : Int)) (ok_sub rfl rfl (by omega)) (by omega)) (W.as (W.nil (thn_n ?_)))))))))))))))
 refine WC.seq (WC.region (W.mv (W.ok (ok_nilP rfl) (W.ok (ok_loadB (i := 0) (vs := [.slice _ _ _]) ty202 rfl rfl rfl rfl (by simp)) (W.mv ?_)))))
 have q104 := h_l.at (i := l.length - 1) (by omega)
 refine match q104 with | ⟨_, he101, ⟨pa_n102, pc_n102, e_103, hw_n102, hok_n102⟩⟩ => ?_
 subst e_103
 refine W.ok (ok_indexAddrO (i := l.length - 1) sl202 ty205 h_l rfl rfl ⟨by omega, by omega⟩) (W.ok (ok_loadO (vs := [.slice _ _ _, .int .i64 _]) ty205 he101 (pmC pr9) rfl rfl rfl (by simp)) (W.alloc zr205 (fun b105 => (W.store (i := 0) (vs := [.slice _ _ _, .int .i64 _]) (L' := [.slice _ _ _, .int .i64 _]) ty205 rfl rfl rfl rfl rfl rfl rfl rfl (W.nil (thn_n (WC.seq (WC.region (W.mv (W.mv (W.ok (ok_nilP rfl) (W.ok (ok_loadB (i := 1) (vs := [.slice _ _ _]) ty202 rfl rfl rfl rfl (by simp)) (W.mv (W.shortO (l.length - 1) sl202 ty205 h_l rfl ⟨_, _, rfl, by omega⟩ (by omega) (fun v106 ho107 => ?_)))))))))))))))
 have q111 := ho107.form
 refine match q111 with | ⟨sa108, sc109, e_110⟩ => ?_
 subst e_110
 refine W.ok (ok_nilP rfl) (W.store (i := 1) (vs := [.slice _ _ _]) (L' := [.slice _ _ _]) ty202 rfl rfl rfl rfl rfl rfl rfl rfl (W.nil (thn_n (WC.seq (WC.region (W.ok (ok_loadB (i := 0) (vs := [.slice _ _ _, .int .i64 _]) ty205 rfl rfl rfl rfl (by simp)) (W.ok (ok_mkI pi205 rfl) (W.as (W.nil (thn_n (WC.ret ?_)))))))))))
 refine ⟨.inr rfl, [_], ⟨rfl, trivial⟩, ((b_b, .cells (List.toArray [.slice sa108 (((l).take (l.length - 1))).length sc109]) Tb (0, 0)) :: (Ms_l ++ [])), sr9.k9.cons _, ?_⟩
 exact ⟨by rw [hlast]; exact ⟨_, _, rfl, hw_n102, hok_n102⟩, _, _, congrArg _ (List.append_nil _), ho107⟩

end Go.Proofs.YtebkfinhhpelbaaGreat
namespace Go.Proofs.YtebkfinhhpelbaaGreat
open Go Go.Fw Go.RowKit

abbrev LeastR (b : Nat) (Tb : TypeId) (c0 c1 : Value) (G : GH) (l : List Int) (M : MH) : Prop := ∃ v Ms, M = (b, .cells (List.toArray [c0, c1, v]) Tb (0, 0)) :: Ms ∧ OwnR eInt 3 G v l Ms
abbrev HeadsR (b : Nat) (Tb : TypeId) (G : GH) (l : List Hd) (M : MH) : Prop := (∀ h ∈ l, 0 < h.1.length) ∧ ∃ v Ms, M = (b, .cells (List.toArray [v]) Tb (0, 0)) :: Ms ∧ OwnR eHead 205 G v l Ms
abbrev HeadV (G : GH) (u : Value) (a : Hd) : Prop := (∃ p c, u = .iface 205 (.agg (List.toArray [.slice p a.1.length c, .int .i64 a.2])) ∧ SlR eMsg G (.slice p a.1.length c) a.1 ∧ i64 a.2) ∧ 0 < a.1.length
theorem headV_mono {G G' : GH} {v : Value} {a : Hd} (hl : Le G G') (h : HeadV G v a) : HeadV G' v a := by
  obtain ⟨⟨p, c, h1, h2, h3⟩, h4⟩ := h; exact ⟨⟨p, c, h1, h2.mono hl, h3⟩, h4⟩
theorem heads_heap {b : Nat} {Tb : TypeId} : HeapK Tryz.prog Hd.lt (.iface 200 (.pointer (some ⟨b, 0, none⟩))) (HeadsR b Tb) HeadV where
  mono := fun hl ⟨h0, v, Ms, h1, h2⟩ => ⟨h0, v, Ms, h1, h2.mono hl⟩
  bound := fun ⟨h0, v, Ms, h1, h2⟩ => h2.len47
  len := fun {G l M} ⟨h0, v, Ms, h1, h2⟩ => by
    subst h1
    exact Inv.val (e := 202) (by kernel_rfl) (by kernel_rfl) rfl (hlen_fc h2) (fun v' G' M' hl ⟨e1, e2⟩ => ⟨e1, by rw [← e2]⟩)
  less := fun {G l M i j} ⟨h0, v, Ms, h1, h2⟩ hi hj => by
    subst h1
    exact Inv.val (e := 202) (by kernel_rfl) (by kernel_rfl) rfl (hless_fc h2 i j hi hj (h0 _ (List.getElem_mem hi)) (h0 _ (List.getElem_mem hj))) (fun v' G' M' hl ⟨e1, e2⟩ => ⟨e1, by rw [← e2]⟩)
  swap := fun {G l M i j} ⟨h0, v, Ms, h1, h2⟩ hi hj => by
    subst h1
    exact Inv.val (e := 202) (by kernel_rfl) (by kernel_rfl) rfl (hswap_fc h2 i j hi hj) (fun v' G' M' hl ⟨e1, e2⟩ => ⟨e1, fun x hx => h0 x ((swapL_perm hi hj).mem_iff.1 hx), v, M', rfl, e2⟩)
  push := fun {G l M u a} ⟨h0, v, Ms, h1, h2⟩ hb ⟨⟨p, c, h3, h4, h5⟩, h6⟩ => by
    subst h1 h3
    exact Inv.ptr (g := 261) (by kernel_rfl) (hdpush_fc h2 h4 h5 hb) (fun v' G' M' hl ⟨e1, v2, M2, e2, e3⟩ => ⟨e1, fun x hx => (List.mem_append.1 hx).elim (h0 x) (fun hx => by rw [List.mem_singleton.1 hx]; exact h6), v2, M2, e2, e3⟩)
  pop := fun {G l M} ⟨h0, v, Ms, h1, h2⟩ hl0 => by
    subst h1
    exact Inv.ptr (g := 260) (by kernel_rfl) (hdpop_fc h2 hl0) (fun v' G' M' hl ⟨e1, v2, M2, e2, e3⟩ => ⟨⟨e1, by rw [nth_lt (by omega)]; exact h0 _ (List.getElem_mem _)⟩, fun x hx => h0 x (List.mem_of_mem_take hx), v2, M2, e2, e3⟩)
end Go.Proofs.YtebkfinhhpelbaaGreat
