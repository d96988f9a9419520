/- Walks of latches. -/
import Derived.Test.YtgmnljhiojdigaaGreatQiW4
set_option maxRecDepth 100000
set_option maxHeartbeats 1600000
set_option linter.unusedVariables false
set_option linter.unusedSimpArgs false
set_option linter.unnecessarySimpa false
namespace Go.Proofs.YtgmnljhiojdigaaGreat
open Go Go.Fw Go.RowKit
theorem lhas0_fc {G : GH} {b_t : Nat} {v_L : Value} {L : List (Value × Int)} {Ms_L : MH} (h_L : OwnR eOne 132 G v_L L Ms_L) (th : Int) (s : Int) {Th : List Int} {Lw : Lat} {Mw : MH} (h_w : WhoR 3 L Lw G Mw) (hW : LatOk Th Lw) :
    Fc Tryz.prog 33 [.pointer (some ⟨b_t, 0, none⟩), .int .i64 th, .int .i64 s] G ((b_t, .cells (List.toArray [v_L]) 128 (0, 0)) :: (Ms_L ++ (Mw))) (fun v G' M' => v = .tuple #[.bool (lhasN Lw th s), .bool (ltoN Lw th s)] ∧ TabR 128 132 3 Th b_t G' Lw M') := by
 obtain ⟨sa_L, sc_L, rfl⟩ := h_L.form
 have hlw := h_w.len
 have hl4 := hW.2.1
 have hl47 := h_L.len47
 refine Fc.intro (rs := [.tmp 6, .tmp 7]) cl33 Tryz.func33 rfl Tryz.ntmps33 rfl rfl (fun w0 => ?_)
 refine WC.perm (M' := ((b_t, .cells (List.toArray [.slice sa_L L.length sc_L]) 128 (0, 0)) :: (Ms_L ++ (Mw ++ [])))) (by simp) ?_
 refine WC.seq ?_
 refine WC.region ?_
 refine W.as ?_
 refine W.as ?_
 refine W.nil (thn_n ?_)
 refine WC.seq ?_
 refine WC.seq ?_
 refine WC.region ?_
 refine W.mv ?_
 refine W.ok (ok_eqlPN pp73 rfl rfl) ?_
 refine W.mv ?_
 refine W.yes (dj := 10) rfl rfl rfl ?_
 refine W.mv ?_
 refine W.yes (dj := 10) rfl rfl rfl ?_
 refine W.ok (ok_lss rfl rfl) ?_
 refine W.ok (ok_pick_f rfl rfl) ?_
 refine W.mv ?_
 refine W.sp 14 rfl (fun h12 => ?_) (fun h12 => ?_)
 ·have p12 := of_decide_eq_true h12
  refine W.no (dj := 14) rfl rfl h12 ?_
  refine W.no (dj := 14) rfl rfl h12 ?_
  refine W.no (dj := 14) rfl rfl h12 ?_
  refine W.no (dj := 14) rfl rfl h12 ?_
  refine W.no (dj := 14) rfl rfl h12 ?_
  refine W.no (dj := 14) rfl rfl h12 ?_
  refine W.no (dj := 14) rfl rfl h12 ?_
  refine W.ok (ok_pick_t rfl h12) ?_
  refine W.nil (thn_n ?_)
  refine WC.cond_t rfl rfl ?_
  refine WC.seq ?_
  refine WC.region ?_
  refine W.as ?_
  refine W.as ?_
  refine W.nil (thn_n ?_)
  refine WC.ret (thn_r ?_)
  refine ⟨.inr rfl, [_, _], ⟨rfl, rfl, trivial⟩, ((b_t, .cells (List.toArray [.slice sa_L L.length sc_L]) 128 (0, 0)) :: (Ms_L ++ Mw)), (List.Sublist.append_left (List.sublist_append_left _ _) _).cons_cons _, ?_⟩
  have hno9 : ¬ inL Lw s := fun h9 => by have h8 := h9.1; have h7 := h9.2; omega
  have h65 := lhas_no (t := th) hno9
  exact ⟨tbb (h65.1.symm) (h65.2.symm), ⟨_, _, _, _, by simp, h_L, h_w, hW⟩⟩
 ·have p12 := of_decide_eq_false h12
  refine W.yes (dj := 14) rfl rfl h12 ?_
  refine W.mv ?_
  refine W.yes (dj := 14) rfl rfl h12 ?_
  refine W.mv ?_
  refine W.yes (dj := 14) rfl rfl h12 ?_
  refine W.ok (ok_nilP rfl) ?_
  refine W.yes (dj := 14) rfl rfl h12 ?_
  refine W.ok (ok_fieldB fd128_0 rfl) ?_
  refine W.yes (dj := 14) rfl rfl h12 ?_
  refine W.ok (ok_loadB (i := 0) (vs := [.slice _ _ _]) ty126 rfl rfl rfl rfl (by simp)) ?_
  refine W.yes (dj := 14) rfl rfl h12 ?_
  refine W.ok (ok_lenO sl126 h_L rfl) ?_
  refine W.yes (dj := 14) rfl rfl h12 ?_
  refine W.ok (ok_geq rfl rfl) ?_
  refine W.ok (ok_pick_f rfl h12) ?_
  refine W.nil (thn_n ?_)
  refine WC.cond (b := _) rfl (fun h21 => ?_) (fun h21 => ?_)
  ·have p21 := of_decide_eq_true h21
   refine WC.seq ?_
   refine WC.region ?_
   refine W.as ?_
   refine W.as ?_
   refine W.nil (thn_n ?_)
   refine WC.ret (thn_r ?_)
   refine ⟨.inr rfl, [_, _], ⟨rfl, rfl, trivial⟩, ((b_t, .cells (List.toArray [.slice sa_L L.length sc_L]) 128 (0, 0)) :: (Ms_L ++ Mw)), (List.Sublist.append_left (List.sublist_append_left _ _) _).cons_cons _, ?_⟩
   have hno9 : ¬ inL Lw s := fun h9 => by have h8 := h9.1; have h7 := h9.2; omega
   have h65 := lhas_no (t := th) hno9
   exact ⟨tbb (h65.1.symm) (h65.2.symm), ⟨_, _, _, _, by simp, h_L, h_w, hW⟩⟩
  ·have p21 := of_decide_eq_false h21
   refine WC.skip (thn_n ?_)
   refine WC.seq ?_
   refine WC.region ?_
   refine W.mv ?_
   refine W.ok (ok_nilP rfl) ?_
   refine W.ok (ok_fieldB fd128_0 rfl) ?_
   refine W.ok (ok_loadB (i := 0) (vs := [.slice _ _ _]) ty126 rfl rfl rfl rfl (by simp)) ?_
   refine W.mv ?_
   have q4 := h_L.at (i := s.toNat) (by omega)
   refine match q4 with | ⟨_, he1, ⟨e_3, hf2⟩⟩ => ?_
   subst e_3
   refine W.ok (ok_indexAddrO (i := s.toNat) sl126 ty132 h_L rfl rfl ⟨by omega, by omega⟩) ?_
   refine W.ok (ok_fieldE fd132_0 rfl he1.form) ?_
   refine W.ok (ok_loadO (vs := [_]) ty39 he1 (pmC (List.Perm.refl _)) rfl rfl rfl (by simp)) ?_
   refine W.mv ?_
   have hin9 : inL Lw s := ⟨by omega, by omega⟩
   have q5 := h_w.el (i := s.toNat) (by omega) (by omega)
   refine match q5 with | ⟨heq9, Mi9, hsub9, hoi9⟩ => ?_
   have q6 := hW.at (i := s.toNat) (by omega)
   refine match q6 with | ⟨hsr9, hmt9, hik9, hle9⟩ => ?_
   have hlo9 := lowI_le (Lw[s.toNat]'(by omega)).1 th
   refine W.lendQ (fun G1 hl1 hn1 => (bsearchi_fc (hoi9.lent hl1 fun p hp => sub_of (((List.sublist_append_left _ _).trans (List.sublist_append_right _ _)).cons _) hn1 p (hsub9 p hp)) th hsr9)) cl64 rfl ?_
   refine W.mv ?_
   refine W.ok (ok_extract rfl rfl) ?_
   refine W.ok (ok_extract rfl rfl) ?_
   refine W.as ?_
   refine W.nil (thn_n ?_)
   refine WC.seq ?_
   refine WC.draw mix (by kernel_rfl) ?_
   refine W.mv ?_
   refine W.mv ?_
   refine W.mv ?_
   refine W.sp 38 rfl (fun h33 => ?_) (fun h33 => ?_)
   ·refine W.yes (dj := 38) rfl rfl h33 ?_
    refine W.mv ?_
    refine W.yes (dj := 38) rfl rfl h33 ?_
    refine W.ok (ok_nilP rfl) ?_
    refine W.yes (dj := 38) rfl rfl h33 ?_
    refine W.ok (ok_fieldB fd128_0 rfl) ?_
    refine W.yes (dj := 38) rfl rfl h33 ?_
    refine W.ok (ok_loadB (i := 0) (vs := [.slice _ _ _]) ty126 rfl rfl rfl rfl (by simp)) ?_
    refine W.yes (dj := 38) rfl rfl h33 ?_
    refine W.mv ?_
    refine W.yes (dj := 38) rfl rfl h33 ?_
    have q10 := h_L.at (i := s.toNat) (by omega)
    refine match q10 with | ⟨_, he7, ⟨e_9, hf8⟩⟩ => ?_
    subst e_9
    refine W.ok (ok_indexAddrO (i := s.toNat) sl126 ty132 h_L rfl rfl ⟨by omega, by omega⟩) ?_
    refine W.yes (dj := 38) rfl rfl h33 ?_
    refine W.ok (ok_fieldE fd132_1 rfl he7.form) ?_
    refine W.yes (dj := 38) rfl rfl h33 ?_
    refine W.ok (ok_loadO (vs := [.int .i64 _]) ty3 he7 (pmC (List.Perm.refl _)) rfl rfl rfl (by simp)) ?_
    refine W.yes (dj := 38) rfl rfl h33 ?_
    refine W.ok (ok_eql rfl rfl) ?_
    refine W.ok (ok_pick_t rfl h33) ?_
    refine W.as ?_
    refine W.as ?_
    refine W.nil (thn_n ?_)
    refine WC.ret ?_
    refine ⟨.inr rfl, [_, _], ⟨rfl, rfl, trivial⟩, ((b_t, .cells (List.toArray [.slice sa_L L.length sc_L]) 128 (0, 0)) :: (Ms_L ++ Mw)), (List.Sublist.append_left (List.sublist_append_left _ _) _).cons_cons _, ?_⟩
    have h65 := lhas_at (t := th) hin9
    exact ⟨tbb (h65.1.symm) (show decide ((L[s.toNat]'(by omega)).2 = 2) = ltoN Lw th s by rw [h65.2, h33, heq9]; rfl), ⟨_, _, _, _, by simp, h_L, h_w, hW⟩⟩
   ·refine W.no (dj := 38) rfl rfl h33 ?_
    refine W.no (dj := 38) rfl rfl h33 ?_
    refine W.no (dj := 38) rfl rfl h33 ?_
    refine W.no (dj := 38) rfl rfl h33 ?_
    refine W.no (dj := 38) rfl rfl h33 ?_
    refine W.no (dj := 38) rfl rfl h33 ?_
    refine W.no (dj := 38) rfl rfl h33 ?_
    refine W.no (dj := 38) rfl rfl h33 ?_
    refine W.no (dj := 38) rfl rfl h33 ?_
    refine W.ok (ok_pick_f rfl h33) ?_
    refine W.as ?_
    refine W.as ?_
    refine W.nil (thn_n ?_)
    refine WC.ret ?_
    refine ⟨.inr rfl, [_, _], ⟨rfl, rfl, trivial⟩, ((b_t, .cells (List.toArray [.slice sa_L L.length sc_L]) 128 (0, 0)) :: (Ms_L ++ Mw)), (List.Sublist.append_left (List.sublist_append_left _ _) _).cons_cons _, ?_⟩
    have h65 := lhas_at (t := th) hin9
    exact ⟨tbb (h65.1.symm) (show false = ltoN Lw th s by rw [h65.2, h33]; rfl), ⟨_, _, _, _, by simp, h_L, h_w, hW⟩⟩

theorem ltake0_fc {G : GH} {b_t : Nat} {v_L : Value} {L : List (Value × Int)} {Ms_L : MH} (h_L : OwnR eOne 132 G v_L L Ms_L) (th : Int) (s : Int) (how : Int) {Th : List Int} {Lw : Lat} {Mw : MH} (h_w : WhoR 3 L Lw G Mw) (hW : LatOk Th Lw) (hth : th ∈ Th) (hhow : i64 how) :
    Fc Tryz.prog 65 [.pointer (some ⟨b_t, 0, none⟩), .int .i64 th, .int .i64 s, .int .i64 how] G ((b_t, .cells (List.toArray [v_L]) 128 (0, 0)) :: (Ms_L ++ (Mw))) (fun v G' M' => v = .int .i64 (ltakeN Lw th s how).1 ∧ TabR 128 132 3 Th b_t G' (ltakeN Lw th s how).2 M') := by
 obtain ⟨sa_L, sc_L, rfl⟩ := h_L.form
 have hlw := h_w.len
 have hl4 := hW.2.1
 have hl47 := h_L.len47
 refine Fc.intro (rs := [.tmp 8]) cl65 Tryz.func65 rfl Tryz.ntmps65 rfl rfl (fun w0 => ?_)
 refine WC.perm (M' := ((b_t, .cells (List.toArray [.slice sa_L L.length sc_L]) 128 (0, 0)) :: (Ms_L ++ (Mw ++ [])))) (by simp) ?_
 refine WC.seq ?_
 refine WC.region ?_
 refine W.as ?_
 refine W.nil (thn_n ?_)
 refine WC.seq ?_
 refine WC.seq ?_
 refine WC.region ?_
 refine W.mv ?_
 refine W.ok (ok_eqlPN pp73 rfl rfl) ?_
 refine W.nil (thn_n ?_)
 refine WC.cond_f rfl rfl ?_
 refine WC.skip (thn_n ?_)
 refine WC.seq ?_
 refine WC.seq ?_
 refine WC.region ?_
 refine W.mv ?_
 refine W.ok (ok_lss rfl rfl) ?_
 refine W.mv ?_
 refine W.sp 16 rfl (fun h15 => ?_) (fun h15 => ?_)
 ·have p15 := of_decide_eq_true h15
  refine W.no (dj := 16) rfl rfl h15 ?_
  refine W.no (dj := 16) rfl rfl h15 ?_
  refine W.ok (ok_pick_t rfl h15) ?_
  refine W.mv ?_
  refine W.no (dj := 20) rfl rfl rfl ?_
  refine W.no (dj := 20) rfl rfl rfl ?_
  refine W.no (dj := 20) rfl rfl rfl ?_
  refine W.no (dj := 20) rfl rfl rfl ?_
  refine W.no (dj := 20) rfl rfl rfl ?_
  refine W.no (dj := 20) rfl rfl rfl ?_
  refine W.no (dj := 20) rfl rfl rfl ?_
  refine W.ok (ok_pick_t rfl rfl) ?_
  refine W.nil (thn_n ?_)
  refine WC.cond_t rfl rfl ?_
  refine WC.seq ?_
  refine WC.region ?_
  refine W.as ?_
  refine W.nil (thn_n ?_)
  refine WC.ret (thn_r ?_)
  refine ⟨.inr rfl, [_], ⟨rfl, trivial⟩, ((b_t, .cells (List.toArray [.slice sa_L L.length sc_L]) 128 (0, 0)) :: (Ms_L ++ Mw)), (List.Sublist.append_left (List.sublist_append_left _ _) _).cons_cons _, ?_⟩
  have hE9 := take_2a (W := Lw) (t := th) (s := s) (how := how) (by first | (left; omega) | (right; intro h9; have h8 := h9.1; have h7 := h9.2; omega))
  exact ⟨congrArg (Value.int .i64) (congrArg Prod.fst hE9).symm, TabR.cast (congrArg Prod.snd hE9) ⟨_, _, _, _, by simp, h_L, h_w, hW⟩⟩
 ·have p15 := of_decide_eq_false h15
  refine W.yes (dj := 16) rfl rfl h15 ?_
  refine W.mv ?_
  refine W.yes (dj := 16) rfl rfl h15 ?_
  refine W.ok (ok_lss rfl rfl) ?_
  refine W.ok (ok_pick_f rfl h15) ?_
  refine W.mv ?_
  refine W.sp 20 rfl (fun h18 => ?_) (fun h18 => ?_)
  ·have p18 := of_decide_eq_true h18
   refine W.no (dj := 20) rfl rfl h18 ?_
   refine W.no (dj := 20) rfl rfl h18 ?_
   refine W.no (dj := 20) rfl rfl h18 ?_
   refine W.no (dj := 20) rfl rfl h18 ?_
   refine W.no (dj := 20) rfl rfl h18 ?_
   refine W.no (dj := 20) rfl rfl h18 ?_
   refine W.no (dj := 20) rfl rfl h18 ?_
   refine W.ok (ok_pick_t rfl h18) ?_
   refine W.nil (thn_n ?_)
   refine WC.cond_t rfl rfl ?_
   refine WC.seq ?_
   refine WC.region ?_
   refine W.as ?_
   refine W.nil (thn_n ?_)
   refine WC.ret (thn_r ?_)
   refine ⟨.inr rfl, [_], ⟨rfl, trivial⟩, ((b_t, .cells (List.toArray [.slice sa_L L.length sc_L]) 128 (0, 0)) :: (Ms_L ++ Mw)), (List.Sublist.append_left (List.sublist_append_left _ _) _).cons_cons _, ?_⟩
   have hE9 := take_2a (W := Lw) (t := th) (s := s) (how := how) (by first | (left; omega) | (right; intro h9; have h8 := h9.1; have h7 := h9.2; omega))
   exact ⟨congrArg (Value.int .i64) (congrArg Prod.fst hE9).symm, TabR.cast (congrArg Prod.snd hE9) ⟨_, _, _, _, by simp, h_L, h_w, hW⟩⟩
  ·have p18 := of_decide_eq_false h18
   refine W.yes (dj := 20) rfl rfl h18 ?_
   refine W.mv ?_
   refine W.yes (dj := 20) rfl rfl h18 ?_
   refine W.mv ?_
   refine W.yes (dj := 20) rfl rfl h18 ?_
   refine W.ok (ok_nilP rfl) ?_
   refine W.yes (dj := 20) rfl rfl h18 ?_
   refine W.ok (ok_fieldB fd128_0 rfl) ?_
   refine W.yes (dj := 20) rfl rfl h18 ?_
   refine W.ok (ok_loadB (i := 0) (vs := [.slice _ _ _]) ty126 rfl rfl rfl rfl (by simp)) ?_
   refine W.yes (dj := 20) rfl rfl h18 ?_
   refine W.ok (ok_lenO sl126 h_L rfl) ?_
   refine W.yes (dj := 20) rfl rfl h18 ?_
   refine W.ok (ok_geq rfl rfl) ?_
   refine W.ok (ok_pick_f rfl h18) ?_
   refine W.nil (thn_n ?_)
   refine WC.cond (b := _) rfl (fun h27 => ?_) (fun h27 => ?_)
   ·have p27 := of_decide_eq_true h27
    refine WC.seq ?_
    refine WC.region ?_
    refine W.as ?_
    refine W.nil (thn_n ?_)
    refine WC.ret (thn_r ?_)
    refine ⟨.inr rfl, [_], ⟨rfl, trivial⟩, ((b_t, .cells (List.toArray [.slice sa_L L.length sc_L]) 128 (0, 0)) :: (Ms_L ++ Mw)), (List.Sublist.append_left (List.sublist_append_left _ _) _).cons_cons _, ?_⟩
    have hE9 := take_2a (W := Lw) (t := th) (s := s) (how := how) (by first | (left; omega) | (right; intro h9; have h8 := h9.1; have h7 := h9.2; omega))
    exact ⟨congrArg (Value.int .i64) (congrArg Prod.fst hE9).symm, TabR.cast (congrArg Prod.snd hE9) ⟨_, _, _, _, by simp, h_L, h_w, hW⟩⟩
   ·have p27 := of_decide_eq_false h27
    refine WC.skip (thn_n ?_)
    refine WC.seq ?_
    refine WC.region ?_
    refine W.mv ?_
    refine W.ok (ok_nilP rfl) ?_
    refine W.ok (ok_fieldB fd128_0 rfl) ?_
    refine W.ok (ok_loadB (i := 0) (vs := [.slice _ _ _]) ty126 rfl rfl rfl rfl (by simp)) ?_
    refine W.mv ?_
    have q14 := h_L.at (i := s.toNat) (by omega)
    refine match q14 with | ⟨_, he11, ⟨e_13, hf12⟩⟩ => ?_
    subst e_13
    refine W.ok (ok_indexAddrO (i := s.toNat) sl126 ty132 h_L rfl rfl ⟨by omega, by omega⟩) ?_
    refine W.as ?_
    refine W.nil (thn_n ?_)
    refine WC.seq ?_
    refine WC.region ?_
    refine W.mv ?_
    refine W.ok (ok_nilP rfl) ?_
    refine W.ok (ok_fieldE fd132_0 rfl he11.form) ?_
    refine W.ok (ok_loadO (vs := [_]) ty39 he11 (pmC (List.Perm.refl _)) rfl rfl rfl (by simp)) ?_
    refine W.mv ?_
    have hin9 : inL Lw s := ⟨by omega, by omega⟩
    have q15 := h_w.el (i := s.toNat) (by omega) (by omega)
    refine match q15 with | ⟨heq9, Mi9, hsub9, hoi9⟩ => ?_
    have q16 := hW.at (i := s.toNat) (by omega)
    refine match q16 with | ⟨hsr9, hmt9, hik9, hle9⟩ => ?_
    have hlo9 := lowI_le (Lw[s.toNat]'(by omega)).1 th
    refine W.lendQ (fun G1 hl1 hn1 => (bsearchi_fc (hoi9.lent hl1 fun p hp => sub_of (((List.sublist_append_left _ _).trans (List.sublist_append_right _ _)).cons _) hn1 p (hsub9 p hp)) th hsr9)) cl64 rfl ?_
    refine W.mv ?_
    refine W.ok (ok_extract rfl rfl) ?_
    refine W.ok (ok_extract rfl rfl) ?_
    refine W.as ?_
    refine W.as ?_
    refine W.nil (thn_n ?_)
    refine WC.seq ?_
    refine WC.block ?_
    refine WC.seq ?_
    refine WC.region ?_
    refine W.mv ?_
    refine W.as ?_
    refine W.nil (thn_n ?_)
    refine WC.cond (b := _) rfl (fun h41 => ?_) (fun h41 => ?_)
    ·refine WC.seq ?_
     refine WC.region ?_
     refine W.as ?_
     refine W.nil (thn_n ?_)
     refine WC.ret (blk_r (thn_r ?_))
     refine ⟨.inr rfl, [_], ⟨rfl, trivial⟩, ((b_t, .cells (List.toArray [.slice sa_L L.length sc_L]) 128 (0, 0)) :: (Ms_L ++ Mw)), (List.Sublist.append_left (List.sublist_append_left _ _) _).cons_cons _, ?_⟩
     have hE9 := take_2b (how := how) (by omega) hin9 (of_decide_eq_true h41)
     exact ⟨congrArg (Value.int .i64) (congrArg Prod.fst hE9).symm, TabR.cast (congrArg Prod.snd hE9) ⟨_, _, _, _, by simp, h_L, h_w, hW⟩⟩
    ·refine WC.seq ?_
     refine WC.seq ?_
     refine WC.region ?_
     refine W.mv ?_
     refine W.ok (ok_nilP rfl) ?_
     refine W.ok (ok_fieldE fd132_1 rfl he11.form) ?_
     refine W.ok (ok_loadO (vs := [.int .i64 _]) ty3 he11 (pmC (List.Perm.refl _)) rfl rfl rfl (by simp)) ?_
     refine W.ok (ok_eql rfl rfl) ?_
     refine W.as ?_
     refine W.nil (thn_n ?_)
     refine WC.cond (b := _) rfl (fun h51 => ?_) (fun h51 => ?_)
     ·have p51 := of_decide_eq_true h51
      refine WC.skip (thn_n ?_)
      refine WC.cond_t rfl h51 ?_
      refine WC.seq ?_
      refine WC.region ?_
      refine W.as ?_
      refine W.nil (thn_n ?_)
      refine WC.ret (blk_r (thn_r ?_))
      refine ⟨.inr rfl, [_], ⟨rfl, trivial⟩, ((b_t, .cells (List.toArray [.slice sa_L L.length sc_L]) 128 (0, 0)) :: (Ms_L ++ Mw)), (List.Sublist.append_left (List.sublist_append_left _ _) _).cons_cons _, ?_⟩
      have hE9 := take_7 (how := how) (by omega) hin9 (of_decide_eq_false h41) (by rw [← heq9]; first | (left; exact p51) | (right; exact ⟨p53, p59⟩))
      exact ⟨congrArg (Value.int .i64) (congrArg Prod.fst hE9).symm, TabR.cast (congrArg Prod.snd hE9) ⟨_, _, _, _, by simp, h_L, h_w, hW⟩⟩
     ·have p51 := of_decide_eq_false h51
      refine WC.region ?_
      refine W.mv ?_
      refine W.ok (ok_eql rfl rfl) ?_
      refine W.mv ?_
      refine W.sp 54 rfl (fun h53 => ?_) (fun h53 => ?_)
      ·have p53 := of_decide_eq_true h53
       refine W.yes (dj := 54) rfl rfl h53 ?_
       refine W.mv ?_
       refine W.yes (dj := 54) rfl rfl h53 ?_
       refine W.ok (ok_nilP rfl) ?_
       refine W.yes (dj := 54) rfl rfl h53 ?_
       refine W.ok (ok_fieldE fd132_1 rfl he11.form) ?_
       refine W.yes (dj := 54) rfl rfl h53 ?_
       refine W.ok (ok_loadO (vs := [.int .i64 _]) ty3 he11 (pmC (List.Perm.refl _)) rfl rfl rfl (by simp)) ?_
       refine W.yes (dj := 54) rfl rfl h53 ?_
       refine W.ok (ok_neq rfl rfl) ?_
       refine W.ok (ok_pick_t rfl h53) ?_
       refine W.as ?_
       refine W.nil (thn_n ?_)
       refine WC.cond (b := _) rfl (fun h59 => ?_) (fun h59 => ?_)
       ·have p59 := nd_t h59
        refine WC.seq ?_
        refine WC.region ?_
        refine W.as ?_
        refine W.nil (thn_n ?_)
        refine WC.ret (blk_r (thn_r ?_))
        refine ⟨.inr rfl, [_], ⟨rfl, trivial⟩, ((b_t, .cells (List.toArray [.slice sa_L L.length sc_L]) 128 (0, 0)) :: (Ms_L ++ Mw)), (List.Sublist.append_left (List.sublist_append_left _ _) _).cons_cons _, ?_⟩
        have hE9 := take_7 (how := how) (by omega) hin9 (of_decide_eq_false h41) (by rw [← heq9]; first | (left; exact p51) | (right; exact ⟨p53, p59⟩))
        exact ⟨congrArg (Value.int .i64) (congrArg Prod.fst hE9).symm, TabR.cast (congrArg Prod.snd hE9) ⟨_, _, _, _, by simp, h_L, h_w, hW⟩⟩
       ·have p59 := nd_f h59
        refine WC.skip (blk_n (thn_n ?_))
        refine WC.seq ?_
        have q17 := h_w.split (i := s.toNat) (by omega) (by omega)
        refine match q17 with | ⟨_, A9, Mi8, B9, eM9, hoi8, hre9⟩ => ?_
        subst eM9
        refine WC.perm (M' := ((b_t, .cells (List.toArray [.slice sa_L L.length sc_L]) 128 (0, 0)) :: (Ms_L ++ (A9 ++ (Mi8 ++ (B9 ++ [])))))) (List.Perm.of_eq (by first | (simp only [List.append_assoc]; done) | (simp only [List.append_assoc]; rfl))) ?_
        refine WC.region ?_
        refine W.mv ?_
        refine W.mv ?_
        refine W.mv ?_
        refine W.ok (ok_nilP rfl) ?_
        refine W.ok (ok_fieldE fd132_0 rfl he11.form) ?_
        refine W.ok (ok_loadO (vs := [_]) ty39 he11 (pmC (List.Perm.refl _)) rfl rfl rfl (by simp)) ?_
        refine W.mv ?_
        refine W.mv ?_
        refine W.litO (e := eInt) (l := [th]) (css := [[.int .i64 _]]) sl39 ty3 zr3 rfl rfl rfl rfl rfl rfl ⟨⟨rfl, hW.2.2.1 _ hth⟩, trivial⟩ (fun v18 Ms19 ho20 => ?_)
        refine W.perm (pmC (List.Perm.refl _)).symm ?_
        have q24 := ho20.form
        refine match q24 with | ⟨sa21, sc22, e_23⟩ => ?_
        subst e_23
        refine W.call (Mp := Mi8 ++ Ms19) (insi_fc hoi8 _ ho20 (by first | assumption | omega) (by first | assumption | omega | simp) (by first | assumption | omega | (simp; omega))) rfl ((List.Perm.of_eq (List.append_assoc _ _ _)).trans ((List.Perm.append_left _ (pmC (List.Perm.refl _))).trans (pmC (pmA (pmA (pmA (List.Perm.refl _))))))) ?_
        rintro v26 G25 Ms27 hG25 ho28
        refine W.perm (pmC (List.Perm.refl _)).symm ?_
        have q32 := ho28.form
        refine match q32 with | ⟨sa29, sc30, e_31⟩ => ?_
        subst e_31
        refine W.mv ?_
        refine W.ok (ok_nilP rfl) ?_
        refine W.ok (ok_fieldE fd132_0 rfl he11.form) ?_
        refine W.storeO (i := s.toNat) (o := 0) (vs := [_]) (a' := (.slice sa29 ((((Lw[s.toNat]'(by omega)).1).take ((lowI (Lw[s.toNat]'(by omega)).1 th)) ++ ([th])) ++ ((Lw[s.toNat]'(by omega)).1).drop ((lowI (Lw[s.toNat]'(by omega)).1 th))).length sc30, (L[s.toNat]'(by omega)).2)) ty39 rfl rfl rfl rfl rfl ((h_L.mono hG25)) (pmC (pmA (List.Perm.refl _))) (by first | omega | (rw [List.length_set]; omega)) (by decide) (fun cs h => by obtain ⟨h1, h2, h3⟩ := h; rw [h1]; exact ⟨rfl, ⟨_, _, _, rfl⟩, h3⟩) (fun Ms33 ho34 => ?_)
        refine W.perm (pmC (List.Perm.refl _)).symm ?_
        have q38 := ownAt9 ho34 (i := s.toNat) (by first | (rw [List.length_set]; omega) | (rw [List.length_set, List.length_set]; omega)) (List.getElem_set_self ..)
        refine match q38 with | ⟨_, he35, ⟨e_37, hf36⟩⟩ => ?_
        subst e_37
        refine W.ok (ok_nilP rfl) ?_
        refine W.ok (ok_fieldE fd132_1 rfl he35.form) ?_
        refine W.storeO (i := s.toNat) (o := 1) (vs := [_]) (a' := (.slice sa29 ((((Lw[s.toNat]'(by omega)).1).take ((lowI (Lw[s.toNat]'(by omega)).1 th)) ++ ([th])) ++ ((Lw[s.toNat]'(by omega)).1).drop ((lowI (Lw[s.toNat]'(by omega)).1 th))).length sc30, how)) ty3 rfl rfl rfl rfl rfl (ho34) (pmC (List.Perm.refl _)) (by first | omega | (rw [List.length_set]; omega)) (by decide) (fun cs h => by rw [List.getElem_set_self] at h; obtain ⟨h1, h2, h3⟩ := h; rw [h1]; exact ⟨rfl, h2, hhow⟩) (fun Ms39 ho40 => ?_)
        refine W.perm (pmC (List.Perm.refl _)).symm ?_
        have q44 := ownAt9 ho40 (i := s.toNat) (by first | (rw [List.length_set]; omega) | (rw [List.length_set, List.length_set]; omega)) (List.getElem_set_self ..)
        refine match q44 with | ⟨_, he41, ⟨e_43, hf42⟩⟩ => ?_
        subst e_43
        refine W.nil (thn_n ?_)
        refine WC.seq ?_
        refine WC.region ?_
        refine W.as ?_
        refine W.nil (thn_n ?_)
        refine WC.perm (M' := ((b_t, .cells (List.toArray [.slice sa_L L.length sc_L]) 128 (0, 0)) :: (Ms39 ++ (A9 ++ (Ms27 ++ (B9 ++ [])))))) (((List.Perm.append_left _ ((List.Perm.append_left _ ((List.Perm.append_left _ ((List.Perm.append_left _ (List.Perm.refl _)).trans (List.Perm.refl _))).trans (List.Perm.refl _))).trans (pmA (List.Perm.refl _)))).trans (List.Perm.refl _)).cons _) ?_
        refine WC.ret ?_
        refine ⟨.inr rfl, [_], ⟨rfl, trivial⟩, ((b_t, .cells (List.toArray [.slice sa_L L.length sc_L]) 128 (0, 0)) :: (Ms39 ++ (A9 ++ (Ms27 ++ B9)))), (List.Sublist.append_left (List.Sublist.append_left (List.Sublist.append_left (List.sublist_append_left _ _) _) _) _).cons_cons _, ?_⟩
        have hE9 := take_0 (how := how) (by omega) hin9 (of_decide_eq_false h41) (by rw [← heq9]; intro h9; rcases h9 with h9 | h9; exact p51 h9; first | exact p53 h9.1 | exact h9.2 p59)
        exact ⟨congrArg (Value.int .i64) (congrArg Prod.fst hE9).symm, TabR.cast (congrArg Prod.snd hE9) ⟨_, _, _, _, by simp, OwnR.to9 ho40 (List.set_set ..), hre9 _ _ _ _ _ hG25 ho28, (by have h9 := hW.take (t := th) (s := s) hth hhow; rw [hE9] at h9; exact h9)⟩⟩
      ·have p53 := of_decide_eq_false h53
       refine W.no (dj := 54) rfl rfl h53 ?_
       refine W.no (dj := 54) rfl rfl h53 ?_
       refine W.no (dj := 54) rfl rfl h53 ?_
       refine W.no (dj := 54) rfl rfl h53 ?_
       refine W.no (dj := 54) rfl rfl h53 ?_
       refine W.ok (ok_pick_f rfl h53) ?_
       refine W.as ?_
       refine W.nil (thn_n ?_)
       refine WC.cond_f rfl rfl ?_
       refine WC.skip (blk_n (thn_n ?_))
       refine WC.seq ?_
       have q45 := h_w.split (i := s.toNat) (by omega) (by omega)
       refine match q45 with | ⟨_, A9, Mi8, B9, eM9, hoi8, hre9⟩ => ?_
       subst eM9
       refine WC.perm (M' := ((b_t, .cells (List.toArray [.slice sa_L L.length sc_L]) 128 (0, 0)) :: (Ms_L ++ (A9 ++ (Mi8 ++ (B9 ++ [])))))) (List.Perm.of_eq (by first | (simp only [List.append_assoc]; done) | (simp only [List.append_assoc]; rfl))) ?_
       refine WC.region ?_
       refine W.mv ?_
       refine W.mv ?_
       refine W.mv ?_
       refine W.ok (ok_nilP rfl) ?_
       refine W.ok (ok_fieldE fd132_0 rfl he11.form) ?_
       refine W.ok (ok_loadO (vs := [_]) ty39 he11 (pmC (List.Perm.refl _)) rfl rfl rfl (by simp)) ?_
       refine W.mv ?_
       refine W.mv ?_
       refine W.litO (e := eInt) (l := [th]) (css := [[.int .i64 _]]) sl39 ty3 zr3 rfl rfl rfl rfl rfl rfl ⟨⟨rfl, hW.2.2.1 _ hth⟩, trivial⟩ (fun v46 Ms47 ho48 => ?_)
       refine W.perm (pmC (List.Perm.refl _)).symm ?_
       have q52 := ho48.form
       refine match q52 with | ⟨sa49, sc50, e_51⟩ => ?_
       subst e_51
       refine W.call (Mp := Mi8 ++ Ms47) (insi_fc hoi8 _ ho48 (by first | assumption | omega) (by first | assumption | omega | simp) (by first | assumption | omega | (simp; omega))) rfl ((List.Perm.of_eq (List.append_assoc _ _ _)).trans ((List.Perm.append_left _ (pmC (List.Perm.refl _))).trans (pmC (pmA (pmA (pmA (List.Perm.refl _))))))) ?_
       rintro v54 G53 Ms55 hG53 ho56
       refine W.perm (pmC (List.Perm.refl _)).symm ?_
       have q60 := ho56.form
       refine match q60 with | ⟨sa57, sc58, e_59⟩ => ?_
       subst e_59
       refine W.mv ?_
       refine W.ok (ok_nilP rfl) ?_
       refine W.ok (ok_fieldE fd132_0 rfl he11.form) ?_
       refine W.storeO (i := s.toNat) (o := 0) (vs := [_]) (a' := (.slice sa57 ((((Lw[s.toNat]'(by omega)).1).take ((lowI (Lw[s.toNat]'(by omega)).1 th)) ++ ([th])) ++ ((Lw[s.toNat]'(by omega)).1).drop ((lowI (Lw[s.toNat]'(by omega)).1 th))).length sc58, (L[s.toNat]'(by omega)).2)) ty39 rfl rfl rfl rfl rfl ((h_L.mono hG53)) (pmC (pmA (List.Perm.refl _))) (by first | omega | (rw [List.length_set]; omega)) (by decide) (fun cs h => by obtain ⟨h1, h2, h3⟩ := h; rw [h1]; exact ⟨rfl, ⟨_, _, _, rfl⟩, h3⟩) (fun Ms61 ho62 => ?_)
       refine W.perm (pmC (List.Perm.refl _)).symm ?_
       have q66 := ownAt9 ho62 (i := s.toNat) (by first | (rw [List.length_set]; omega) | (rw [List.length_set, List.length_set]; omega)) (List.getElem_set_self ..)
       refine match q66 with | ⟨_, he63, ⟨e_65, hf64⟩⟩ => ?_
       subst e_65
       refine W.ok (ok_nilP rfl) ?_
       refine W.ok (ok_fieldE fd132_1 rfl he63.form) ?_
       refine W.storeO (i := s.toNat) (o := 1) (vs := [_]) (a' := (.slice sa57 ((((Lw[s.toNat]'(by omega)).1).take ((lowI (Lw[s.toNat]'(by omega)).1 th)) ++ ([th])) ++ ((Lw[s.toNat]'(by omega)).1).drop ((lowI (Lw[s.toNat]'(by omega)).1 th))).length sc58, how)) ty3 rfl rfl rfl rfl rfl (ho62) (pmC (List.Perm.refl _)) (by first | omega | (rw [List.length_set]; omega)) (by decide) (fun cs h => by rw [List.getElem_set_self] at h; obtain ⟨h1, h2, h3⟩ := h; rw [h1]; exact ⟨rfl, h2, hhow⟩) (fun Ms67 ho68 => ?_)
       refine W.perm (pmC (List.Perm.refl _)).symm ?_
       have q72 := ownAt9 ho68 (i := s.toNat) (by first | (rw [List.length_set]; omega) | (rw [List.length_set, List.length_set]; omega)) (List.getElem_set_self ..)
       refine match q72 with | ⟨_, he69, ⟨e_71, hf70⟩⟩ => ?_
       subst e_71
       refine W.nil (thn_n ?_)
       refine WC.seq ?_
       refine WC.region ?_
       refine W.as ?_
       refine W.nil (thn_n ?_)
       refine WC.perm (M' := ((b_t, .cells (List.toArray [.slice sa_L L.length sc_L]) 128 (0, 0)) :: (Ms67 ++ (A9 ++ (Ms55 ++ (B9 ++ [])))))) (((List.Perm.append_left _ ((List.Perm.append_left _ ((List.Perm.append_left _ ((List.Perm.append_left _ (List.Perm.refl _)).trans (List.Perm.refl _))).trans (List.Perm.refl _))).trans (pmA (List.Perm.refl _)))).trans (List.Perm.refl _)).cons _) ?_
       refine WC.ret ?_
       refine ⟨.inr rfl, [_], ⟨rfl, trivial⟩, ((b_t, .cells (List.toArray [.slice sa_L L.length sc_L]) 128 (0, 0)) :: (Ms67 ++ (A9 ++ (Ms55 ++ B9)))), (List.Sublist.append_left (List.Sublist.append_left (List.Sublist.append_left (List.sublist_append_left _ _) _) _) _).cons_cons _, ?_⟩
       have hE9 := take_0 (how := how) (by omega) hin9 (of_decide_eq_false h41) (by rw [← heq9]; intro h9; rcases h9 with h9 | h9; exact p51 h9; first | exact p53 h9.1 | exact h9.2 p59)
       exact ⟨congrArg (Value.int .i64) (congrArg Prod.fst hE9).symm, TabR.cast (congrArg Prod.snd hE9) ⟨_, _, _, _, by simp, OwnR.to9 ho68 (List.set_set ..), hre9 _ _ _ _ _ hG53 ho56, (by have h9 := hW.take (t := th) (s := s) hth hhow; rw [hE9] at h9; exact h9)⟩⟩

theorem lhas_fc {Th : List Int} {Lw : Lat} {b_t : Nat} {Ms_t : MH} {G : GH} (h_t : TabR 128 132 3 Th b_t G Lw Ms_t) (th s : Int) : Fc Tryz.prog 33 [.pointer (some ⟨b_t, 0, none⟩), .int .i64 th, .int .i64 s] G Ms_t (fun v G' M' => v = .tuple #[.bool (lhasN Lw th s), .bool (ltoN Lw th s)] ∧ TabR 128 132 3 Th b_t G' Lw M') := by
  obtain ⟨vl, L, Ms_L, Mw, rfl, h_L, h_w, hW⟩ := h_t
  exact lhas0_fc h_L th s h_w hW
theorem ltake_fc {Th : List Int} {Lw : Lat} {b_t : Nat} {Ms_t : MH} {G : GH} (h_t : TabR 128 132 3 Th b_t G Lw Ms_t) (th s how : Int) (hth : th ∈ Th) (hhow : i64 how) : Fc Tryz.prog 65 [.pointer (some ⟨b_t, 0, none⟩), .int .i64 th, .int .i64 s, .int .i64 how] G Ms_t (fun v G' M' => v = .int .i64 (ltakeN Lw th s how).1 ∧ TabR 128 132 3 Th b_t G' (ltakeN Lw th s how).2 M') := by
  obtain ⟨vl, L, Ms_L, Mw, rfl, h_L, h_w, hW⟩ := h_t
  exact ltake0_fc h_L th s how h_w hW hth hhow
theorem lread_fc {G : GH} {Th : List Int} {Lw : Lat} {b_t : Nat} {Ms_t : MH} (h_t : TabR 128 132 3 Th b_t G Lw Ms_t) (th : Int) (s : Int) (hth : th ∈ Th) :
    Fc Tryz.prog 34 [.pointer (some ⟨b_t, 0, none⟩), .int .i64 th, .int .i64 s] G Ms_t (fun v G' M' => v = .int .i64 (ltakeN Lw th s 1).1 ∧ TabR 128 132 3 Th b_t G' (ltakeN Lw th s 1).2 M') := by
 refine Fc.intro (rs := [.tmp 6]) cl34 Tryz.func34 rfl Tryz.ntmps34 rfl rfl (fun w0 => ?_)
 refine WC.perm (M' := (Ms_t ++ [])) (by simp) ?_
 refine WC.seq ?_
 refine WC.region ?_
 refine W.as ?_
 refine W.nil (thn_n ?_)
 refine WC.seq ?_
 refine WC.region ?_
 refine W.mv ?_
 refine W.mv ?_
 refine W.mv ?_
 refine W.call (Mp := Ms_t) (ltake_fc h_t th s 1 hth ⟨by decide, by decide⟩) rfl (List.Perm.refl _) ?_
 intro v76 G73 Ms75 hG73 q74
 refine match q74 with | ⟨e_78, hR77⟩ => ?_
 subst e_78
 refine W.as ?_
 refine W.nil (thn_n ?_)
 refine WC.ret ?_
 refine ⟨.inr rfl, [_], ⟨rfl, trivial⟩, Ms75, List.sublist_append_left _ _, ?_⟩
 exact ⟨rfl, hR77⟩

theorem lwrite_fc {G : GH} {Th : List Int} {Lw : Lat} {b_t : Nat} {Ms_t : MH} (h_t : TabR 128 132 3 Th b_t G Lw Ms_t) (th : Int) (s : Int) (hth : th ∈ Th) :
    Fc Tryz.prog 35 [.pointer (some ⟨b_t, 0, none⟩), .int .i64 th, .int .i64 s] G Ms_t (fun v G' M' => v = .int .i64 (ltakeN Lw th s 2).1 ∧ TabR 128 132 3 Th b_t G' (ltakeN Lw th s 2).2 M') := by
 refine Fc.intro (rs := [.tmp 6]) cl35 Tryz.func35 rfl Tryz.ntmps35 rfl rfl (fun w0 => ?_)
 refine WC.perm (M' := (Ms_t ++ [])) (by simp) ?_
 refine WC.seq ?_
 refine WC.region ?_
 refine W.as ?_
 refine W.nil (thn_n ?_)
 refine WC.seq ?_
 refine WC.region ?_
 refine W.mv ?_
 refine W.mv ?_
 refine W.mv ?_
 refine W.call (Mp := Ms_t) (ltake_fc h_t th s 2 hth ⟨by decide, by decide⟩) rfl (List.Perm.refl _) ?_
 intro v82 G79 Ms81 hG79 q80
 refine match q80 with | ⟨e_84, hR83⟩ => ?_
 subst e_84
 refine W.as ?_
 refine W.nil (thn_n ?_)
 refine WC.ret ?_
 refine ⟨.inr rfl, [_], ⟨rfl, trivial⟩, Ms81, List.sublist_append_left _ _, ?_⟩
 exact ⟨rfl, hR83⟩

theorem lrel_fc {G : GH} {Th : List Int} {Lw : Lat} {b_t : Nat} {Ms_t : MH} (h_t : TabR 128 132 3 Th b_t G Lw Ms_t) (th : Int) (s : Int) :
    Fc Tryz.prog 72 [.pointer (some ⟨b_t, 0, none⟩), .int .i64 th, .int .i64 s] G Ms_t (fun v G' M' => v = .int .i64 (lrelN Lw th s).1 ∧ TabR 128 132 3 Th b_t G' (lrelN Lw th s).2 M') := by
 refine Fc.intro (rs := [.tmp 6]) cl72 Tryz.func72 rfl Tryz.ntmps72 rfl rfl (fun w0 => ?_)
 refine WC.perm (M' := (Ms_t ++ [])) (by simp) ?_
 refine WC.seq ?_
 refine WC.region ?_
 refine W.box (L := [.int .i64 _]) rfl rfl (fun b85 => ?_)
 refine W.as ?_
 refine W.nil (thn_n ?_)
 refine WC.seq ?_
 refine WC.seq ?_
 refine WC.region ?_
 refine W.mv ?_
 refine W.ok (ok_eqlPN pp73 rfl rfl) ?_
 refine W.nil (thn_n ?_)
 refine WC.cond_f rfl rfl ?_
 refine WC.skip (thn_n ?_)
 refine WC.seq ?_
 refine WC.seq ?_
 refine WC.region ?_
 refine W.mv ?_
 refine W.ok (ok_loadB (i := 0) (vs := [.int .i64 _]) ty3 rfl rfl rfl rfl (by simp)) ?_
 refine W.mv ?_
 refine W.call (Mp := Ms_t) (lhas_fc h_t th s) rfl (pmC (List.Perm.refl _)) ?_
 intro v89 G86 Ms88 hG86 q87
 refine match q87 with | ⟨e_91, hR90⟩ => ?_
 subst e_91
 refine W.perm (pmC (List.Perm.refl _)).symm ?_
 refine W.mv ?_
 refine W.ok (ok_extract rfl rfl) ?_
 refine W.ok (ok_extract rfl rfl) ?_
 refine W.as ?_
 refine W.as ?_
 refine W.nil (thn_n ?_)
 refine WC.seq ?_
 refine WC.region ?_
 refine W.mv ?_
 refine W.ok (ok_not rfl) ?_
 refine W.nil (thn_n ?_)
 refine WC.cond (b := _) rfl (fun h20 => ?_) (fun h20 => ?_)
 ·have h17b : lhasN Lw th s = false := by simpa using h20
  refine WC.seq ?_
  refine WC.region ?_
  refine W.as ?_
  refine W.nil (thn_n ?_)
  refine WC.sub (M' := (Ms88 ++ [])) ((List.Sublist.append_left (List.Sublist.refl _) _).cons _) ?_
  refine WC.ret (thn_r ?_)
  refine ⟨.inr rfl, [_], ⟨rfl, trivial⟩, Ms88, List.sublist_append_left _ _, ?_⟩
  have hE9 := rel_8 h17b
  exact ⟨congrArg (Value.int .i64) (congrArg Prod.fst hE9).symm, TabR.cast (congrArg Prod.snd hE9) hR90⟩
 ·have h17a : lhasN Lw th s = true := by simpa using h20
  refine WC.skip (thn_n ?_)
  refine WC.seq ?_
  refine match hR90 with | ⟨vl, L, Ms_L, Mw, eM_, h_L, h_w, hW⟩ => ?_
  subst eM_
  refine WC.perm (M' := ((b_t, .cells (List.toArray [vl]) 128 (0, 0)) :: ((b85, .cells (List.toArray [.int .i64 th]) 3 (0, 0)) :: (Ms_L ++ (Mw ++ []))))) (pmD ((pmF (List.Perm.refl _)).cons _)).symm ?_
  refine match h_L.form with | ⟨sa_L, sc_L, eV_⟩ => ?_
  subst eV_
  have hlw := h_w.len
  have hl4 := hW.2.1
  have hl47 := h_L.len47
  have hin9 := lhas_in h17a
  have hin8 := inL_lt hin9
  have hin7 := hin9.1
  have hin6 := hin9.2
  refine WC.region ?_
  refine W.mv ?_
  refine W.ok (ok_nilP rfl) ?_
  refine W.ok (ok_fieldB fd128_0 rfl) ?_
  refine W.ok (ok_loadB (i := 0) (vs := [.slice _ _ _]) ty126 rfl rfl rfl rfl (by simp)) ?_
  refine W.mv ?_
  have q95 := h_L.at (i := s.toNat) (by omega)
  refine match q95 with | ⟨_, he92, ⟨e_94, hf93⟩⟩ => ?_
  subst e_94
  refine W.ok (ok_indexAddrO (i := s.toNat) sl126 ty132 h_L rfl rfl ⟨by omega, by omega⟩) ?_
  refine W.as ?_
  refine W.nil (thn_n ?_)
  refine WC.seq ?_
  have q96 := h_w.el (i := s.toNat) (by omega) (by omega)
  refine match q96 with | ⟨heq9, _⟩ => ?_
  have q97 := hW.at (i := s.toNat) (by omega)
  refine match q97 with | ⟨hsr9, hmt9, hik9, hle9⟩ => ?_
  have q98 := h_w.split (i := s.toNat) (by omega) (by omega)
  refine match q98 with | ⟨_, A9, Mi8, B9, eM9, hoi8, hre9⟩ => ?_
  subst eM9
  refine WC.perm (M' := ((b_t, .cells (List.toArray [.slice sa_L L.length sc_L]) 128 (0, 0)) :: ((b85, .cells (List.toArray [.int .i64 th]) 3 (0, 0)) :: (Ms_L ++ (A9 ++ (Mi8 ++ (B9 ++ []))))))) (List.Perm.of_eq (by first | (simp only [List.append_assoc]; done) | (simp only [List.append_assoc]; rfl))) ?_
  refine WC.region ?_
  refine W.mv ?_
  refine W.mv ?_
  refine W.ok (ok_nilP rfl) ?_
  refine W.ok (ok_fieldE fd132_0 rfl he92.form) ?_
  refine W.ok (ok_loadO (vs := [_]) ty39 he92 (pmC (pmC (List.Perm.refl _))) rfl rfl rfl (by simp)) ?_
  refine W.giveB (b := b85) (L := [.int .i64 _]) ((List.Perm.swap _ _ _).trans ((List.Perm.refl _).cons _)) (fun G99 hG99 hc99 => ?_)
  refine W.ok (ok_makeFn (fst := []) (caps := [.tmp 4]) (vs := []) (ws := [.pointer (some ⟨b85, 0, none⟩)]) rfl rfl) ?_
  refine W.call (Mp := Mi8) (dfh_fc (hoi8.mono hG99) _ hc99) rfl (pmC (pmA (pmA (List.Perm.refl _)))) ?_
  rintro v101 G100 Ms102 hG100 ho103
  refine W.perm (pmC (List.Perm.refl _)).symm ?_
  have q107 := ho103.form
  refine match q107 with | ⟨sa104, sc105, e_106⟩ => ?_
  subst e_106
  refine W.ok (ok_nilP rfl) ?_
  refine W.ok (ok_fieldE fd132_0 rfl he92.form) ?_
  refine W.storeO (i := s.toNat) (o := 0) (vs := [_]) (a' := (.slice sa104 (((Lw[s.toNat]'(by omega)).1).filter (fun a => !(fun z : Int => decide (z = (th))) a)).length sc105, (L[s.toNat]'(by omega)).2)) ty39 rfl rfl rfl rfl rfl ((h_L.mono (hG99.trans hG100))) (pmC (pmA (List.Perm.refl _))) (by first | omega | (rw [List.length_set]; omega)) (by decide) (fun cs h => by obtain ⟨h1, h2, h3⟩ := h; rw [h1]; exact ⟨rfl, ⟨_, _, _, rfl⟩, h3⟩) (fun Ms108 ho109 => ?_)
  refine W.perm (pmC (List.Perm.refl _)).symm ?_
  have q113 := ownAt9 ho109 (i := s.toNat) (by first | (rw [List.length_set]; omega) | (rw [List.length_set, List.length_set]; omega)) (List.getElem_set_self ..)
  refine match q113 with | ⟨_, he110, ⟨e_112, hf111⟩⟩ => ?_
  subst e_112
  refine W.nil (thn_n ?_)
  refine WC.seq ?_
  refine WC.seq ?_
  refine WC.region ?_
  refine W.mv ?_
  refine W.ok (ok_nilP rfl) ?_
  refine W.ok (ok_fieldE fd132_0 rfl he110.form) ?_
  refine W.ok (ok_loadO (vs := [.slice _ _ _]) ty39 he110 (pmC (List.Perm.refl _)) rfl rfl rfl (by simp)) ?_
  refine W.ok (ok_lenO sl39 ho103 rfl) ?_
  refine W.ok (ok_eql rfl rfl) ?_
  refine W.nil (thn_n ?_)
  refine WC.cond (b := _) rfl (fun h41 => ?_) (fun h41 => ?_)
  ·have p41 := of_decide_eq_true h41
   refine WC.region ?_
   refine W.mv ?_
   refine W.ok (ok_nilP rfl) ?_
   refine W.ok (ok_fieldE fd132_1 rfl he110.form) ?_
   refine W.storeO (i := s.toNat) (o := 1) (vs := [_]) (a' := (.slice sa104 (((Lw[s.toNat]'(by omega)).1).filter (fun a => !(fun z : Int => decide (z = (th))) a)).length sc105, 0)) ty3 rfl rfl rfl rfl rfl (ho109) (pmC (List.Perm.refl _)) (by first | omega | (rw [List.length_set]; omega)) (by decide) (fun cs h => by rw [List.getElem_set_self] at h; obtain ⟨h1, h2, h3⟩ := h; rw [h1]; exact ⟨rfl, h2, (⟨by decide, by decide⟩ : i64 0)⟩) (fun Ms114 ho115 => ?_)
   refine W.perm (pmC (List.Perm.refl _)).symm ?_
   have q119 := ownAt9 ho115 (i := s.toNat) (by first | (rw [List.length_set]; omega) | (rw [List.length_set, List.length_set]; omega)) (List.getElem_set_self ..)
   refine match q119 with | ⟨_, he116, ⟨e_118, hf117⟩⟩ => ?_
   subst e_118
   refine W.nil (thn_n ?_)
   refine WC.seq ?_
   refine WC.region ?_
   refine W.as ?_
   refine W.nil (thn_n ?_)
   refine WC.perm (M' := ((b_t, .cells (List.toArray [.slice sa_L L.length sc_L]) 128 (0, 0)) :: (Ms114 ++ (A9 ++ (Ms102 ++ (B9 ++ [])))))) (((List.Perm.append_left _ ((List.Perm.append_left _ ((List.Perm.append_left _ ((List.Perm.append_left _ (List.Perm.refl _)).trans (List.Perm.refl _))).trans (List.Perm.refl _))).trans (pmA (List.Perm.refl _)))).trans (List.Perm.refl _)).cons _) ?_
   refine WC.ret ?_
   refine ⟨.inr rfl, [_], ⟨rfl, trivial⟩, ((b_t, .cells (List.toArray [.slice sa_L L.length sc_L]) 128 (0, 0)) :: (Ms114 ++ (A9 ++ (Ms102 ++ B9)))), (List.Sublist.append_left (List.Sublist.append_left (List.Sublist.append_left (List.sublist_append_left _ _) _) _) _).cons_cons _, ?_⟩
   have hE9 := rel_0 h17a hin9
   rw [if_pos (show (outI th (Lw[s.toNat]'(by omega)).1).length = 0 by have h9 : ((outI th (Lw[s.toNat]'(by omega)).1).length : Int) = 0 := p41; omega)] at hE9
   exact ⟨congrArg (Value.int .i64) (congrArg Prod.fst hE9).symm, TabR.cast (congrArg Prod.snd hE9) ⟨_, _, _, _, by simp, OwnR.to9 ho115 (List.set_set ..), hre9 _ _ _ _ _ (hG99.trans hG100) ho103, (by have h9 := hW.rel (t := th) (s := s); rw [hE9] at h9; exact h9)⟩⟩
  ·have p41 := of_decide_eq_false h41
   refine WC.skip (thn_n ?_)
   refine WC.seq ?_
   refine WC.region ?_
   refine W.as ?_
   refine W.nil (thn_n ?_)
   refine WC.perm (M' := ((b_t, .cells (List.toArray [.slice sa_L L.length sc_L]) 128 (0, 0)) :: (Ms108 ++ (A9 ++ (Ms102 ++ (B9 ++ [])))))) (((List.Perm.append_left _ ((List.Perm.append_left _ ((List.Perm.append_left _ ((List.Perm.append_left _ (List.Perm.refl _)).trans (List.Perm.refl _))).trans (List.Perm.refl _))).trans (pmA (List.Perm.refl _)))).trans (List.Perm.refl _)).cons _) ?_
   refine WC.ret ?_
   refine ⟨.inr rfl, [_], ⟨rfl, trivial⟩, ((b_t, .cells (List.toArray [.slice sa_L L.length sc_L]) 128 (0, 0)) :: (Ms108 ++ (A9 ++ (Ms102 ++ B9)))), (List.Sublist.append_left (List.Sublist.append_left (List.Sublist.append_left (List.sublist_append_left _ _) _) _) _).cons_cons _, ?_⟩
   have hE9 := rel_0 h17a hin9
   rw [if_neg (show ¬ (outI th (Lw[s.toNat]'(by omega)).1).length = 0 by intro h9; exact p41 (show ((outI th (Lw[s.toNat]'(by omega)).1).length : Int) = 0 by omega)), ← heq9] at hE9
   exact ⟨congrArg (Value.int .i64) (congrArg Prod.fst hE9).symm, TabR.cast (congrArg Prod.snd hE9) ⟨_, _, _, _, by simp, ho109, hre9 _ _ _ _ _ (hG99.trans hG100) ho103, (by have h9 := hW.rel (t := th) (s := s); rw [hE9] at h9; exact h9)⟩⟩

theorem of1_fc {G : GH} (ht : Int) (hs : Int) (hw : Bool) (n : Int) {b_c : Nat} (h_c : CellsG G b_c 0 [.int .i64 n]) :
    Fc Tryz.prog 93 [.agg #[.int .i64 ht, .int .i64 hs, .bool hw], .pointer (some ⟨b_c, 0, none⟩)] G [] (fun v _ _ => v = .bool (decide (ht = n))) := by
 refine Fc.intro (rs := [.tmp 3]) cl93 Tryz.func93 rfl Tryz.ntmps93 rfl rfl (fun w0 => ?_)
 refine WC.seq ?_
 refine WC.region ?_
 refine W.box (L := [.int .i64 _, .int .i64 _, .bool _]) rfl rfl (fun b1 => ?_)
 refine W.as ?_
 refine W.nil (thn_n ?_)
 refine WC.seq ?_
 refine WC.region ?_
 refine W.ok (ok_fieldB fd84_0 rfl) ?_
 refine W.ok (ok_loadB (i := 0) (vs := [.int .i64 _]) ty3 rfl rfl rfl rfl (by simp)) ?_
 refine W.ok (ok_loadG (vs := [.int .i64 _]) ty3 h_c rfl rfl rfl (by simp)) ?_
 refine W.ok (ok_eql rfl rfl) ?_
 refine W.as ?_
 refine W.nil (thn_n ?_)
 refine WC.ret ?_
 refine ⟨.inr rfl, [_], ⟨rfl, trivial⟩, [], List.nil_sublist _, ?_⟩
 rfl

theorem all1_fc {G : GH} (ht : Int) (hs : Int) (hw : Bool) :
    Fc Tryz.prog 76 [.agg #[.int .i64 ht, .int .i64 hs, .bool hw]] G [] (fun v _ _ => v = .bool (true)) := by
 refine Fc.intro (rs := [.tmp 2]) cl76 Tryz.func76 rfl Tryz.ntmps76 rfl rfl (fun w0 => ?_)
 refine WC.seq ?_
 refine WC.region ?_
 refine W.box (L := [.int .i64 _, .int .i64 _, .bool _]) rfl rfl (fun b2 => ?_)
 refine W.as ?_
 refine W.nil (thn_n ?_)
 refine WC.seq ?_
 refine WC.region ?_
 refine W.as ?_
 refine W.nil (thn_n ?_)
 refine WC.ret ?_
 refine ⟨.inr rfl, [_], ⟨rfl, trivial⟩, [], List.nil_sublist _, ?_⟩
 rfl

theorem lpicko_fc {G : GH} {Th : List Int} {Lw : Lat} {b_t : Nat} {Ms_t : MH} (h_t : TabR 128 132 3 Th b_t G Lw Ms_t) (n : Int) {b_c : Nat} (h_c : CellsG G b_c 0 [.int .i64 n]) :
    Fc Tryz.prog 75 [.pointer (some ⟨b_t, 0, none⟩), .func (.func 93) #[] #[.pointer (some ⟨b_c, 0, none⟩)]] G Ms_t (fun v G' M' => SlR eHld G' v (lpickN (fun h : Hld => decide (h.thread = n)) Lw) ∧ TabR 128 132 3 Th b_t G' Lw M') := by
 refine Fc.intro (rs := [.tmp 4]) cl75 Tryz.func75 rfl Tryz.ntmps75 rfl rfl (fun w0 => ?_)
 refine WC.perm (M' := (Ms_t ++ [])) (by simp) ?_
 refine WC.seq ?_
 refine WC.region ?_
 refine W.as ?_
 refine W.nil (thn_n ?_)
 refine WC.seq ?_
 refine WC.region ?_
 refine W.as ?_
 refine W.nil (thn_n ?_)
 refine WC.seq ?_
 refine WC.seq ?_
 refine WC.region ?_
 refine W.mv ?_
 refine W.ok (ok_eqlPN pp73 rfl rfl) ?_
 refine W.nil (thn_n ?_)
 refine WC.cond_f rfl rfl ?_
 refine WC.skip (thn_n ?_)
 refine WC.seq ?_
 refine WC.seq ?_
 refine match h_t with | ⟨vl, L, Ms_L, Mw, eM_, h_L, h_w, hW⟩ => ?_
 subst eM_
 refine WC.perm (M' := ((b_t, .cells (List.toArray [vl]) 128 (0, 0)) :: (Ms_L ++ (Mw ++ [])))) ((pmF (List.Perm.refl _)).cons _).symm ?_
 refine match h_L.form with | ⟨sa_L, sc_L, eV_⟩ => ?_
 subst eV_
 have hlw := h_w.len
 have hl4 := hW.2.1
 have hl47 := h_L.len47
 refine WC.region ?_
 refine W.mv ?_
 refine W.ok (ok_nilP rfl) ?_
 refine W.ok (ok_fieldB fd128_0 rfl) ?_
 refine W.ok (ok_loadB (i := 0) (vs := [.slice _ _ _]) ty126 rfl rfl rfl rfl (by simp)) ?_
 refine W.ok (ok_lenO sl126 h_L rfl) ?_
 refine W.mv ?_
 refine W.nil (thn_n ?_)
 refine WC.block ?_
 refine WC.loop (X := (Nat × List Hld) × Value × MH) (fun x => [(18, .int .i64 ((x.1.1 : Nat) : Int)), (16, .slice sa_L L.length sc_L), (1, .func (.func 93) #[] #[.pointer (some ⟨b_c, 0, none⟩)]), (17, .int .i64 (((L).length : Nat) : Int)), (5, x.2.1)]) (fun x G Ml => Ml = ((b_t, .cells (List.toArray [.slice sa_L L.length sc_L]) 128 (0, 0)) :: (x.2.2 ++ (Ms_L ++ (Mw ++ [])))) ∧ OwnR eHld 84 G x.2.1 (x.1.2) x.2.2 ∧ x.1.1 ≤ Lw.length ∧ x.1.2 = (heldK Lw x.1.1).filter (fun h : Hld => decide (h.thread = n))) (fun x => Lw.length - x.1.1) (((0, []) : Nat × List Hld), .slice none 0 0, ([] : MH)) ⟨eqv, eqv, eqv, eqv, eqv, trivial⟩ ?_ ?_
 ·exact ⟨rfl, (by exact OwnR.nil), Nat.zero_le _, rfl⟩
 ·rintro ⟨⟨k, out⟩, v_5, M_5⟩ gG3 G3 _ hG3 ⟨rfl, ho_5, hk, hout⟩
  try dsimp only at ho_5 hk hout
  refine WC.fr (f := setL gG3 [(18, .int .i64 ((k : Nat) : Int)), (16, .slice sa_L L.length sc_L), (1, .func (.func 93) #[] #[.pointer (some ⟨b_c, 0, none⟩)]), (17, .int .i64 (((L).length : Nat) : Int)), (5, v_5)]) rfl ?_
  refine WC.seq ?_
  refine WC.region ?_
  refine W.ok (ok_lss rfl rfl) ?_
  refine W.nil (thn_n ?_)
  refine WC.seq ?_
  refine WC.cond (b := _) rfl (fun h19 => ?_) (fun h19 => ?_)
  ·have p19 := of_decide_eq_true h19
   try dsimp only at p19
   refine WC.skip (thn_n ?_)
   refine WC.seq ?_
   refine WC.block ?_
   refine WC.seq ?_
   have hkl9 : k < Lw.length := by omega
   have hat9 := hW.at hkl9
   have q4 := (WhoR.mono hG3 h_w).split (i := k) (by omega) (by omega)
   refine match q4 with | ⟨heq9, A9, Mi8, B9, eM9, hoi8, hre9⟩ => ?_
   refine WC.perm (M' := ((b_t, .cells (List.toArray [.slice sa_L L.length sc_L]) 128 (0, 0)) :: (M_5 ++ (Ms_L ++ (A9 ++ (Mi8 ++ (B9 ++ []))))))) (List.Perm.of_eq (by rw [eM9]; first | rfl | (simp only [List.append_assoc]; done) | (simp only [List.append_assoc]; rfl))) ?_
   refine match hoi8.form with | ⟨sa8, sc8, ev8⟩ => ?_
   have hoi7 := hoi8
   rw [ev8] at hoi7
   refine WC.region ?_
   refine W.mv ?_
   have q8 := (h_L.mono hG3).at (i := k) (by omega)
   refine match q8 with | ⟨_, he5, ⟨e_7, hf6⟩⟩ => ?_
   subst e_7
   refine W.ok (ok_indexAddrO (i := k) sl126 ty132 (h_L.mono hG3) rfl rfl ⟨by omega, by omega⟩) ?_
   refine W.ok (Ok.to9 (v' := mkV true [.slice sa8 ((Lw[k]'(by omega)).1).length sc8, .int .i64 (L[k]'(by omega)).2]) (ok_loadO (vs := [_, _]) ty132 he5 (pmC (pmA (List.Perm.refl _))) rfl rfl rfl (by simp)) (by rw [ev8])) ?_
   refine W.alloc zr132 (fun b9 => ?_)
   refine W.as ?_
   refine W.store (i := 0) (vs := [.slice _ _ _, .int .i64 _]) (L' := [.slice _ _ _, .int .i64 _]) ty132 rfl rfl rfl rfl rfl rfl rfl rfl ?_
   refine W.nil (thn_n ?_)
   refine WC.seq ?_
   refine WC.region ?_
   refine W.ok (ok_fieldB fd132_0 rfl) ?_
   refine W.ok (ok_loadB (i := 0) (vs := [.slice _ _ _]) ty39 rfl rfl rfl rfl (by simp)) ?_
   refine W.ok (ok_lenO sl39 hoi7 rfl) ?_
   refine W.mv ?_
   refine W.nil (thn_n ?_)
   refine WC.block ?_
   refine WC.loop (X := (Nat × List Hld) × Value × MH) (fun y => [(26, .int .i64 ((y.1.1 : Nat) : Int)), (16, .slice sa_L L.length sc_L), (24, .slice sa8 ((Lw[k]'(by omega)).1).length sc8), (7, .pointer (some ⟨b9, 0, none⟩)), (1, .func (.func 93) #[] #[.pointer (some ⟨b_c, 0, none⟩)]), (6, .int .i64 ((k : Nat) : Int)), (17, .int .i64 (((L).length : Nat) : Int)), (18, .int .i64 ((k : Nat) : Int)), (25, .int .i64 (((((Lw[k]'(by omega)).1)).length : Nat) : Int)), (5, y.2.1)]) (fun y G Ml => Ml = ((b9, .cells (List.toArray [.slice sa8 ((Lw[k]'(by omega)).1).length sc8, .int .i64 (L[k]'(by omega)).2]) 132 (0, 0)) :: ((b_t, .cells (List.toArray [.slice sa_L L.length sc_L]) 128 (0, 0)) :: (y.2.2 ++ (Ms_L ++ (A9 ++ (Mi8 ++ (B9 ++ []))))))) ∧ OwnR eHld 84 G y.2.1 (y.1.2) y.2.2 ∧ y.1.1 ≤ (Lw[k]'(by omega)).1.length ∧ y.1.2 = (heldJ Lw k y.1.1).filter (fun h : Hld => decide (h.thread = n))) (fun y => (Lw[k]'(by omega)).1.length - y.1.1) (((0, out) : Nat × List Hld), v_5, M_5) ⟨eqv, eqv, eqv, eqv, eqv, eqv, eqv, eqv, eqv, eqv, trivial⟩ ?_ ?_
   ·exact ⟨rfl, (by exact ho_5), Nat.zero_le _, by dsimp only; rw [heldJ_0]; exact hout⟩
   ·rintro ⟨⟨j, o2⟩, v_5, M_5⟩ gG10 G10 _ hG10 ⟨rfl, ho_5, hj, ho2⟩
    try dsimp only at ho_5 hj ho2
    have hol9 := heldJ_len hW hkl9 (j := j) (fun h : Hld => decide (h.thread = n))
    rw [← ho2] at hol9
    refine WC.fr (f := setL gG10 [(26, .int .i64 ((j : Nat) : Int)), (16, .slice sa_L L.length sc_L), (24, .slice sa8 ((Lw[k]'(by omega)).1).length sc8), (7, .pointer (some ⟨b9, 0, none⟩)), (1, .func (.func 93) #[] #[.pointer (some ⟨b_c, 0, none⟩)]), (6, .int .i64 ((k : Nat) : Int)), (17, .int .i64 (((L).length : Nat) : Int)), (18, .int .i64 ((k : Nat) : Int)), (25, .int .i64 (((((Lw[k]'(by omega)).1)).length : Nat) : Int)), (5, v_5)]) rfl ?_
    refine WC.seq ?_
    refine WC.region ?_
    refine W.ok (ok_lss rfl rfl) ?_
    refine W.nil (thn_n ?_)
    refine WC.seq ?_
    refine WC.cond (b := _) rfl (fun h27 => ?_) (fun h27 => ?_)
    ·have p27 := of_decide_eq_true h27
     try dsimp only at p27
     refine WC.skip (thn_n ?_)
     refine WC.seq ?_
     refine WC.block ?_
     refine WC.seq ?_
     refine WC.region ?_
     have q14 := (hoi7.mono hG10).at (i := j) (by omega)
     refine match q14 with | ⟨_, he11, ⟨e_13, hi12⟩⟩ => ?_
     subst e_13
     refine W.ok (ok_indexAddrO (i := j) sl39 ty3 (hoi7.mono hG10) rfl rfl ⟨by omega, by omega⟩) ?_
     refine W.ok (ok_loadO (vs := [.int .i64 _]) ty3 he11 (pmC (pmC (pmA (pmA (pmA (List.Perm.refl _)))))) rfl rfl rfl (by simp)) ?_
     refine W.as ?_
     refine W.nil (thn_n ?_)
     refine WC.seq ?_
     refine WC.region ?_
     refine W.mv ?_
     refine W.mv ?_
     refine W.ok (ok_fieldB fd132_1 rfl) ?_
     refine W.ok (ok_loadB (i := 0) (vs := [.int .i64 _]) ty3 rfl rfl rfl rfl (by simp)) ?_
     refine W.ok (ok_eql rfl rfl) ?_
     refine W.ok (ok_build (L := [.int .i64 _, .int .i64 _, .bool _]) pl84 zr84 rfl rfl rfl) ?_
     refine W.alloc zr84 (fun b15 => ?_)
     refine W.store (i := 0) (vs := [.int .i64 _, .int .i64 _, .bool _]) (L' := [.int .i64 _, .int .i64 _, .bool _]) ty84 rfl rfl rfl rfl rfl rfl rfl rfl ?_
     refine W.nil (thn_n ?_)
     refine WC.seq ?_
     refine WC.region ?_
     refine W.mv ?_
     refine W.ok (ok_loadB (i := 0) (vs := [.int .i64 _, .int .i64 _, .bool _]) ty84 rfl rfl rfl rfl (by simp)) ?_
     refine W.qcallV (fst := []) (caps := [.pointer (some ⟨b_c, 0, none⟩)]) rfl (of1_fc _ _ _ _ (h_c.mono (hG3.trans hG10))) rfl ?_
     refine W.nil (thn_n ?_)
     refine WC.cond (b := _) rfl (fun h38 => ?_) (fun h38 => ?_)
     ·refine WC.region ?_
      refine W.mv ?_
      refine W.ok (ok_loadB (i := 0) (vs := [.int .i64 _, .int .i64 _, .bool _]) ty84 rfl rfl rfl rfl (by simp)) ?_
      refine W.lit (e := eHld) (l := [(⟨(Lw[k]'(by omega)).1[j]'(by omega), (k : Int), decide ((Lw[k]'(by omega)).2 = 2)⟩ : Hld)]) (css := [[.int .i64 _, .int .i64 _, .bool _]]) sl58 ty84 zr84 rfl rfl rfl rfl rfl rfl ⟨⟨by first | rfl | rw [heq9], hW.2.2.1 _ (hat9.2.1 _ (List.getElem_mem _)), ⟨by dsimp only; omega, by dsimp only; omega⟩⟩, trivial⟩ (fun bl16 G16 hG16 hv16 => ?_)
      refine W.app (e := eHld) sl58 ty84 zr84 rfl by84 rfl rfl ((ho_5.mono hG16)) (hv16) (pmC (pmC (pmC (List.Perm.refl _)))) (by show (List.length _ + 1) * 24 ≤ _; omega) (fun v17 Ms18 ho19 => ?_)
      refine W.perm (pmC (pmC (pmC (List.Perm.refl _)))).symm ?_
      have q23 := ho19.form
      refine match q23 with | ⟨sa20, sc21, e_22⟩ => ?_
      subst e_22
      refine W.as ?_
      refine W.nil (blk_n (thn_n ?_))
      refine WC.region ?_
      refine W.ok (ok_add rfl rfl (by omega)) ?_
      refine W.mv ?_
      refine W.sub ((List.Sublist.refl _).cons _) ?_
      refine W.nil (thn_n ?_)
      exact ⟨hG16, (((j + 1, o2 ++ [(⟨(Lw[k]'(by omega)).1[j]'(by omega), (k : Int), decide ((Lw[k]'(by omega)).2 = 2)⟩ : Hld)]) : Nat × List Hld), .slice sa20 ((o2 ++ [(⟨(Lw[k]'(by omega)).1[j]'(by omega), (k : Int), decide ((Lw[k]'(by omega)).2 = 2)⟩ : Hld)])).length sc21, Ms18), ⟨eqv, eqv, eqv, eqv, eqv, eqv, eqv, eqv, eqv, eqv, trivial⟩, ⟨rfl, (by exact ho19), by dsimp only; omega, by dsimp only at ho2 ⊢; rw [heldJ_t (by omega) (by omega) (h38), ← ho2]⟩, by dsimp only; omega⟩
     ·refine WC.skip (blk_n (thn_n ?_))
      refine WC.region ?_
      refine W.ok (ok_add rfl rfl (by omega)) ?_
      refine W.mv ?_
      refine W.sub ((List.Sublist.refl _).cons _) ?_
      refine W.nil (thn_n ?_)
      exact ⟨Le.rfl, (((j + 1, o2) : Nat × List Hld), v_5, M_5), ⟨eqv, eqv, eqv, eqv, eqv, eqv, eqv, eqv, eqv, eqv, trivial⟩, ⟨rfl, (by exact ho_5), by dsimp only; omega, by dsimp only at ho2 ⊢; rw [heldJ_f (by omega) (by omega) (h38), ← ho2]⟩, by dsimp only; omega⟩
    ·have p27 := of_decide_eq_false h27
     try dsimp only at p27
     refine WC.exit (thn_x (thn_x (blk_h (blk_n (thn_n ?_)))))
     refine WC.perm (M' := ((b9, .cells (List.toArray [.slice sa8 ((Lw[k]'(by omega)).1).length sc8, .int .i64 (L[k]'(by omega)).2]) 132 (0, 0)) :: ((b_t, .cells (List.toArray [.slice sa_L L.length sc_L]) 128 (0, 0)) :: (M_5 ++ (Ms_L ++ (Mw ++ [])))))) (List.Perm.of_eq (by rw [eM9]; first | rfl | (simp only [List.append_assoc]; done) | (simp only [List.append_assoc]; rfl))) ?_
     refine WC.region ?_
     refine W.ok (ok_add rfl rfl (by omega)) ?_
     refine W.mv ?_
     refine W.sub ((List.Sublist.refl _).cons _) ?_
     refine W.nil (thn_n ?_)
     exact ⟨hG10, (((k + 1, o2) : Nat × List Hld), v_5, M_5), ⟨eqv, eqv, eqv, eqv, eqv, trivial⟩, ⟨rfl, (by exact ho_5), by dsimp only; omega, by dsimp only at ho2 ⊢; rw [ho2, show j = (Lw[k]'(by omega)).1.length by omega, heldJ_end]⟩, by dsimp only; omega⟩
  ·have p19 := of_decide_eq_false h19
   try dsimp only at p19
   refine WC.exit (thn_x (thn_x (blk_h (thn_n ?_))))
   refine WC.seq ?_
   refine WC.region ?_
   refine W.mv ?_
   refine W.as ?_
   refine W.nil (thn_n ?_)
   refine WC.giveO ho_5 (pmC (List.Perm.refl _)) (fun G24 hG24 hv24 => ?_)
   refine WC.ret ?_
   refine ⟨.inr rfl, [_], ⟨rfl, trivial⟩, ((b_t, .cells (List.toArray [.slice sa_L L.length sc_L]) 128 (0, 0)) :: (Ms_L ++ Mw)), (List.Sublist.append_left (List.sublist_append_left _ _) _).cons_cons _, ?_⟩
   have hk8 : k = Lw.length := by omega
   subst hk8
   exact ⟨SlR.cast hv24 hout, ⟨_, _, _, _, by simp, (h_L.mono (hG3.trans hG24)), (WhoR.mono (hG3.trans hG24) h_w), hW⟩⟩

theorem lpicka_fc {G : GH} {Th : List Int} {Lw : Lat} {b_t : Nat} {Ms_t : MH} (h_t : TabR 128 132 3 Th b_t G Lw Ms_t) :
    Fc Tryz.prog 75 [.pointer (some ⟨b_t, 0, none⟩), .func (.func 76) #[] #[]] G Ms_t (fun v G' M' => SlR eHld G' v (lpickN (fun _ => true) Lw) ∧ TabR 128 132 3 Th b_t G' Lw M') := by
 refine Fc.intro (rs := [.tmp 4]) cl75 Tryz.func75 rfl Tryz.ntmps75 rfl rfl (fun w0 => ?_)
 refine WC.perm (M' := (Ms_t ++ [])) (by simp) ?_
 refine WC.seq ?_
 refine WC.region ?_
 refine W.as ?_
 refine W.nil (thn_n ?_)
 refine WC.seq ?_
 refine WC.region ?_
 refine W.as ?_
 refine W.nil (thn_n ?_)
 refine WC.seq ?_
 refine WC.seq ?_
 refine WC.region ?_
 refine W.mv ?_
 refine W.ok (ok_eqlPN pp73 rfl rfl) ?_
 refine W.nil (thn_n ?_)
 refine WC.cond_f rfl rfl ?_
 refine WC.skip (thn_n ?_)
 refine WC.seq ?_
 refine WC.seq ?_
 refine match h_t with | ⟨vl, L, Ms_L, Mw, eM_, h_L, h_w, hW⟩ => ?_
 subst eM_
 refine WC.perm (M' := ((b_t, .cells (List.toArray [vl]) 128 (0, 0)) :: (Ms_L ++ (Mw ++ [])))) ((pmF (List.Perm.refl _)).cons _).symm ?_
 refine match h_L.form with | ⟨sa_L, sc_L, eV_⟩ => ?_
 subst eV_
 have hlw := h_w.len
 have hl4 := hW.2.1
 have hl47 := h_L.len47
 refine WC.region ?_
 refine W.mv ?_
 refine W.ok (ok_nilP rfl) ?_
 refine W.ok (ok_fieldB fd128_0 rfl) ?_
 refine W.ok (ok_loadB (i := 0) (vs := [.slice _ _ _]) ty126 rfl rfl rfl rfl (by simp)) ?_
 refine W.ok (ok_lenO sl126 h_L rfl) ?_
 refine W.mv ?_
 refine W.nil (thn_n ?_)
 refine WC.block ?_
 refine WC.loop (X := (Nat × List Hld) × Value × MH) (fun x => [(18, .int .i64 ((x.1.1 : Nat) : Int)), (16, .slice sa_L L.length sc_L), (1, .func (.func 76) #[] #[]), (17, .int .i64 (((L).length : Nat) : Int)), (5, x.2.1)]) (fun x G Ml => Ml = ((b_t, .cells (List.toArray [.slice sa_L L.length sc_L]) 128 (0, 0)) :: (x.2.2 ++ (Ms_L ++ (Mw ++ [])))) ∧ OwnR eHld 84 G x.2.1 (x.1.2) x.2.2 ∧ x.1.1 ≤ Lw.length ∧ x.1.2 = (heldK Lw x.1.1).filter (fun _ => true)) (fun x => Lw.length - x.1.1) (((0, []) : Nat × List Hld), .slice none 0 0, ([] : MH)) ⟨eqv, eqv, eqv, eqv, eqv, trivial⟩ ?_ ?_
 ·exact ⟨rfl, (by exact OwnR.nil), Nat.zero_le _, rfl⟩
 ·rintro ⟨⟨k, out⟩, v_5, M_5⟩ gG25 G25 _ hG25 ⟨rfl, ho_5, hk, hout⟩
  try dsimp only at ho_5 hk hout
  refine WC.fr (f := setL gG25 [(18, .int .i64 ((k : Nat) : Int)), (16, .slice sa_L L.length sc_L), (1, .func (.func 76) #[] #[]), (17, .int .i64 (((L).length : Nat) : Int)), (5, v_5)]) rfl ?_
  refine WC.seq ?_
  refine WC.region ?_
  refine W.ok (ok_lss rfl rfl) ?_
  refine W.nil (thn_n ?_)
  refine WC.seq ?_
  refine WC.cond (b := _) rfl (fun h19 => ?_) (fun h19 => ?_)
  ·have p19 := of_decide_eq_true h19
   try dsimp only at p19
   refine WC.skip (thn_n ?_)
   refine WC.seq ?_
   refine WC.block ?_
   refine WC.seq ?_
   have hkl9 : k < Lw.length := by omega
   have hat9 := hW.at hkl9
   have q26 := (WhoR.mono hG25 h_w).split (i := k) (by omega) (by omega)
   refine match q26 with | ⟨heq9, A9, Mi8, B9, eM9, hoi8, hre9⟩ => ?_
   refine WC.perm (M' := ((b_t, .cells (List.toArray [.slice sa_L L.length sc_L]) 128 (0, 0)) :: (M_5 ++ (Ms_L ++ (A9 ++ (Mi8 ++ (B9 ++ []))))))) (List.Perm.of_eq (by rw [eM9]; first | rfl | (simp only [List.append_assoc]; done) | (simp only [List.append_assoc]; rfl))) ?_
   refine match hoi8.form with | ⟨sa8, sc8, ev8⟩ => ?_
   have hoi7 := hoi8
   rw [ev8] at hoi7
   refine WC.region ?_
   refine W.mv ?_
   have q30 := (h_L.mono hG25).at (i := k) (by omega)
   refine match q30 with | ⟨_, he27, ⟨e_29, hf28⟩⟩ => ?_
   subst e_29
   refine W.ok (ok_indexAddrO (i := k) sl126 ty132 (h_L.mono hG25) rfl rfl ⟨by omega, by omega⟩) ?_
   refine W.ok (Ok.to9 (v' := mkV true [.slice sa8 ((Lw[k]'(by omega)).1).length sc8, .int .i64 (L[k]'(by omega)).2]) (ok_loadO (vs := [_, _]) ty132 he27 (pmC (pmA (List.Perm.refl _))) rfl rfl rfl (by simp)) (by rw [ev8])) ?_
   refine W.alloc zr132 (fun b31 => ?_)
   refine W.as ?_
   refine W.store (i := 0) (vs := [.slice _ _ _, .int .i64 _]) (L' := [.slice _ _ _, .int .i64 _]) ty132 rfl rfl rfl rfl rfl rfl rfl rfl ?_
   refine W.nil (thn_n ?_)
   refine WC.seq ?_
   refine WC.region ?_
   refine W.ok (ok_fieldB fd132_0 rfl) ?_
   refine W.ok (ok_loadB (i := 0) (vs := [.slice _ _ _]) ty39 rfl rfl rfl rfl (by simp)) ?_
   refine W.ok (ok_lenO sl39 hoi7 rfl) ?_
   refine W.mv ?_
   refine W.nil (thn_n ?_)
   refine WC.block ?_
   refine WC.loop (X := (Nat × List Hld) × Value × MH) (fun y => [(26, .int .i64 ((y.1.1 : Nat) : Int)), (16, .slice sa_L L.length sc_L), (24, .slice sa8 ((Lw[k]'(by omega)).1).length sc8), (7, .pointer (some ⟨b31, 0, none⟩)), (1, .func (.func 76) #[] #[]), (6, .int .i64 ((k : Nat) : Int)), (17, .int .i64 (((L).length : Nat) : Int)), (18, .int .i64 ((k : Nat) : Int)), (25, .int .i64 (((((Lw[k]'(by omega)).1)).length : Nat) : Int)), (5, y.2.1)]) (fun y G Ml => Ml = ((b31, .cells (List.toArray [.slice sa8 ((Lw[k]'(by omega)).1).length sc8, .int .i64 (L[k]'(by omega)).2]) 132 (0, 0)) :: ((b_t, .cells (List.toArray [.slice sa_L L.length sc_L]) 128 (0, 0)) :: (y.2.2 ++ (Ms_L ++ (A9 ++ (Mi8 ++ (B9 ++ []))))))) ∧ OwnR eHld 84 G y.2.1 (y.1.2) y.2.2 ∧ y.1.1 ≤ (Lw[k]'(by omega)).1.length ∧ y.1.2 = (heldJ Lw k y.1.1).filter (fun _ => true)) (fun y => (Lw[k]'(by omega)).1.length - y.1.1) (((0, out) : Nat × List Hld), v_5, M_5) ⟨eqv, eqv, eqv, eqv, eqv, eqv, eqv, eqv, eqv, eqv, trivial⟩ ?_ ?_
   ·exact ⟨rfl, (by exact ho_5), Nat.zero_le _, by dsimp only; rw [heldJ_0]; exact hout⟩
   ·rintro ⟨⟨j, o2⟩, v_5, M_5⟩ gG32 G32 _ hG32 ⟨rfl, ho_5, hj, ho2⟩
    try dsimp only at ho_5 hj ho2
    have hol9 := heldJ_len hW hkl9 (j := j) (fun _ => true)
    rw [← ho2] at hol9
    refine WC.fr (f := setL gG32 [(26, .int .i64 ((j : Nat) : Int)), (16, .slice sa_L L.length sc_L), (24, .slice sa8 ((Lw[k]'(by omega)).1).length sc8), (7, .pointer (some ⟨b31, 0, none⟩)), (1, .func (.func 76) #[] #[]), (6, .int .i64 ((k : Nat) : Int)), (17, .int .i64 (((L).length : Nat) : Int)), (18, .int .i64 ((k : Nat) : Int)), (25, .int .i64 (((((Lw[k]'(by omega)).1)).length : Nat) : Int)), (5, v_5)]) rfl ?_
    refine WC.seq ?_
    refine WC.region ?_
    refine W.ok (ok_lss rfl rfl) ?_
    refine W.nil (thn_n ?_)
    refine WC.seq ?_
    refine WC.cond (b := _) rfl (fun h27 => ?_) (fun h27 => ?_)
    ·have p27 := of_decide_eq_true h27
     try dsimp only at p27
     refine WC.skip (thn_n ?_)
     refine WC.seq ?_
     refine WC.block ?_
     refine WC.seq ?_
     refine WC.region ?_
     have q36 := (hoi7.mono hG32).at (i := j) (by omega)
     refine match q36 with | ⟨_, he33, ⟨e_35, hi34⟩⟩ => ?_
     subst e_35
     refine W.ok (ok_indexAddrO (i := j) sl39 ty3 (hoi7.mono hG32) rfl rfl ⟨by omega, by omega⟩) ?_
     refine W.ok (ok_loadO (vs := [.int .i64 _]) ty3 he33 (pmC (pmC (pmA (pmA (pmA (List.Perm.refl _)))))) rfl rfl rfl (by simp)) ?_
     refine W.as ?_
     refine W.nil (thn_n ?_)
     refine WC.seq ?_
     refine WC.region ?_
     refine W.mv ?_
     refine W.mv ?_
     refine W.ok (ok_fieldB fd132_1 rfl) ?_
     refine W.ok (ok_loadB (i := 0) (vs := [.int .i64 _]) ty3 rfl rfl rfl rfl (by simp)) ?_
     refine W.ok (ok_eql rfl rfl) ?_
     refine W.ok (ok_build (L := [.int .i64 _, .int .i64 _, .bool _]) pl84 zr84 rfl rfl rfl) ?_
     refine W.alloc zr84 (fun b37 => ?_)
     refine W.store (i := 0) (vs := [.int .i64 _, .int .i64 _, .bool _]) (L' := [.int .i64 _, .int .i64 _, .bool _]) ty84 rfl rfl rfl rfl rfl rfl rfl rfl ?_
     refine W.nil (thn_n ?_)
     refine WC.seq ?_
     refine WC.region ?_
     refine W.mv ?_
     refine W.ok (ok_loadB (i := 0) (vs := [.int .i64 _, .int .i64 _, .bool _]) ty84 rfl rfl rfl rfl (by simp)) ?_
     refine W.qcallV (fst := []) (caps := []) rfl (all1_fc _ _ _) rfl ?_
     refine W.nil (thn_n ?_)
     refine WC.cond_t rfl rfl ?_
     refine WC.region ?_
     refine W.mv ?_
     refine W.ok (ok_loadB (i := 0) (vs := [.int .i64 _, .int .i64 _, .bool _]) ty84 rfl rfl rfl rfl (by simp)) ?_
     refine W.lit (e := eHld) (l := [(⟨(Lw[k]'(by omega)).1[j]'(by omega), (k : Int), decide ((Lw[k]'(by omega)).2 = 2)⟩ : Hld)]) (css := [[.int .i64 _, .int .i64 _, .bool _]]) sl58 ty84 zr84 rfl rfl rfl rfl rfl rfl ⟨⟨by first | rfl | rw [heq9], hW.2.2.1 _ (hat9.2.1 _ (List.getElem_mem _)), ⟨by dsimp only; omega, by dsimp only; omega⟩⟩, trivial⟩ (fun bl38 G38 hG38 hv38 => ?_)
     refine W.app (e := eHld) sl58 ty84 zr84 rfl by84 rfl rfl ((ho_5.mono hG38)) (hv38) (pmC (pmC (pmC (List.Perm.refl _)))) (by show (List.length _ + 1) * 24 ≤ _; omega) (fun v39 Ms40 ho41 => ?_)
     refine W.perm (pmC (pmC (pmC (List.Perm.refl _)))).symm ?_
     have q45 := ho41.form
     refine match q45 with | ⟨sa42, sc43, e_44⟩ => ?_
     subst e_44
     refine W.as ?_
     refine W.nil (blk_n (thn_n ?_))
     refine WC.region ?_
     refine W.ok (ok_add rfl rfl (by omega)) ?_
     refine W.mv ?_
     refine W.sub ((List.Sublist.refl _).cons _) ?_
     refine W.nil (thn_n ?_)
     exact ⟨hG38, (((j + 1, o2 ++ [(⟨(Lw[k]'(by omega)).1[j]'(by omega), (k : Int), decide ((Lw[k]'(by omega)).2 = 2)⟩ : Hld)]) : Nat × List Hld), .slice sa42 ((o2 ++ [(⟨(Lw[k]'(by omega)).1[j]'(by omega), (k : Int), decide ((Lw[k]'(by omega)).2 = 2)⟩ : Hld)])).length sc43, Ms40), ⟨eqv, eqv, eqv, eqv, eqv, eqv, eqv, eqv, eqv, eqv, trivial⟩, ⟨rfl, (by exact ho41), by dsimp only; omega, by dsimp only at ho2 ⊢; rw [heldJ_t (by omega) (by omega) (rfl), ← ho2]⟩, by dsimp only; omega⟩
    ·have p27 := of_decide_eq_false h27
     try dsimp only at p27
     refine WC.exit (thn_x (thn_x (blk_h (blk_n (thn_n ?_)))))
     refine WC.perm (M' := ((b31, .cells (List.toArray [.slice sa8 ((Lw[k]'(by omega)).1).length sc8, .int .i64 (L[k]'(by omega)).2]) 132 (0, 0)) :: ((b_t, .cells (List.toArray [.slice sa_L L.length sc_L]) 128 (0, 0)) :: (M_5 ++ (Ms_L ++ (Mw ++ [])))))) (List.Perm.of_eq (by rw [eM9]; first | rfl | (simp only [List.append_assoc]; done) | (simp only [List.append_assoc]; rfl))) ?_
     refine WC.region ?_
     refine W.ok (ok_add rfl rfl (by omega)) ?_
     refine W.mv ?_
     refine W.sub ((List.Sublist.refl _).cons _) ?_
     refine W.nil (thn_n ?_)
     exact ⟨hG32, (((k + 1, o2) : Nat × List Hld), v_5, M_5), ⟨eqv, eqv, eqv, eqv, eqv, trivial⟩, ⟨rfl, (by exact ho_5), by dsimp only; omega, by dsimp only at ho2 ⊢; rw [ho2, show j = (Lw[k]'(by omega)).1.length by omega, heldJ_end]⟩, by dsimp only; omega⟩
  ·have p19 := of_decide_eq_false h19
   try dsimp only at p19
   refine WC.exit (thn_x (thn_x (blk_h (thn_n ?_))))
   refine WC.seq ?_
   refine WC.region ?_
   refine W.mv ?_
   refine W.as ?_
   refine W.nil (thn_n ?_)
   refine WC.giveO ho_5 (pmC (List.Perm.refl _)) (fun G46 hG46 hv46 => ?_)
   refine WC.ret ?_
   refine ⟨.inr rfl, [_], ⟨rfl, trivial⟩, ((b_t, .cells (List.toArray [.slice sa_L L.length sc_L]) 128 (0, 0)) :: (Ms_L ++ Mw)), (List.Sublist.append_left (List.sublist_append_left _ _) _).cons_cons _, ?_⟩
   have hk8 : k = Lw.length := by omega
   subst hk8
   exact ⟨SlR.cast hv46 hout, ⟨_, _, _, _, by simp, (h_L.mono (hG25.trans hG46)), (WhoR.mono (hG25.trans hG46) h_w), hW⟩⟩

theorem lof_fc {G : GH} {Th : List Int} {Lw : Lat} {b_t : Nat} {Ms_t : MH} (h_t : TabR 128 132 3 Th b_t G Lw Ms_t) (th : Int) :
    Fc Tryz.prog 66 [.pointer (some ⟨b_t, 0, none⟩), .int .i64 th] G Ms_t (fun v G' M' => SlR eHld G' v (lofN Lw th) ∧ TabR 128 132 3 Th b_t G' Lw M') := by
 refine Fc.intro (rs := [.tmp 4]) cl66 Tryz.func66 rfl Tryz.ntmps66 rfl rfl (fun w0 => ?_)
 refine WC.perm (M' := (Ms_t ++ [])) (by simp) ?_
 refine WC.seq ?_
 refine WC.region ?_
 refine W.box (L := [.int .i64 _]) rfl rfl (fun b47 => ?_)
 refine W.as ?_
 refine W.nil (thn_n ?_)
 refine WC.seq ?_
 refine WC.region ?_
 refine W.mv ?_
 refine W.giveB (b := b47) (L := [.int .i64 _]) (List.Perm.refl _) (fun G48 hG48 hc48 => ?_)
 refine W.ok (ok_makeFn (fst := []) (caps := [.tmp 3]) (vs := []) (ws := [.pointer (some ⟨b47, 0, none⟩)]) rfl rfl) ?_
 refine W.call (Mp := Ms_t) (lpicko_fc (TabR.mono hG48 h_t) th hc48) rfl (List.Perm.refl _) ?_
 intro v52 G49 Ms51 hG49 q50
 refine match q50 with | ⟨hv_hR53, hR53⟩ => ?_
 have hln_sa54 := hv_hR53.len47
 have q57 := hv_hR53.form
 refine match q57 with | ⟨sa54, sc55, e_56⟩ => ?_
 subst e_56
 refine W.as ?_
 refine W.nil (thn_n ?_)
 refine WC.ret ?_
 refine ⟨.inr rfl, [_], ⟨rfl, trivial⟩, Ms51, List.sublist_append_left _ _, ?_⟩
 exact ⟨hv_hR53, hR53⟩

theorem lall_fc {G : GH} {Th : List Int} {Lw : Lat} {b_t : Nat} {Ms_t : MH} (h_t : TabR 128 132 3 Th b_t G Lw Ms_t) :
    Fc Tryz.prog 48 [.pointer (some ⟨b_t, 0, none⟩)] G Ms_t (fun v G' M' => SlR eHld G' v (lpickN (fun _ => true) Lw) ∧ TabR 128 132 3 Th b_t G' Lw M') := by
 refine Fc.intro (rs := [.tmp 2]) cl48 Tryz.func48 rfl Tryz.ntmps48 rfl rfl (fun w0 => ?_)
 refine WC.perm (M' := (Ms_t ++ [])) (by simp) ?_
 refine WC.seq ?_
 refine WC.region ?_
 refine W.as ?_
 refine W.nil (thn_n ?_)
 refine WC.seq ?_
 refine WC.region ?_
 refine W.mv ?_
 refine W.call (Mp := Ms_t) (lpicka_fc h_t) rfl (List.Perm.refl _) ?_
 intro v61 G58 Ms60 hG58 q59
 refine match q59 with | ⟨hv_hR62, hR62⟩ => ?_
 have hln_sa63 := hv_hR62.len47
 have q66 := hv_hR62.form
 refine match q66 with | ⟨sa63, sc64, e_65⟩ => ?_
 subst e_65
 refine W.as ?_
 refine W.nil (thn_n ?_)
 refine WC.ret ?_
 refine ⟨.inr rfl, [_], ⟨rfl, trivial⟩, Ms60, List.sublist_append_left _ _, ?_⟩
 exact ⟨hv_hR62, hR62⟩

theorem ldrop_fc {G : GH} {Th : List Int} {Lw : Lat} {b_t : Nat} {Ms_t : MH} (h_t : TabR 128 132 3 Th b_t G Lw Ms_t) (th : Int) :
    Fc Tryz.prog 45 [.pointer (some ⟨b_t, 0, none⟩), .int .i64 th] G Ms_t (fun v G' M' => TabR 128 132 3 Th b_t G' (ldropN Lw th) M') := by
 refine Fc.intro (rs := [.tmp 4]) cl45 Tryz.func45 rfl Tryz.ntmps45 rfl rfl (fun w0 => ?_)
 refine WC.perm (M' := (Ms_t ++ [])) (by simp) ?_
 refine WC.seq ?_
 refine WC.region ?_
 refine W.as ?_
 refine W.nil (thn_n ?_)
 refine WC.seq ?_
 refine WC.region ?_
 refine W.mv ?_
 refine W.mv ?_
 refine W.call (Mp := Ms_t) (lof_fc h_t th) rfl (List.Perm.refl _) ?_
 intro v70 G67 Ms69 hG67 q68
 refine match q68 with | ⟨hv_hR71, hR71⟩ => ?_
 have hln_sa72 := hv_hR71.len47
 have q75 := hv_hR71.form
 refine match q75 with | ⟨sa72, sc73, e_74⟩ => ?_
 subst e_74
 refine W.as ?_
 refine W.nil (thn_n ?_)
 refine WC.seq ?_
 refine WC.seq ?_
 refine WC.region ?_
 refine W.mv ?_
 refine W.ok (ok_len sl58 hv_hR71 rfl) ?_
 refine W.mv ?_
 refine W.nil (thn_n ?_)
 refine WC.block ?_
 refine WC.loop (X := (Nat) × MH) (fun j => [(13, .int .i64 ((j.1 : Nat) : Int)), (1, .int .i64 th), (5, .slice sa72 ((lofN Lw th)).length sc73), (11, .slice sa72 ((lofN Lw th)).length sc73), (12, .int .i64 ((((lofN Lw th)).length : Nat) : Int)), (0, .pointer (some ⟨b_t, 0, none⟩))]) (fun j G Ml => Ml = (j.2 ++ []) ∧ TabR 128 132 3 Th b_t G (lrelsN th ((lofN Lw th).take j.1) Lw) j.2 ∧ j.1 ≤ (lofN Lw th).length) (fun j => (lofN Lw th).length - j.1) (0, Ms69) ⟨eqv, eqv, eqv, eqv, eqv, eqv, trivial⟩ ?_ ?_
 ·exact ⟨rfl, (by exact hR71), Nat.zero_le _⟩
 ·rintro ⟨j, M_0⟩ gG76 G76 _ hG76 ⟨rfl, ho_0, hj⟩
  try dsimp only at ho_0 hj
  refine WC.fr (f := setL gG76 [(13, .int .i64 ((j : Nat) : Int)), (1, .int .i64 th), (5, .slice sa72 ((lofN Lw th)).length sc73), (11, .slice sa72 ((lofN Lw th)).length sc73), (12, .int .i64 ((((lofN Lw th)).length : Nat) : Int)), (0, .pointer (some ⟨b_t, 0, none⟩))]) rfl ?_
  refine WC.seq ?_
  refine WC.region ?_
  refine W.ok (ok_lss rfl rfl) ?_
  refine W.nil (thn_n ?_)
  refine WC.seq ?_
  refine WC.cond (b := _) rfl (fun h14 => ?_) (fun h14 => ?_)
  ·have p14 := of_decide_eq_true h14
   try dsimp only at p14
   refine WC.skip (thn_n ?_)
   refine WC.seq ?_
   refine WC.block ?_
   refine WC.seq ?_
   refine WC.region ?_
   have q81 := (hv_hR71.mono hG76).at (i := j) (by omega)
   refine match q81 with | ⟨_, he77, ⟨e_80, hm78⟩⟩ => ?_
   subst e_80
   refine W.ok (ok_indexAddr (i := j) sl58 ty84 (hv_hR71.mono hG76) rfl rfl ⟨by omega, by omega⟩) ?_
   refine W.ok (ok_loadE (vs := [.int .i64 _, .int .i64 _, .bool _]) ty84 he77 rfl rfl rfl (by simp)) ?_
   refine W.alloc zr84 (fun b82 => ?_)
   refine W.store (i := 0) (vs := [.int .i64 _, .int .i64 _, .bool _]) (L' := [.int .i64 _, .int .i64 _, .bool _]) ty84 rfl rfl rfl rfl rfl rfl rfl rfl ?_
   refine W.nil (thn_n ?_)
   refine WC.region ?_
   refine W.mv ?_
   refine W.mv ?_
   refine W.ok (ok_fieldB fd84_1 rfl) ?_
   refine W.ok (ok_loadB (i := 0) (vs := [.int .i64 _]) ty3 rfl rfl rfl rfl (by simp)) ?_
   refine W.call (Mp := M_0) (lrel_fc ho_0 th ((((lofN Lw th))[j]).slot)) rfl (pmC (List.Perm.refl _)) ?_
   intro v86 G83 Ms85 hG83 q84
   refine match q84 with | ⟨_, hR87⟩ => ?_
   refine W.perm (pmC (List.Perm.refl _)).symm ?_
   refine W.nil (blk_n (thn_n ?_))
   refine WC.region ?_
   refine W.ok (ok_add rfl rfl (by omega)) ?_
   refine W.mv ?_
   refine W.sub ((List.Sublist.refl _).cons _) ?_
   refine W.nil (thn_n ?_)
   exact ⟨hG83, (j + 1, Ms85), ⟨eqv, eqv, eqv, eqv, eqv, eqv, trivial⟩, ⟨rfl, (by have h := hR87; rw [rels_succ (by omega)]; exact h), by omega⟩, by omega⟩
  ·have p14 := of_decide_eq_false h14
   try dsimp only at p14
   refine WC.exit (thn_x (thn_x (blk_h (thn_n ?_))))
   refine WC.seq ?_
   refine WC.region ?_
   refine W.mv ?_
   refine W.ok (ok_len sl58 (hv_hR71.mono hG76) rfl) ?_
   refine W.as ?_
   refine W.nil (thn_n ?_)
   refine WC.ret ?_
   refine ⟨.inr rfl, [_], ⟨rfl, trivial⟩, M_0, List.sublist_append_left _ _, ?_⟩
   have hj9 : j = (lofN Lw th).length := by omega
   have hB9 := ho_0
   rw [hj9, List.take_length] at hB9
   exact hB9

theorem lnew_fc {G : GH} (n : Int) (Th : List Int) (hTh : (∀ x ∈ Th, i64 x) ∧ Th.length ≤ 1000) :
    Fc Tryz.prog 60 [.int .i64 n] G [] (fun v G' M' => (¬ (1 ≤ n ∧ n ≤ 4096) ∧ v = .tuple #[.pointer none, .int .i64 2] ∧ M' = []) ∨ ((1 ≤ n ∧ n ≤ 4096) ∧ ∃ b, v = .tuple #[.pointer (some ⟨b, 0, none⟩), .int .i64 0] ∧ TabR 128 132 3 Th b G' (List.replicate n.toNat ([], 0)) M')) := by
 refine Fc.intro (rs := [.tmp 2, .tmp 3]) cl60 Tryz.func60 rfl Tryz.ntmps60 rfl rfl (fun w0 => ?_)
 refine WC.seq ?_
 refine WC.region ?_
 refine W.as ?_
 refine W.as ?_
 refine W.nil (thn_n ?_)
 refine WC.seq ?_
 refine WC.seq ?_
 refine WC.region ?_
 refine W.mv ?_
 refine W.ok (ok_lss rfl rfl) ?_
 refine W.mv ?_
 refine W.sp 6 rfl (fun h5 => ?_) (fun h5 => ?_)
 ·have p5 := of_decide_eq_true h5
  refine W.no (dj := 6) rfl rfl h5 ?_
  refine W.no (dj := 6) rfl rfl h5 ?_
  refine W.ok (ok_pick_t rfl h5) ?_
  refine W.nil (thn_n ?_)
  refine WC.cond_t rfl rfl ?_
  refine WC.seq ?_
  refine WC.region ?_
  refine W.as ?_
  refine W.as ?_
  refine W.nil (thn_n ?_)
  refine WC.ret (thn_r ?_)
  refine ⟨.inr rfl, [_, _], ⟨rfl, rfl, trivial⟩, [], List.nil_sublist _, ?_⟩
  exact .inl ⟨by omega, rfl, rfl⟩
 ·have p5 := of_decide_eq_false h5
  refine W.yes (dj := 6) rfl rfl h5 ?_
  refine W.mv ?_
  refine W.yes (dj := 6) rfl rfl h5 ?_
  refine W.ok (ok_gtr rfl rfl) ?_
  refine W.ok (ok_pick_f rfl h5) ?_
  refine W.nil (thn_n ?_)
  refine WC.cond (b := _) rfl (fun h8 => ?_) (fun h8 => ?_)
  ·have p8 := of_decide_eq_true h8
   refine WC.seq ?_
   refine WC.region ?_
   refine W.as ?_
   refine W.as ?_
   refine W.nil (thn_n ?_)
   refine WC.ret (thn_r ?_)
   refine ⟨.inr rfl, [_, _], ⟨rfl, rfl, trivial⟩, [], List.nil_sublist _, ?_⟩
   exact .inl ⟨by omega, rfl, rfl⟩
  ·have p8 := of_decide_eq_false h8
   obtain ⟨m, rfl⟩ : ∃ m : Nat, n = (m : Int) := ⟨n.toNat, by omega⟩
   refine WC.skip (thn_n ?_)
   refine WC.seq ?_
   refine WC.region ?_
   refine W.mv ?_
   refine W.mkSl (e := eOne) (a0 := (((.slice none 0 0), 0) : Value × Int)) (n := (m)) sl126 ty132 zr132 rfl by132 (⟨rfl, ⟨_, _, _, rfl⟩, by decide, by decide⟩) rfl rfl (by first | (show _ * 32 ≤ 140737488355328; omega) | (show _ * 2 ≤ 16777216; omega)) (by first | (show _ * 32 ≤ 140737488355328; omega) | (show _ * 2 ≤ 16777216; omega)) (fun v88 Ms89 ho90 => ?_)
   have q94 := ho90.form
   refine match q94 with | ⟨sa91, sc92, e_93⟩ => ?_
   subst e_93
   refine W.ok (ok_build (L := [.slice _ _ _]) pl128 zr128 rfl rfl rfl) ?_
   refine W.box (L := [.slice _ _ _]) rfl rfl (fun b95 => ?_)
   refine W.as ?_
   refine W.as ?_
   refine W.nil (thn_n ?_)
   refine WC.ret ?_
   refine ⟨.inr rfl, [_, _], ⟨rfl, rfl, trivial⟩, ((b95, .cells (List.toArray [.slice sa91 ((List.replicate ((m)) (((.slice none 0 0), 0) : Value × Int))).length sc92]) 128 (0, 0)) :: Ms89), (List.sublist_append_left _ _).cons_cons _, ?_⟩
   exact .inr ⟨by omega, _, rfl, TabR.cast (by simp) ⟨_, _, _, [], by simp, ho90, who_new m, lat_new (by omega) hTh⟩⟩

end Go.Proofs.YtgmnljhiojdigaaGreat
namespace Go.Fw
open Go Go.RowKit
def vPtr : VEnc (Option Nat) := ⟨fun _ v o => v = .pointer (o.map fun b => ⟨b, 0, none⟩), fun _ h => h⟩
def htakeN (W : Lat) (th s : Int) (wr : Bool) : Bool × Lat :=
  if lhasN W th s = true ∧ (wr = false ∨ ltoN W th s = true) then (true, W)
  else (decide ((ltakeN W th s (if wr = true then 2 else 1)).1 = 0), (ltakeN W th s (if wr = true then 2 else 1)).2)
theorem htake_t {W : Lat} {th s : Int} {wr : Bool} (h : lhasN W th s = true) (h2 : wr = false ∨ ltoN W th s = true) : htakeN W th s wr = (true, W) := if_pos ⟨h, h2⟩
theorem htake_f {W : Lat} {th s : Int} {wr : Bool} (h : ¬ (lhasN W th s = true ∧ (wr = false ∨ ltoN W th s = true))) : htakeN W th s wr = (decide ((ltakeN W th s (if wr = true then 2 else 1)).1 = 0), (ltakeN W th s (if wr = true then 2 else 1)).2) := if_neg h
def hmost (W : Lat) (th most : Int) : Int := max most ((lofN W th).length : Int)
def HcR (TT TO TI TH TC : TypeId) (Th : List Int) (bh bc bt : Nat) (vS : Option Addr) (vM : Value) (wt ch : Int) (G : GH) (th most : Int) (W : Lat) (Ms : MH) : Prop :=
  ∃ vw Mt, Ms = (bh, .cells (List.toArray [.pointer (some ⟨bc, 0, none⟩), .int .i64 th, .pointer vw, .int .i64 most]) TH (0, 0)) :: ((bc, .cells (List.toArray [.pointer vS, .pointer (some ⟨bt, 0, none⟩), vM, .int .i64 wt, .int .i64 ch]) TC (0, 0)) :: Mt) ∧ TabR TT TO TI Th bt G W Mt
theorem HcR.cast {TT TO TI TH TC : TypeId} {Th : List Int} {bh bc bt : Nat} {vS : Option Addr} {vM : Value} {wt ch : Int} {G : GH} {th most most' : Int} {W W' : Lat} {Ms : MH} (e1 : most' = most) (e2 : W' = W) (h : HcR TT TO TI TH TC Th bh bc bt vS vM wt ch G th most W Ms) : HcR TT TO TI TH TC Th bh bc bt vS vM wt ch G th most' W' Ms := e1 ▸ e2 ▸ h
/-! ## Orders -/
abbrev MQ := Quotient (List.isSetoid (Nat × Obj))
def mq (M : MH) : MQ := Quotient.mk _ M
def mqA (a b : MQ) : MQ := Quotient.liftOn₂ a b (fun x y => mq (x ++ y)) fun _ _ _ _ h k => Quotient.sound (List.Perm.append h k)
theorem mq_app (a b : MH) : mq (a ++ b) = mqA (mq a) (mq b) := rfl
def mo (x : Nat × Obj) : MQ := mq [x]
theorem mq_cons (x : Nat × Obj) (b : MH) : mq (x :: b) = mqA (mo x) (mq b) := rfl
theorem mq_zero (a : MQ) : mqA a (mq []) = a := by
  induction a using Quotient.inductionOn with
  | h a => exact congrArg mq (List.append_nil a)
theorem zero_mq (a : MQ) : mqA (mq []) a = a := by
  induction a using Quotient.inductionOn with
  | h a => rfl
instance : Std.Associative mqA := ⟨fun a b c => by
  induction a using Quotient.inductionOn with
  | h a =>
    induction b using Quotient.inductionOn with
    | h b =>
      induction c using Quotient.inductionOn with
      | h c => exact congrArg mq (List.append_assoc a b c)⟩
instance : Std.Commutative mqA := ⟨fun a b => by
  induction a using Quotient.inductionOn with
  | h a =>
    induction b using Quotient.inductionOn with
    | h b => exact Quotient.sound List.perm_append_comm⟩
theorem of_mq {a b : MH} (h : mq a = mq b) : a.Perm b := Quotient.exact h
/-! ## Frames -/
theorem Fc.perm {P : Program} {g : FuncId} {vs : List Value} {G : GH} {M M' : MH} {Q : Value → GH → MH → Prop} (hp : M'.Perm M) (h : Fc P g vs G M' Q) : Fc P g vs G M Q := by
  refine ⟨h.1, fun w hw => ?_⟩
  have ho : ∀ b, b ∈ M'.map (·.1) ↔ b ∈ M.map (·.1) := fun b => (hp.map _).mem_iff
  have e : (fun b => b ∈ M'.map (·.1)) = fun b => b ∈ M.map (·.1) := funext fun b => propext (ho b)
  have hw2 : Real w (fun b => b ∈ M'.map (·.1)) G M' w := by rw [e]; exact hw.perm hp
  refine (h.2 w hw2).mono ?_
  rintro x w' ⟨v, G', M1, a1, a2, a3, a4, a5⟩
  rw [e] at a2
  exact ⟨v, G', M1, a1, a2, a3, fun b h1 h2 => (a4 b h1 h2).imp id (ho b).1, a5⟩
theorem Fc.frame {P : Program} {g : FuncId} {vs : List Value} {G : GH} {M Mr : MH} {Q : Value → GH → MH → Prop} (h : Fc P g vs G M Q) : Fc P g vs G (M ++ Mr) (fun v G' M' => ∃ M1, M' = M1 ++ Mr ∧ Q v G' M1) := by
  refine ⟨h.1, fun w hw => ?_⟩
  have hs := hw.sub (M' := M) (List.sublist_append_left _ _)
  have hw2 : Real w (fun b => b ∈ M.map (·.1)) G M w := ⟨rfl, rfl, rfl, Nat.le_refl _, fun _ _ _ => rfl, hs.ro, hs.mu, hs.dis, hs.nd, fun p hp => .inr (List.mem_map_of_mem hp)⟩
  refine (h.2 w hw2).mono ?_
  rintro x w' ⟨v, G', M1, a1, a2, a3, a4, a5⟩
  exact ⟨v, G', M1 ++ Mr, a1, Real.call hw a2 a4, a3, fun b h1 h2 => (a4 b h1 h2).imp id fun h9 => by rw [List.map_append]; exact List.mem_append_left _ h9, M1, rfl, a5⟩
end Go.Fw
