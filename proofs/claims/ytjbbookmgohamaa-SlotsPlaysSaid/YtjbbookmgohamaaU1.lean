/- Walks of arenas. -/
import Derived.Test.YtjbbookmgohamaaV4
import Derived.Test.YtjbbookmgohamaaNg
namespace Go.Proofs.Ytjbbookmgohamaa
open Go Go.Fw Go.RowKit
set_option maxRecDepth 100000
set_option maxHeartbeats 1600000
set_option linter.unusedVariables false
set_option linter.unusedSimpArgs false
set_option linter.unnecessarySimpa false
theorem shasi_fc {G : GH} {b_s : Nat} {v_c : Value} {c : List Int} {Ms_c : MH} (h_c : OwnR eInt 3 G v_c c Ms_c) {v_u : Value} {u : List Bool} {Ms_u : MH} (h_u : OwnR eBool 4 G v_u u Ms_u) {v_f : Value} {f : List Int} {Ms_f : MH} (h_f : OwnR eInt 3 G v_f f Ms_f) (i : Int) :
    Fc Try.prog 90 [.pointer (some ⟨b_s, 0, none⟩), .int .i64 i] G ((b_s, .cells (List.toArray [v_c, v_u, v_f]) 127 (0, 0)) :: (Ms_c ++ (Ms_u ++ (Ms_f)))) (fun v G' M' => v = .bool (hasN u i) ∧ M' = (b_s, .cells (List.toArray [v_c, v_u, v_f]) 127 (0, 0)) :: (Ms_c ++ (Ms_u ++ Ms_f))) := by
 obtain ⟨sa_c, sc_c, rfl⟩ := h_c.form
 obtain ⟨sa_u, sc_u, rfl⟩ := h_u.form
 obtain ⟨sa_f, sc_f, rfl⟩ := h_f.form
 have hl := h_u.len47
 refine Fc.intro (rs := [.tmp 4]) cl90 Try.func90 rfl Try.ntmps90 rfl rfl (fun w0 => ?_)
 refine WC.perm (M' := ((b_s, .cells (List.toArray [.slice sa_c c.length sc_c, .slice sa_u u.length sc_u, .slice sa_f f.length sc_f]) 127 (0, 0)) :: (Ms_c ++ (Ms_u ++ (Ms_f ++ []))))) (by simp) ?_
 refine WC.seq ?_
 refine WC.region ?_
 refine W.as ?_
 refine W.nil (thn_n ?_)
 refine WC.seq ?_
 refine WC.region ?_
 refine W.mv ?_
 refine W.ok (ok_neqPN pp48 rfl rfl) ?_
 refine W.mv ?_
 refine W.yes (dj := 7) rfl rfl rfl ?_
 refine W.mv ?_
 refine W.yes (dj := 7) rfl rfl rfl ?_
 refine W.ok (ok_geq rfl rfl) ?_
 refine W.ok (ok_pick_t rfl rfl) ?_
 refine W.mv ?_
 refine W.sp 11 rfl (fun h9 => ?_) (fun h9 => ?_)
 ·have p9 := of_decide_eq_true h9
  refine W.yes (dj := 11) rfl rfl h9 ?_
  refine W.mv ?_
  refine W.yes (dj := 11) rfl rfl h9 ?_
  refine W.mv ?_
  refine W.yes (dj := 11) rfl rfl h9 ?_
  refine W.ok (ok_nilP rfl) ?_
  refine W.yes (dj := 11) rfl rfl h9 ?_
  refine W.ok (ok_fieldB fd127_1 rfl) ?_
  refine W.yes (dj := 11) rfl rfl h9 ?_
  refine W.ok (ok_loadB (i := 0) (vs := [.slice _ _ _]) ty60 rfl rfl rfl rfl (by simp)) ?_
  refine W.yes (dj := 11) rfl rfl h9 ?_
  refine W.ok (ok_lenO sl60 h_u rfl) ?_
  refine W.yes (dj := 11) rfl rfl h9 ?_
  refine W.ok (ok_lss rfl rfl) ?_
  refine W.ok (ok_pick_t rfl h9) ?_
  refine W.mv ?_
  refine W.sp 20 rfl (fun h18 => ?_) (fun h18 => ?_)
  ·have p18 := of_decide_eq_true h18
   refine W.yes (dj := 20) rfl rfl h18 ?_
   refine W.mv ?_
   refine W.yes (dj := 20) rfl rfl h18 ?_
   refine W.ok (ok_nilP rfl) ?_
   refine W.yes (dj := 20) rfl rfl h18 ?_
   refine W.ok (ok_fieldB fd127_1 rfl) ?_
   refine W.yes (dj := 20) rfl rfl h18 ?_
   refine W.ok (ok_loadB (i := 0) (vs := [.slice _ _ _]) ty60 rfl rfl rfl rfl (by simp)) ?_
   refine W.yes (dj := 20) rfl rfl h18 ?_
   refine W.mv ?_
   refine W.yes (dj := 20) rfl rfl h18 ?_
   have q4 := h_u.at (i := i.toNat) (by omega)
   refine match q4 with | ⟨_, he1, e_3⟩ => ?_
   subst e_3
   refine W.ok (ok_indexAddrO (i := i.toNat) sl60 ty4 h_u rfl rfl ⟨by omega, by omega⟩) ?_
   refine W.yes (dj := 20) rfl rfl h18 ?_
   refine W.ok (ok_loadO (vs := [.bool _]) ty4 he1 (pmC (pmA (List.Perm.refl _))) rfl rfl rfl (by simp)) ?_
   refine W.ok (ok_pick_t rfl h18) ?_
   refine W.as ?_
   refine W.nil (thn_n ?_)
   refine WC.ret ?_
   refine ⟨.inr rfl, [_], ⟨rfl, trivial⟩, ((b_s, .cells (List.toArray [.slice sa_c c.length sc_c, .slice sa_u u.length sc_u, .slice sa_f f.length sc_f]) 127 (0, 0)) :: (Ms_c ++ (Ms_u ++ (Ms_f ++ [])))), (List.Sublist.refl _).cons_cons _, ?_⟩
   exact ⟨congrArg Value.bool (hasN_get (by omega) (by omega)), by simp⟩
  ·have p18 := of_decide_eq_false h18
   refine W.no (dj := 20) rfl rfl h18 ?_
   refine W.no (dj := 20) rfl rfl h18 ?_
   refine W.no (dj := 20) rfl rfl h18 ?_
   refine W.no (dj := 20) rfl rfl h18 ?_
   refine W.no (dj := 20) rfl rfl h18 ?_
   refine W.no (dj := 20) rfl rfl h18 ?_
   refine W.no (dj := 20) rfl rfl h18 ?_
   refine W.ok (ok_pick_f rfl h18) ?_
   refine W.as ?_
   refine W.nil (thn_n ?_)
   refine WC.ret ?_
   refine ⟨.inr rfl, [_], ⟨rfl, trivial⟩, ((b_s, .cells (List.toArray [.slice sa_c c.length sc_c, .slice sa_u u.length sc_u, .slice sa_f f.length sc_f]) 127 (0, 0)) :: (Ms_c ++ (Ms_u ++ (Ms_f ++ [])))), (List.Sublist.refl _).cons_cons _, ?_⟩
   exact ⟨congrArg Value.bool (hasN_big (by omega)), by simp⟩
 ·have p9 := of_decide_eq_false h9
  refine W.no (dj := 11) rfl rfl h9 ?_
  refine W.no (dj := 11) rfl rfl h9 ?_
  refine W.no (dj := 11) rfl rfl h9 ?_
  refine W.no (dj := 11) rfl rfl h9 ?_
  refine W.no (dj := 11) rfl rfl h9 ?_
  refine W.no (dj := 11) rfl rfl h9 ?_
  refine W.no (dj := 11) rfl rfl h9 ?_
  refine W.ok (ok_pick_f rfl h9) ?_
  refine W.mv ?_
  refine W.no (dj := 20) rfl rfl rfl ?_
  refine W.no (dj := 20) rfl rfl rfl ?_
  refine W.no (dj := 20) rfl rfl rfl ?_
  refine W.no (dj := 20) rfl rfl rfl ?_
  refine W.no (dj := 20) rfl rfl rfl ?_
  refine W.no (dj := 20) rfl rfl rfl ?_
  refine W.no (dj := 20) rfl rfl rfl ?_
  refine W.ok (ok_pick_f rfl rfl) ?_
  refine W.as ?_
  refine W.nil (thn_n ?_)
  refine WC.ret ?_
  refine ⟨.inr rfl, [_], ⟨rfl, trivial⟩, ((b_s, .cells (List.toArray [.slice sa_c c.length sc_c, .slice sa_u u.length sc_u, .slice sa_f f.length sc_f]) 127 (0, 0)) :: (Ms_c ++ (Ms_u ++ (Ms_f ++ [])))), (List.Sublist.refl _).cons_cons _, ?_⟩
  exact ⟨congrArg Value.bool (hasN_neg (by omega)), by simp⟩

theorem sseti_fc {G : GH} {b_s : Nat} {v_c : Value} {c : List Int} {Ms_c : MH} (h_c : OwnR eInt 3 G v_c c Ms_c) {v_u : Value} {u : List Bool} {Ms_u : MH} (h_u : OwnR eBool 4 G v_u u Ms_u) {v_f : Value} {f : List Int} {Ms_f : MH} (h_f : OwnR eInt 3 G v_f f Ms_f) (i : Int) (x : Int) (hcu : c.length = u.length) (hn : u.length ≤ 4096) (hh : Heap ltI f) (hp : f.Perm (freeN u)) (hx : i64 x) :
    Fc Try.prog 27 [.pointer (some ⟨b_s, 0, none⟩), .int .i64 i, .int .i64 x] G ((b_s, .cells (List.toArray [v_c, v_u, v_f]) 127 (0, 0)) :: (Ms_c ++ (Ms_u ++ (Ms_f)))) (fun v G' M' => v = .int .i64 (layA (c, u) i x).1 ∧ ArR eInt 3 4 3 127 b_s G' (layA (c, u) i x).2 M') := by
 obtain ⟨sa_c, sc_c, rfl⟩ := h_c.form
 obtain ⟨sa_u, sc_u, rfl⟩ := h_u.form
 obtain ⟨sa_f, sc_f, rfl⟩ := h_f.form
 have hl := h_u.len47
 have hlc := h_c.len47
 refine Fc.intro (rs := [.tmp 6]) cl27 Try.func27 rfl Try.ntmps27 rfl rfl (fun w0 => ?_)
 refine WC.perm (M' := ((b_s, .cells (List.toArray [.slice sa_c c.length sc_c, .slice sa_u u.length sc_u, .slice sa_f f.length sc_f]) 127 (0, 0)) :: (Ms_c ++ (Ms_u ++ (Ms_f ++ []))))) (by simp) ?_
 refine WC.seq ?_
 refine WC.region ?_
 refine W.as ?_
 refine W.nil (thn_n ?_)
 refine WC.seq ?_
 refine WC.seq ?_
 refine WC.region ?_
 refine W.mv ?_
 refine W.ok (ok_eqlPN pp48 rfl rfl) ?_
 refine W.nil (thn_n ?_)
 refine WC.cond_f rfl rfl ?_
 refine WC.skip (thn_n ?_)
 refine WC.seq ?_
 refine WC.seq ?_
 refine WC.region ?_
 refine W.mv ?_
 refine W.mv ?_
 refine W.call (Mp := ((b_s, .cells (List.toArray [.slice sa_c c.length sc_c, .slice sa_u u.length sc_u, .slice sa_f f.length sc_f]) 127 (0, 0)) :: (Ms_c ++ (Ms_u ++ Ms_f)))) (Mr := []) (shasi_fc h_c h_u h_f _) rfl ((((pmF ((pmF (List.Perm.refl _)).trans (List.Perm.refl _))).trans (List.Perm.refl _)).cons _).trans (List.Perm.refl _)) ?_
 intro v8 G5 Ms7 hG5 q6
 refine match q6 with | ⟨e_9, e_10⟩ => ?_
 subst e_9
 subst e_10
 refine W.perm (M' := ((b_s, .cells (List.toArray [.slice sa_c c.length sc_c, .slice sa_u u.length sc_u, .slice sa_f f.length sc_f]) 127 (0, 0)) :: (Ms_c ++ (Ms_u ++ (Ms_f ++ []))))) ((((pmF ((pmF (List.Perm.refl _)).trans (List.Perm.refl _))).trans (List.Perm.refl _)).cons _).trans (List.Perm.refl _)).symm ?_
 refine W.ok (ok_not rfl) ?_
 refine W.nil (thn_n ?_)
 refine WC.cond (b := _) rfl (fun h12 => ?_) (fun h12 => ?_)
 ·refine WC.seq ?_
  refine WC.region ?_
  refine W.as ?_
  refine W.nil (thn_n ?_)
  refine WC.ret (thn_r ?_)
  refine ⟨.inr rfl, [_], ⟨rfl, trivial⟩, ((b_s, .cells (List.toArray [.slice sa_c c.length sc_c, .slice sa_u u.length sc_u, .slice sa_f f.length sc_f]) 127 (0, 0)) :: (Ms_c ++ (Ms_u ++ (Ms_f ++ [])))), (List.Sublist.refl _).cons_cons _, ?_⟩
  exact ⟨congrArg (Value.int .i64) (congrArg Prod.fst (layA_f (st := (c, u)) (by simpa using h12))).symm, ArR.cast (st := (c, u)) ⟨_, ⟨_, _, _, _, _, _, rfl, (h_c.mono hG5), (h_u.mono hG5), (h_f.mono hG5)⟩, hcu, hn, hh, hp⟩ (congrArg Prod.snd (layA_f (st := (c, u)) (by simpa using h12))).symm (by simp)⟩
 ·have hhi : hasN u i = true := by simpa using h12
  have hil := hasN_lt hhi
  refine WC.skip (thn_n ?_)
  refine WC.seq ?_
  refine WC.region ?_
  refine W.mv ?_
  refine W.ok (ok_nilP rfl) ?_
  refine W.ok (ok_fieldB fd127_0 rfl) ?_
  refine W.ok (ok_loadB (i := 0) (vs := [.slice _ _ _]) ty30 rfl rfl rfl rfl (by simp)) ?_
  refine W.mv ?_
  refine W.mv ?_
  have q14 := (h_c.mono hG5).at (i := i.toNat) (by omega)
  refine match q14 with | ⟨_, he11, ⟨e_13, hi12⟩⟩ => ?_
  subst e_13
  refine W.ok (ok_indexAddrO (i := i.toNat) sl30 ty3 (h_c.mono hG5) rfl rfl ⟨by omega, by omega⟩) ?_
  refine W.storeO (i := i.toNat) (o := 0) (vs := [.int .i64 _]) (a' := x) ty3 rfl rfl rfl rfl rfl ((h_c.mono hG5)) (pmC (List.Perm.refl _)) (by omega) (by decide) (fun cs h => by rw [h.1]; exact ⟨rfl, hx⟩) (fun Ms15 ho16 => ?_)
  refine W.perm (pmC (List.Perm.refl _)).symm ?_
  refine W.nil (thn_n ?_)
  refine WC.seq ?_
  refine WC.region ?_
  refine W.as ?_
  refine W.nil (thn_n ?_)
  refine WC.ret ?_
  refine ⟨.inr rfl, [_], ⟨rfl, trivial⟩, ((b_s, .cells (List.toArray [.slice sa_c c.length sc_c, .slice sa_u u.length sc_u, .slice sa_f f.length sc_f]) 127 (0, 0)) :: (Ms15 ++ (Ms_u ++ (Ms_f ++ [])))), (List.Sublist.refl _).cons_cons _, ?_⟩
  exact ⟨congrArg (Value.int .i64) (congrArg Prod.fst (layA_t (st := (c, u)) (by simpa using h12))).symm, ArR.cast (st := (c.set i.toNat x, u)) ⟨_, ⟨_, _, _, _, _, _, rfl, ho16, (h_u.mono hG5), (h_f.mono hG5)⟩, (by rw [List.length_set]; exact hcu), hn, hh, hp⟩ (congrArg Prod.snd (layA_t (st := (c, u)) (by simpa using h12))).symm (by simp)⟩

theorem salloci_fc {G : GH} {b_s : Nat} {v_c : Value} {c : List Int} {Ms_c : MH} (h_c : OwnR eInt 3 G v_c c Ms_c) {v_u : Value} {u : List Bool} {Ms_u : MH} (h_u : OwnR eBool 4 G v_u u Ms_u) {v_f : Value} {f : List Int} {Ms_f : MH} (h_f : OwnR eInt 3 G v_f f Ms_f) (x : Int) (hcu : c.length = u.length) (hn : u.length ≤ 4096) (hh : Heap ltI f) (hp : f.Perm (freeN u)) (hx : i64 x) :
    Fc Try.prog 28 [.pointer (some ⟨b_s, 0, none⟩), .int .i64 x] G ((b_s, .cells (List.toArray [v_c, v_u, v_f]) 127 (0, 0)) :: (Ms_c ++ (Ms_u ++ (Ms_f)))) (fun v G' M' => v = .tuple #[.int .i64 (nextA (c, u) x).1.1, .int .i64 (nextA (c, u) x).1.2] ∧ ArR eInt 3 4 3 127 b_s G' (nextA (c, u) x).2 M') := by
 obtain ⟨sa_c, sc_c, rfl⟩ := h_c.form
 obtain ⟨sa_u, sc_u, rfl⟩ := h_u.form
 obtain ⟨sa_f, sc_f, rfl⟩ := h_f.form
 have hl := h_u.len47
 have hlc := h_c.len47
 have hlf := h_f.len47
 refine Fc.intro (rs := [.tmp 4, .tmp 5]) cl28 Try.func28 rfl Try.ntmps28 rfl rfl (fun w0 => ?_)
 refine WC.perm (M' := ((b_s, .cells (List.toArray [.slice sa_c c.length sc_c, .slice sa_u u.length sc_u, .slice sa_f f.length sc_f]) 127 (0, 0)) :: (Ms_c ++ (Ms_u ++ (Ms_f ++ []))))) (by simp) ?_
 refine WC.seq ?_
 refine WC.region ?_
 refine W.as ?_
 refine W.as ?_
 refine W.nil (thn_n ?_)
 refine WC.seq ?_
 refine WC.seq ?_
 refine WC.region ?_
 refine W.mv ?_
 refine W.ok (ok_eqlPN pp48 rfl rfl) ?_
 refine W.nil (thn_n ?_)
 refine WC.cond_f rfl rfl ?_
 refine WC.skip (thn_n ?_)
 refine WC.seq ?_
 refine WC.seq ?_
 refine WC.region ?_
 refine W.mv ?_
 refine W.ok (ok_nilP rfl) ?_
 refine W.ok (ok_fieldB fd127_2 rfl) ?_
 refine W.ok (ok_loadB (i := 0) (vs := [.slice _ _ _]) ty125 rfl rfl rfl rfl (by simp)) ?_
 refine W.ok (ok_lenO sl125 h_f rfl) ?_
 refine W.ok (ok_eql rfl rfl) ?_
 refine W.nil (thn_n ?_)
 refine WC.cond (b := _) rfl (fun h14 => ?_) (fun h14 => ?_)
 ·have p14 := of_decide_eq_true h14
  refine WC.seq ?_
  refine WC.region ?_
  refine W.as ?_
  refine W.as ?_
  refine W.nil (thn_n ?_)
  refine WC.ret (thn_r ?_)
  refine ⟨.inr rfl, [_, _], ⟨rfl, rfl, trivial⟩, ((b_s, .cells (List.toArray [.slice sa_c c.length sc_c, .slice sa_u u.length sc_u, .slice sa_f f.length sc_f]) 127 (0, 0)) :: (Ms_c ++ (Ms_u ++ (Ms_f ++ [])))), (List.Sublist.refl _).cons_cons _, ?_⟩
  have hE := nextA_f (st := (c, u)) (x := x) (free_zero (u := u) (by have := hp.length_eq; omega))
  exact ⟨congrArg (fun r : Int × Int => Value.tuple #[.int .i64 r.1, .int .i64 r.2]) (congrArg Prod.fst hE).symm, ArR.cast (st := (c, u)) ⟨_, ⟨_, _, _, _, _, _, rfl, h_c, h_u, h_f⟩, hcu, hn, hh, hp⟩ (congrArg Prod.snd hE).symm (by simp)⟩
 ·have p14 := of_decide_eq_false h14
  refine WC.skip (thn_n ?_)
  refine WC.seq ?_
  refine WC.region ?_
  refine W.mv ?_
  refine W.ok (ok_nilP rfl) ?_
  refine W.ok (ok_fieldB fd127_2 rfl) ?_
  refine W.ok (ok_mkI pi129 rfl) ?_
  refine W.call (Mp := ((b_s, .cells (List.toArray [.slice sa_c c.length sc_c, .slice sa_u u.length sc_u, .slice sa_f f.length sc_f]) 127 (0, 0)) :: Ms_f)) (Mr := (Ms_c ++ (Ms_u ++ []))) (hpop_fc (least_heap (b := b_s) (Tb := 127) (c0 := .slice sa_c c.length sc_c) (c1 := .slice sa_u u.length sc_u)) ⟨_, _, rfl, h_f⟩ (by omega)) rfl (((pmA (pmA (List.Perm.refl _))).cons _).trans (List.Perm.refl _)) ?_
  intro v20 G17 Ms19 hG17 q18
  refine match q18 with | ⟨⟨hv_z21, hi_z21⟩, ⟨vf_z21, Mf_z21, e_22, hf_z21⟩⟩ => ?_
  subst e_22
  have q24 := hf_z21.form
  refine match q24 with | ⟨sa_z21, sc_z21, e_23⟩ => ?_
  subst e_23
  obtain ⟨hlt, hee, hh2, hp2⟩ := take_first hh hp (by omega)
  rw [hee] at hv_z21
  subst hv_z21
  refine W.perm (M' := ((b_s, .cells (List.toArray [.slice sa_c c.length sc_c, .slice sa_u u.length sc_u, .slice sa_z21 ((popL ltI f)).length sc_z21]) 127 (0, 0)) :: (Mf_z21 ++ (Ms_c ++ (Ms_u ++ []))))) (((List.Perm.refl _).cons _).trans (List.Perm.refl _)).symm ?_
  refine W.ok (ok_tyA pi3 rfl) ?_
  refine W.as ?_
  refine W.nil (thn_n ?_)
  refine WC.seq ?_
  refine WC.drawW _ ((List.nil_sublist _).cons_cons _) mix (by rintro _ _ _ _ ⟨h | h, _⟩ <;> cases h) ?_
  refine WD.take 0 rfl rfl rfl (by kernel_rfl) (by kernel_rfl) (by kernel_rfl) (ok_mv) ?_
  refine WD.take 1 rfl rfl rfl (by kernel_rfl) (by kernel_rfl) (by kernel_rfl) (ok_nilP rfl) ?_
  refine WD.take 2 rfl rfl rfl (by kernel_rfl) (by kernel_rfl) (by kernel_rfl) (ok_fieldB fd127_0 rfl) ?_
  refine WD.take 3 rfl rfl rfl (by kernel_rfl) (by kernel_rfl) (by kernel_rfl) (ok_loadB (i := 0) (vs := [.slice _ _ _]) ty30 rfl rfl rfl rfl (by simp)) ?_
  refine WD.take 4 rfl rfl rfl (by kernel_rfl) (by kernel_rfl) (by kernel_rfl) (ok_mv) ?_
  refine WD.take 5 rfl rfl rfl (by kernel_rfl) (by kernel_rfl) (by kernel_rfl) (ok_mv) ?_
  refine WD.take 6 rfl rfl rfl (by kernel_rfl) (by kernel_rfl) (by kernel_rfl) (ok_nilP rfl) ?_
  refine WD.take 7 rfl rfl rfl (by kernel_rfl) (by kernel_rfl) (by kernel_rfl) (ok_fieldB fd127_1 rfl) ?_
  refine WD.take 8 rfl rfl rfl (by kernel_rfl) (by kernel_rfl) (by kernel_rfl) (ok_loadB (i := 0) (vs := [.slice _ _ _]) ty60 rfl rfl rfl rfl (by simp)) ?_
  refine WD.take 9 rfl rfl rfl (by kernel_rfl) (by kernel_rfl) (by kernel_rfl) (ok_mv) ?_
  refine WD.take 10 rfl rfl rfl (by kernel_rfl) (by kernel_rfl) (by kernel_rfl) (ok_mv) ?_
  have q28 := (h_c.mono hG17).at (i := (firstN u)) (by omega)
  refine match q28 with | ⟨_, he25, ⟨e_27, hi26⟩⟩ => ?_
  subst e_27
  refine WD.take 11 rfl rfl rfl (by kernel_rfl) (by kernel_rfl) (by kernel_rfl) (ok_indexAddrO (i := (firstN u)) sl30 ty3 (h_c.mono hG17) rfl rfl ⟨by omega, by omega⟩) ?_
  refine WD.any [12] (by kernel_rfl) rfl ⟨⟨_, rfl, rfl, ?_⟩, trivial⟩
  refine W.storeO (i := (firstN u)) (o := 0) (vs := [.int .i64 _]) (a' := x) ty3 rfl rfl rfl rfl rfl ((h_c.mono hG17)) (pmC (pmA (List.Perm.refl _))) (by omega) (by decide) (fun cs h => by rw [h.1]; exact ⟨rfl, hx⟩) (fun Ms29 ho30 => ?_)
  refine W.perm (pmC (List.Perm.refl _)).symm ?_
  refine W.nil ⟨Le.rfl, (List.nil_sublist _).cons_cons _, _, (List.nil_sublist _).cons_cons _, List.Sublist.refl _, ?_⟩
  have q34 := (h_u.mono hG17).at (i := (firstN u)) (by omega)
  refine match q34 with | ⟨_, he31, e_33⟩ => ?_
  subst e_33
  refine WD.take 13 rfl rfl rfl (by kernel_rfl) (by kernel_rfl) (by kernel_rfl) (ok_indexAddrO (i := (firstN u)) sl60 ty4 (h_u.mono hG17) rfl rfl ⟨by omega, by omega⟩) ?_
  refine WD.any [14] (by kernel_rfl) rfl ⟨⟨_, rfl, rfl, ?_⟩, trivial⟩
  refine W.storeO (i := (firstN u)) (o := 0) (vs := [.bool _]) (a' := true) ty4 rfl rfl rfl rfl rfl ((h_u.mono hG17)) (pmC (pmA (pmA (List.Perm.refl _)))) (by omega) (by decide) (fun cs h => by rw [h]; rfl) (fun Ms35 ho36 => ?_)
  refine W.perm (pmC (List.Perm.refl _)).symm ?_
  refine W.nil ⟨Le.rfl, (List.nil_sublist _).cons_cons _, _, (List.nil_sublist _).cons_cons _, List.Sublist.refl _, ?_⟩
  refine WD.done (by kernel_rfl) (thn_n ?_)
  refine WC.seq ?_
  refine WC.region ?_
  refine W.mv ?_
  refine W.as ?_
  refine W.as ?_
  refine W.nil (thn_n ?_)
  refine WC.perm (M' := ((b_s, .cells (List.toArray [.slice sa_c c.length sc_c, .slice sa_u u.length sc_u, .slice sa_z21 ((popL ltI f)).length sc_z21]) 127 (0, 0)) :: (Ms29 ++ (Ms35 ++ (Mf_z21 ++ []))))) (((List.Perm.append_left _ ((List.Perm.append_left _ ((List.Perm.append_left _ (List.Perm.refl _)).trans (List.Perm.refl _))).trans (List.Perm.refl _))).trans (pmA (List.Perm.refl _))).cons _) ?_
  refine WC.ret ?_
  refine ⟨.inr rfl, [_, _], ⟨rfl, rfl, trivial⟩, ((b_s, .cells (List.toArray [.slice sa_c c.length sc_c, .slice sa_u u.length sc_u, .slice sa_z21 ((popL ltI f)).length sc_z21]) 127 (0, 0)) :: (Ms29 ++ (Ms35 ++ (Mf_z21 ++ [])))), (List.Sublist.refl _).cons_cons _, ?_⟩
  have hE := nextA_t (st := (c, u)) (x := x) hlt
  exact ⟨congrArg (fun r : Int × Int => Value.tuple #[.int .i64 r.1, .int .i64 r.2]) (congrArg Prod.fst hE).symm, ArR.cast (st := (c.set (firstN u) x, u.set (firstN u) true)) ⟨_, ⟨_, _, _, _, _, _, rfl, ho30, ho36, hf_z21⟩, (by rw [List.length_set, List.length_set]; exact hcu), (by rw [List.length_set]; exact hn), hh2, hp2⟩ (congrArg Prod.snd hE).symm (by simp)⟩

theorem sfreei_fc {G : GH} {b_s : Nat} {v_c : Value} {c : List Int} {Ms_c : MH} (h_c : OwnR eInt 3 G v_c c Ms_c) {v_u : Value} {u : List Bool} {Ms_u : MH} (h_u : OwnR eBool 4 G v_u u Ms_u) {v_f : Value} {f : List Int} {Ms_f : MH} (h_f : OwnR eInt 3 G v_f f Ms_f) (i : Int) (hcu : c.length = u.length) (hn : u.length ≤ 4096) (hh : Heap ltI f) (hp : f.Perm (freeN u)) (hi : i64 i) :
    Fc Try.prog 25 [.pointer (some ⟨b_s, 0, none⟩), .int .i64 i] G ((b_s, .cells (List.toArray [v_c, v_u, v_f]) 127 (0, 0)) :: (Ms_c ++ (Ms_u ++ (Ms_f)))) (fun v G' M' => v = .int .i64 (freeA (c, u) i (0 : Int)).1 ∧ ArR eInt 3 4 3 127 b_s G' (freeA (c, u) i (0 : Int)).2 M') := by
 obtain ⟨sa_c, sc_c, rfl⟩ := h_c.form
 obtain ⟨sa_u, sc_u, rfl⟩ := h_u.form
 obtain ⟨sa_f, sc_f, rfl⟩ := h_f.form
 have hl := h_u.len47
 have hlc := h_c.len47
 refine Fc.intro (rs := [.tmp 4]) cl25 Try.func25 rfl Try.ntmps25 rfl rfl (fun w0 => ?_)
 refine WC.perm (M' := ((b_s, .cells (List.toArray [.slice sa_c c.length sc_c, .slice sa_u u.length sc_u, .slice sa_f f.length sc_f]) 127 (0, 0)) :: (Ms_c ++ (Ms_u ++ (Ms_f ++ []))))) (by simp) ?_
 refine WC.seq ?_
 refine WC.region ?_
 refine W.as ?_
 refine W.nil (thn_n ?_)
 refine WC.seq ?_
 refine WC.seq ?_
 refine WC.region ?_
 refine W.mv ?_
 refine W.ok (ok_eqlPN pp48 rfl rfl) ?_
 refine W.nil (thn_n ?_)
 refine WC.cond_f rfl rfl ?_
 refine WC.skip (thn_n ?_)
 refine WC.seq ?_
 refine WC.seq ?_
 refine WC.region ?_
 refine W.mv ?_
 refine W.mv ?_
 refine W.call (Mp := ((b_s, .cells (List.toArray [.slice sa_c c.length sc_c, .slice sa_u u.length sc_u, .slice sa_f f.length sc_f]) 127 (0, 0)) :: (Ms_c ++ (Ms_u ++ Ms_f)))) (Mr := []) (shasi_fc h_c h_u h_f _) rfl ((((pmF ((pmF (List.Perm.refl _)).trans (List.Perm.refl _))).trans (List.Perm.refl _)).cons _).trans (List.Perm.refl _)) ?_
 intro v40 G37 Ms39 hG37 q38
 refine match q38 with | ⟨e_41, e_42⟩ => ?_
 subst e_41
 subst e_42
 refine W.perm (M' := ((b_s, .cells (List.toArray [.slice sa_c c.length sc_c, .slice sa_u u.length sc_u, .slice sa_f f.length sc_f]) 127 (0, 0)) :: (Ms_c ++ (Ms_u ++ (Ms_f ++ []))))) ((((pmF ((pmF (List.Perm.refl _)).trans (List.Perm.refl _))).trans (List.Perm.refl _)).cons _).trans (List.Perm.refl _)).symm ?_
 refine W.ok (ok_not rfl) ?_
 refine W.nil (thn_n ?_)
 refine WC.cond (b := _) rfl (fun h11 => ?_) (fun h11 => ?_)
 ·refine WC.seq ?_
  refine WC.region ?_
  refine W.as ?_
  refine W.nil (thn_n ?_)
  refine WC.ret (thn_r ?_)
  refine ⟨.inr rfl, [_], ⟨rfl, trivial⟩, ((b_s, .cells (List.toArray [.slice sa_c c.length sc_c, .slice sa_u u.length sc_u, .slice sa_f f.length sc_f]) 127 (0, 0)) :: (Ms_c ++ (Ms_u ++ (Ms_f ++ [])))), (List.Sublist.refl _).cons_cons _, ?_⟩
  exact ⟨congrArg (Value.int .i64) (congrArg Prod.fst (freeA_f (st := (c, u)) (x := (0 : Int)) (by simpa using h11))).symm, ArR.cast (st := (c, u)) ⟨_, ⟨_, _, _, _, _, _, rfl, (h_c.mono hG37), (h_u.mono hG37), (h_f.mono hG37)⟩, hcu, hn, hh, hp⟩ (congrArg Prod.snd (freeA_f (st := (c, u)) (x := (0 : Int)) (by simpa using h11))).symm (by simp)⟩
 ·have hhi : hasN u i = true := by simpa using h11
  have hil := hasN_lt hhi
  refine WC.skip (thn_n ?_)
  refine WC.seq ?_
  refine WC.region ?_
  refine W.as ?_
  refine W.nil (thn_n ?_)
  refine WC.seq ?_
  refine WC.drawW _ ((List.nil_sublist _).cons_cons _) mix (by rintro _ _ _ _ ⟨h | h, _⟩ <;> cases h) ?_
  refine WD.take 0 rfl rfl rfl (by kernel_rfl) (by kernel_rfl) (by kernel_rfl) (ok_mv) ?_
  refine WD.take 1 rfl rfl rfl (by kernel_rfl) (by kernel_rfl) (by kernel_rfl) (ok_nilP rfl) ?_
  refine WD.take 2 rfl rfl rfl (by kernel_rfl) (by kernel_rfl) (by kernel_rfl) (ok_fieldB fd127_0 rfl) ?_
  refine WD.take 3 rfl rfl rfl (by kernel_rfl) (by kernel_rfl) (by kernel_rfl) (ok_loadB (i := 0) (vs := [.slice _ _ _]) ty30 rfl rfl rfl rfl (by simp)) ?_
  refine WD.take 4 rfl rfl rfl (by kernel_rfl) (by kernel_rfl) (by kernel_rfl) (ok_mv) ?_
  refine WD.take 5 rfl rfl rfl (by kernel_rfl) (by kernel_rfl) (by kernel_rfl) (ok_mv) ?_
  refine WD.take 6 rfl rfl rfl (by kernel_rfl) (by kernel_rfl) (by kernel_rfl) (ok_nilP rfl) ?_
  refine WD.take 7 rfl rfl rfl (by kernel_rfl) (by kernel_rfl) (by kernel_rfl) (ok_fieldB fd127_1 rfl) ?_
  refine WD.take 8 rfl rfl rfl (by kernel_rfl) (by kernel_rfl) (by kernel_rfl) (ok_loadB (i := 0) (vs := [.slice _ _ _]) ty60 rfl rfl rfl rfl (by simp)) ?_
  refine WD.take 9 rfl rfl rfl (by kernel_rfl) (by kernel_rfl) (by kernel_rfl) (ok_mv) ?_
  refine WD.take 10 rfl rfl rfl (by kernel_rfl) (by kernel_rfl) (by kernel_rfl) (ok_mv) ?_
  have q46 := (h_c.mono hG37).at (i := i.toNat) (by omega)
  refine match q46 with | ⟨_, he43, ⟨e_45, hi44⟩⟩ => ?_
  subst e_45
  refine WD.take 11 rfl rfl rfl (by kernel_rfl) (by kernel_rfl) (by kernel_rfl) (ok_indexAddrO (i := i.toNat) sl30 ty3 (h_c.mono hG37) rfl rfl ⟨by omega, by omega⟩) ?_
  refine WD.any [12] (by kernel_rfl) rfl ⟨⟨_, rfl, rfl, ?_⟩, trivial⟩
  refine W.storeO (i := i.toNat) (o := 0) (vs := [.int .i64 _]) (a' := (0 : Int)) ty3 rfl rfl rfl rfl rfl ((h_c.mono hG37)) (pmC (List.Perm.refl _)) (by omega) (by decide) (fun cs h => by rw [h.1]; exact ⟨rfl, ⟨by decide, by decide⟩⟩) (fun Ms47 ho48 => ?_)
  refine W.perm (pmC (List.Perm.refl _)).symm ?_
  refine W.nil ⟨Le.rfl, (List.nil_sublist _).cons_cons _, _, (List.nil_sublist _).cons_cons _, List.Sublist.refl _, ?_⟩
  have q52 := (h_u.mono hG37).at (i := i.toNat) (by omega)
  refine match q52 with | ⟨_, he49, e_51⟩ => ?_
  subst e_51
  refine WD.take 13 rfl rfl rfl (by kernel_rfl) (by kernel_rfl) (by kernel_rfl) (ok_indexAddrO (i := i.toNat) sl60 ty4 (h_u.mono hG37) rfl rfl ⟨by omega, by omega⟩) ?_
  refine WD.any [14] (by kernel_rfl) rfl ⟨⟨_, rfl, rfl, ?_⟩, trivial⟩
  refine W.storeO (i := i.toNat) (o := 0) (vs := [.bool _]) (a' := false) ty4 rfl rfl rfl rfl rfl ((h_u.mono hG37)) (pmC (pmA (List.Perm.refl _))) (by omega) (by decide) (fun cs h => by rw [h]; rfl) (fun Ms53 ho54 => ?_)
  refine W.perm (pmC (List.Perm.refl _)).symm ?_
  refine W.nil ⟨Le.rfl, (List.nil_sublist _).cons_cons _, _, (List.nil_sublist _).cons_cons _, List.Sublist.refl _, ?_⟩
  refine WD.done (by kernel_rfl) (thn_n ?_)
  refine WC.seq ?_
  refine WC.region ?_
  refine W.mv ?_
  refine W.ok (ok_nilP rfl) ?_
  refine W.ok (ok_fieldB fd127_2 rfl) ?_
  refine W.ok (ok_mkI pi129 rfl) ?_
  refine W.mv ?_
  refine W.ok (ok_mkI pi3 rfl) ?_
  refine W.call (Mp := ((b_s, .cells (List.toArray [.slice sa_c c.length sc_c, .slice sa_u u.length sc_u, .slice sa_f f.length sc_f]) 127 (0, 0)) :: Ms_f)) (Mr := (Ms53 ++ (Ms47 ++ []))) (hpush_fc (least_heap (b := b_s) (Tb := 127) (c0 := .slice sa_c c.length sc_c) (c1 := .slice sa_u u.length sc_u)) ⟨_, _, rfl, (h_f.mono hG37)⟩ (a := i) ⟨rfl, hi⟩ (by have := hp.length_eq; have := free_used u; omega) (fun hl h => h)) rfl (((pmA (pmA (List.Perm.refl _))).cons _).trans (List.Perm.refl _)) ?_
  intro v58 G55 Ms57 hG55 q56
  refine match q56 with | ⟨e_60, ⟨vf_z59, Mf_z59, e_61, hf_z59⟩⟩ => ?_
  subst e_60
  subst e_61
  have q63 := hf_z59.form
  refine match q63 with | ⟨sa_z59, sc_z59, e_62⟩ => ?_
  subst e_62
  refine W.perm (M' := ((b_s, .cells (List.toArray [.slice sa_c c.length sc_c, .slice sa_u u.length sc_u, .slice sa_z59 ((pushL ltI f i)).length sc_z59]) 127 (0, 0)) :: (Mf_z59 ++ (Ms53 ++ (Ms47 ++ []))))) (((List.Perm.refl _).cons _).trans (List.Perm.refl _)).symm ?_
  refine W.nil (thn_n ?_)
  refine WC.seq ?_
  refine WC.region ?_
  refine W.as ?_
  refine W.nil (thn_n ?_)
  refine WC.perm (M' := ((b_s, .cells (List.toArray [.slice sa_c c.length sc_c, .slice sa_u u.length sc_u, .slice sa_z59 ((pushL ltI f i)).length sc_z59]) 127 (0, 0)) :: (Ms47 ++ (Ms53 ++ (Mf_z59 ++ []))))) (((List.Perm.append_left _ ((List.Perm.append_left _ ((List.Perm.append_left _ (List.Perm.refl _)).trans (List.Perm.refl _))).trans (pmA (List.Perm.refl _)))).trans (pmA (pmA (List.Perm.refl _)))).cons _) ?_
  refine WC.ret ?_
  refine ⟨.inr rfl, [_], ⟨rfl, trivial⟩, ((b_s, .cells (List.toArray [.slice sa_c c.length sc_c, .slice sa_u u.length sc_u, .slice sa_z59 ((pushL ltI f i)).length sc_z59]) 127 (0, 0)) :: (Ms47 ++ (Ms53 ++ (Mf_z59 ++ [])))), (List.Sublist.refl _).cons_cons _, ?_⟩
  exact ⟨congrArg (Value.int .i64) (congrArg Prod.fst (freeA_t (st := (c, u)) (x := (0 : Int)) (by simpa using h11))).symm, ArR.cast (st := (c.set i.toNat (0 : Int), u.set i.toNat false)) ⟨_, ⟨_, _, _, _, _, _, rfl, (ho48.mono hG55), (ho54.mono hG55), hf_z59⟩, (by rw [List.length_set, List.length_set]; exact hcu), (by rw [List.length_set]; exact hn), (give_back' hh hp hhi).1, (give_back' hh hp hhi).2⟩ (congrArg Prod.snd (freeA_t (st := (c, u)) (x := (0 : Int)) (by simpa using h11))).symm (by simp)⟩

theorem sgeti_fc {G : GH} {b_s : Nat} {v_c : Value} {c : List Int} {Ms_c : MH} (h_c : OwnR eInt 3 G v_c c Ms_c) {v_u : Value} {u : List Bool} {Ms_u : MH} (h_u : OwnR eBool 4 G v_u u Ms_u) {v_f : Value} {f : List Int} {Ms_f : MH} (h_f : OwnR eInt 3 G v_f f Ms_f) (i : Int) (hcu : c.length = u.length) :
    Fc Try.prog 30 [.pointer (some ⟨b_s, 0, none⟩), .int .i64 i] G ((b_s, .cells (List.toArray [v_c, v_u, v_f]) 127 (0, 0)) :: (Ms_c ++ (Ms_u ++ (Ms_f)))) (fun v G' M' => v = .tuple #[.int .i64 (getA (c, u) i 0), .bool (hasN u i)] ∧ M' = (b_s, .cells (List.toArray [v_c, v_u, v_f]) 127 (0, 0)) :: (Ms_c ++ (Ms_u ++ Ms_f))) := by
 obtain ⟨sa_c, sc_c, rfl⟩ := h_c.form
 obtain ⟨sa_u, sc_u, rfl⟩ := h_u.form
 obtain ⟨sa_f, sc_f, rfl⟩ := h_f.form
 have hl := h_u.len47
 have hlc := h_c.len47
 refine Fc.intro (rs := [.tmp 4, .tmp 5]) cl30 Try.func30 rfl Try.ntmps30 rfl rfl (fun w0 => ?_)
 refine WC.perm (M' := ((b_s, .cells (List.toArray [.slice sa_c c.length sc_c, .slice sa_u u.length sc_u, .slice sa_f f.length sc_f]) 127 (0, 0)) :: (Ms_c ++ (Ms_u ++ (Ms_f ++ []))))) (by simp) ?_
 refine WC.seq ?_
 refine WC.region ?_
 refine W.as ?_
 refine W.as ?_
 refine W.nil (thn_n ?_)
 refine WC.seq ?_
 refine WC.seq ?_
 refine WC.region ?_
 refine W.mv ?_
 refine W.mv ?_
 refine W.call (Mp := ((b_s, .cells (List.toArray [.slice sa_c c.length sc_c, .slice sa_u u.length sc_u, .slice sa_f f.length sc_f]) 127 (0, 0)) :: (Ms_c ++ (Ms_u ++ Ms_f)))) (Mr := []) (shasi_fc h_c h_u h_f _) rfl ((((pmF ((pmF (List.Perm.refl _)).trans (List.Perm.refl _))).trans (List.Perm.refl _)).cons _).trans (List.Perm.refl _)) ?_
 intro v67 G64 Ms66 hG64 q65
 refine match q65 with | ⟨e_68, e_69⟩ => ?_
 subst e_68
 subst e_69
 refine W.perm (M' := ((b_s, .cells (List.toArray [.slice sa_c c.length sc_c, .slice sa_u u.length sc_u, .slice sa_f f.length sc_f]) 127 (0, 0)) :: (Ms_c ++ (Ms_u ++ (Ms_f ++ []))))) ((((pmF ((pmF (List.Perm.refl _)).trans (List.Perm.refl _))).trans (List.Perm.refl _)).cons _).trans (List.Perm.refl _)).symm ?_
 refine W.ok (ok_not rfl) ?_
 refine W.nil (thn_n ?_)
 refine WC.cond (b := _) rfl (fun h9 => ?_) (fun h9 => ?_)
 ·have hhi : hasN u i = false := by simpa using h9
  refine WC.seq ?_
  refine WC.region ?_
  refine W.mv ?_
  refine W.as ?_
  refine W.as ?_
  refine W.nil (thn_n ?_)
  refine WC.ret (thn_r ?_)
  refine ⟨.inr rfl, [_, _], ⟨rfl, rfl, trivial⟩, ((b_s, .cells (List.toArray [.slice sa_c c.length sc_c, .slice sa_u u.length sc_u, .slice sa_f f.length sc_f]) 127 (0, 0)) :: (Ms_c ++ (Ms_u ++ (Ms_f ++ [])))), (List.Sublist.refl _).cons_cons _, ?_⟩
  exact ⟨by rw [hhi, getA_f (st := (c, u)) hhi]; rfl, by simp⟩
 ·have hhi : hasN u i = true := by simpa using h9
  have hil := hasN_lt hhi
  refine WC.skip (thn_n ?_)
  refine WC.seq ?_
  refine WC.region ?_
  refine W.mv ?_
  refine W.ok (ok_nilP rfl) ?_
  refine W.ok (ok_fieldB fd127_0 rfl) ?_
  refine W.ok (ok_loadB (i := 0) (vs := [.slice _ _ _]) ty30 rfl rfl rfl rfl (by simp)) ?_
  refine W.mv ?_
  have q73 := (h_c.mono hG64).at (i := i.toNat) (by omega)
  refine match q73 with | ⟨_, he70, ⟨e_72, hi71⟩⟩ => ?_
  subst e_72
  refine W.ok (ok_indexAddrO (i := i.toNat) sl30 ty3 (h_c.mono hG64) rfl rfl ⟨by omega, by omega⟩) ?_
  refine W.ok (ok_loadO (vs := [.int .i64 _]) ty3 he70 (pmC (List.Perm.refl _)) rfl rfl rfl (by simp)) ?_
  refine W.as ?_
  refine W.as ?_
  refine W.nil (thn_n ?_)
  refine WC.ret ?_
  refine ⟨.inr rfl, [_, _], ⟨rfl, rfl, trivial⟩, ((b_s, .cells (List.toArray [.slice sa_c c.length sc_c, .slice sa_u u.length sc_u, .slice sa_f f.length sc_f]) 127 (0, 0)) :: (Ms_c ++ (Ms_u ++ (Ms_f ++ [])))), (List.Sublist.refl _).cons_cons _, ?_⟩
  exact ⟨by rw [hhi, getA_t (st := (c, u)) hhi (by show _ < c.length; omega)]; rfl, by simp⟩

theorem susedi_fc {G : GH} {b_s : Nat} {v_c : Value} {c : List Int} {Ms_c : MH} (h_c : OwnR eInt 3 G v_c c Ms_c) {v_u : Value} {u : List Bool} {Ms_u : MH} (h_u : OwnR eBool 4 G v_u u Ms_u) {v_f : Value} {f : List Int} {Ms_f : MH} (h_f : OwnR eInt 3 G v_f f Ms_f) (hcu : c.length = u.length) (hn : u.length ≤ 4096) (hh : Heap ltI f) (hp : f.Perm (freeN u)) :
    Fc Try.prog 33 [.pointer (some ⟨b_s, 0, none⟩)] G ((b_s, .cells (List.toArray [v_c, v_u, v_f]) 127 (0, 0)) :: (Ms_c ++ (Ms_u ++ (Ms_f)))) (fun v G' M' => v = .int .i64 ((usedN u).length : Int) ∧ M' = (b_s, .cells (List.toArray [v_c, v_u, v_f]) 127 (0, 0)) :: (Ms_c ++ (Ms_u ++ Ms_f))) := by
 obtain ⟨sa_c, sc_c, rfl⟩ := h_c.form
 obtain ⟨sa_u, sc_u, rfl⟩ := h_u.form
 obtain ⟨sa_f, sc_f, rfl⟩ := h_f.form
 have hl := h_u.len47
 have hlf := h_f.len47
 have hfu := free_used u
 have hpl := hp.length_eq
 refine Fc.intro (rs := [.tmp 2]) cl33 Try.func33 rfl Try.ntmps33 rfl rfl (fun w0 => ?_)
 refine WC.perm (M' := ((b_s, .cells (List.toArray [.slice sa_c c.length sc_c, .slice sa_u u.length sc_u, .slice sa_f f.length sc_f]) 127 (0, 0)) :: (Ms_c ++ (Ms_u ++ (Ms_f ++ []))))) (by simp) ?_
 refine WC.seq ?_
 refine WC.region ?_
 refine W.as ?_
 refine W.nil (thn_n ?_)
 refine WC.seq ?_
 refine WC.seq ?_
 refine WC.region ?_
 refine W.mv ?_
 refine W.ok (ok_eqlPN pp48 rfl rfl) ?_
 refine W.nil (thn_n ?_)
 refine WC.cond_f rfl rfl ?_
 refine WC.skip (thn_n ?_)
 refine WC.seq ?_
 refine WC.draw mix (by kernel_rfl) ?_
 refine W.mv ?_
 refine W.ok (ok_nilP rfl) ?_
 refine W.ok (ok_fieldB fd127_1 rfl) ?_
 refine W.ok (ok_loadB (i := 0) (vs := [.slice _ _ _]) ty60 rfl rfl rfl rfl (by simp)) ?_
 refine W.ok (ok_lenO sl60 h_u rfl) ?_
 refine W.mv ?_
 refine W.ok (ok_nilP rfl) ?_
 refine W.ok (ok_fieldB fd127_2 rfl) ?_
 refine W.ok (ok_loadB (i := 0) (vs := [.slice _ _ _]) ty125 rfl rfl rfl rfl (by simp)) ?_
 refine W.ok (ok_lenO sl125 h_f rfl) ?_
 refine W.ok (ok_sub rfl rfl (by omega)) ?_
 refine W.as ?_
 refine W.nil (thn_n ?_)
 refine WC.ret ?_
 refine ⟨.inr rfl, [_], ⟨rfl, trivial⟩, ((b_s, .cells (List.toArray [.slice sa_c c.length sc_c, .slice sa_u u.length sc_u, .slice sa_f f.length sc_f]) 127 (0, 0)) :: (Ms_c ++ (Ms_u ++ (Ms_f ++ [])))), (List.Sublist.refl _).cons_cons _, ?_⟩
 exact ⟨congrArg (Value.int .i64) (by omega), by simp⟩

theorem sroomi_fc {G : GH} {b_s : Nat} {v_c : Value} {c : List Int} {Ms_c : MH} (h_c : OwnR eInt 3 G v_c c Ms_c) {v_u : Value} {u : List Bool} {Ms_u : MH} (h_u : OwnR eBool 4 G v_u u Ms_u) {v_f : Value} {f : List Int} {Ms_f : MH} (h_f : OwnR eInt 3 G v_f f Ms_f) (hcu : c.length = u.length) (hn : u.length ≤ 4096) (hh : Heap ltI f) (hp : f.Perm (freeN u)) :
    Fc Try.prog 34 [.pointer (some ⟨b_s, 0, none⟩)] G ((b_s, .cells (List.toArray [v_c, v_u, v_f]) 127 (0, 0)) :: (Ms_c ++ (Ms_u ++ (Ms_f)))) (fun v G' M' => v = .int .i64 ((freeN u).length : Int) ∧ M' = (b_s, .cells (List.toArray [v_c, v_u, v_f]) 127 (0, 0)) :: (Ms_c ++ (Ms_u ++ Ms_f))) := by
 obtain ⟨sa_c, sc_c, rfl⟩ := h_c.form
 obtain ⟨sa_u, sc_u, rfl⟩ := h_u.form
 obtain ⟨sa_f, sc_f, rfl⟩ := h_f.form
 have hl := h_u.len47
 have hlf := h_f.len47
 have hfu := free_used u
 have hpl := hp.length_eq
 refine Fc.intro (rs := [.tmp 2]) cl34 Try.func34 rfl Try.ntmps34 rfl rfl (fun w0 => ?_)
 refine WC.perm (M' := ((b_s, .cells (List.toArray [.slice sa_c c.length sc_c, .slice sa_u u.length sc_u, .slice sa_f f.length sc_f]) 127 (0, 0)) :: (Ms_c ++ (Ms_u ++ (Ms_f ++ []))))) (by simp) ?_
 refine WC.seq ?_
 refine WC.region ?_
 refine W.as ?_
 refine W.nil (thn_n ?_)
 refine WC.seq ?_
 refine WC.seq ?_
 refine WC.region ?_
 refine W.mv ?_
 refine W.ok (ok_eqlPN pp48 rfl rfl) ?_
 refine W.nil (thn_n ?_)
 refine WC.cond_f rfl rfl ?_
 refine WC.skip (thn_n ?_)
 refine WC.seq ?_
 refine WC.region ?_
 refine W.mv ?_
 refine W.ok (ok_nilP rfl) ?_
 refine W.ok (ok_fieldB fd127_2 rfl) ?_
 refine W.ok (ok_loadB (i := 0) (vs := [.slice _ _ _]) ty125 rfl rfl rfl rfl (by simp)) ?_
 refine W.ok (ok_lenO sl125 h_f rfl) ?_
 refine W.as ?_
 refine W.nil (thn_n ?_)
 refine WC.ret ?_
 refine ⟨.inr rfl, [_], ⟨rfl, trivial⟩, ((b_s, .cells (List.toArray [.slice sa_c c.length sc_c, .slice sa_u u.length sc_u, .slice sa_f f.length sc_f]) 127 (0, 0)) :: (Ms_c ++ (Ms_u ++ (Ms_f ++ [])))), (List.Sublist.refl _).cons_cons _, ?_⟩
 exact ⟨congrArg (Value.int .i64) (by omega), by simp⟩

theorem slisti_fc {G : GH} {b_s : Nat} {v_c : Value} {c : List Int} {Ms_c : MH} (h_c : OwnR eInt 3 G v_c c Ms_c) {v_u : Value} {u : List Bool} {Ms_u : MH} (h_u : OwnR eBool 4 G v_u u Ms_u) {v_f : Value} {f : List Int} {Ms_f : MH} (h_f : OwnR eInt 3 G v_f f Ms_f) (hcu : c.length = u.length) (hn : u.length ≤ 4096) (hh : Heap ltI f) (hp : f.Perm (freeN u)) :
    Fc Try.prog 32 [.pointer (some ⟨b_s, 0, none⟩)] G ((b_s, .cells (List.toArray [v_c, v_u, v_f]) 127 (0, 0)) :: (Ms_c ++ (Ms_u ++ (Ms_f)))) (fun v G' M' => SlR eInt G' v (usedN u) ∧ M' = (b_s, .cells (List.toArray [v_c, v_u, v_f]) 127 (0, 0)) :: (Ms_c ++ (Ms_u ++ Ms_f))) := by
 obtain ⟨sa_c, sc_c, rfl⟩ := h_c.form
 obtain ⟨sa_u, sc_u, rfl⟩ := h_u.form
 obtain ⟨sa_f, sc_f, rfl⟩ := h_f.form
 have hl := h_u.len47
 have hlf := h_f.len47
 have hfu := free_used u
 have hpl := hp.length_eq
 refine Fc.intro (rs := [.tmp 2]) cl32 Try.func32 rfl Try.ntmps32 rfl rfl (fun w0 => ?_)
 refine WC.perm (M' := ((b_s, .cells (List.toArray [.slice sa_c c.length sc_c, .slice sa_u u.length sc_u, .slice sa_f f.length sc_f]) 127 (0, 0)) :: (Ms_c ++ (Ms_u ++ (Ms_f ++ []))))) (by simp) ?_
 refine WC.seq ?_
 refine WC.region ?_
 refine W.as ?_
 refine W.nil (thn_n ?_)
 refine WC.seq ?_
 refine WC.region ?_
 refine W.as ?_
 refine W.nil (thn_n ?_)
 refine WC.seq ?_
 refine WC.seq ?_
 refine WC.region ?_
 refine W.mv ?_
 refine W.ok (ok_neqPN pp48 rfl rfl) ?_
 refine W.nil (thn_n ?_)
 refine WC.cond_t rfl rfl ?_
 refine WC.seq ?_
 refine WC.region ?_
 refine W.mv ?_
 refine W.ok (ok_nilP rfl) ?_
 refine W.ok (ok_fieldB fd127_1 rfl) ?_
 refine W.ok (ok_loadB (i := 0) (vs := [.slice _ _ _]) ty60 rfl rfl rfl rfl (by simp)) ?_
 refine W.ok (ok_lenO sl60 h_u rfl) ?_
 refine W.mv ?_
 refine W.nil (thn_n ?_)
 refine WC.block ?_
 refine WC.loop (X := (Nat) × Value × MH) (fun k => [(13, .int .i64 ((k.1 : Nat) : Int)), (11, .slice sa_u u.length sc_u), (12, .int .i64 (((u).length : Nat) : Int)), (3, k.2.1)]) (fun k G Ml => Ml = ((b_s, .cells (List.toArray [.slice sa_c c.length sc_c, .slice sa_u u.length sc_u, .slice sa_f f.length sc_f]) 127 (0, 0)) :: (k.2.2 ++ (Ms_c ++ (Ms_u ++ (Ms_f ++ []))))) ∧ OwnR eInt 3 G k.2.1 (usedK u k.1) k.2.2 ∧ k.1 ≤ u.length) (fun k => u.length - k.1) (0, .slice none 0 0, ([] : MH)) ⟨(by first | rfl | exact iv (by dsimp only; omega) | exact iv (by omega)), (by first | rfl | exact iv (by dsimp only; omega) | exact iv (by omega)), (by first | rfl | exact iv (by dsimp only; omega) | exact iv (by omega)), (by first | rfl | exact iv (by dsimp only; omega) | exact iv (by omega)), trivial⟩ ?_ ?_
 ·exact ⟨rfl, (by exact OwnR.nil), by omega⟩
 ·rintro ⟨k, v_3, M_3⟩ gG74 G74 _ hG74 ⟨rfl, ho_3, hk⟩
  try dsimp only at ho_3 hk
  have hkl := usedK_len u k
  refine WC.fr (f := setL gG74 [(13, .int .i64 ((k : Nat) : Int)), (11, .slice sa_u u.length sc_u), (12, .int .i64 (((u).length : Nat) : Int)), (3, v_3)]) rfl ?_
  refine WC.seq ?_
  refine WC.region ?_
  refine W.ok (ok_lss rfl rfl) ?_
  refine W.nil (thn_n ?_)
  refine WC.seq ?_
  refine WC.cond (b := _) rfl (fun h14 => ?_) (fun h14 => ?_)
  ·have p14 := of_decide_eq_true h14
   refine WC.skip (thn_n ?_)
   refine WC.seq ?_
   refine WC.block ?_
   refine WC.seq ?_
   refine WC.region ?_
   refine W.mv ?_
   have q78 := (h_u.mono hG74).at (i := k) (by omega)
   refine match q78 with | ⟨_, he75, e_77⟩ => ?_
   subst e_77
   refine W.ok (ok_indexAddrO (i := k) sl60 ty4 (h_u.mono hG74) rfl rfl ⟨by omega, by omega⟩) ?_
   refine W.ok (ok_loadO (vs := [.bool _]) ty4 he75 (pmC (pmA (pmA (List.Perm.refl _)))) rfl rfl rfl (by simp)) ?_
   refine W.as ?_
   refine W.as ?_
   refine W.nil (thn_n ?_)
   refine WC.seq ?_
   refine WC.region ?_
   refine W.mv ?_
   refine W.nil (thn_n ?_)
   refine WC.cond (b := _) rfl (fun he76 => ?_) (fun he76 => ?_)
   ·refine WC.region ?_
    refine W.mv ?_
    refine W.mv ?_
    refine W.lit (e := eInt) (l := [_]) (css := [[.int .i64 _]]) sl30 ty3 zr3 rfl rfl rfl rfl rfl rfl ⟨⟨rfl, by omega, by omega⟩, trivial⟩ (fun bl79 G79 hG79 hv79 => ?_)
    refine W.app (e := eInt) sl30 ty3 zr3 rfl by3 rfl rfl ((ho_3.mono hG79)) (hv79) (pmC (List.Perm.refl _)) (by show (_ + 1) * 8 ≤ _; omega) (fun v80 Ms81 ho82 => ?_)
    refine W.perm (pmC (List.Perm.refl _)).symm ?_
    have q86 := ho82.form
    refine match q86 with | ⟨sa83, sc84, e_85⟩ => ?_
    subst e_85
    refine W.as ?_
    refine W.nil (blk_n (thn_n ?_))
    refine WC.region ?_
    refine W.ok (ok_add rfl rfl (by omega)) ?_
    refine W.mv ?_
    refine W.nil (thn_n ?_)
    exact ⟨hG79, (k + 1, .slice sa83 ((usedK u k ++ _)).length sc84, Ms81), ⟨(by first | rfl | exact iv (by dsimp only; omega) | exact iv (by omega)), (by first | rfl | exact iv (by dsimp only; omega) | exact iv (by omega)), (by first | rfl | exact iv (by dsimp only; omega) | exact iv (by omega)), (by first | rfl | exact iv (by dsimp only; omega) | exact iv (by omega)), trivial⟩, ⟨rfl, (by have h := ho82; rw [usedK_t (by omega) he76]; exact h), by omega⟩, by omega⟩
   ·refine WC.skip (blk_n (thn_n ?_))
    refine WC.region ?_
    refine W.ok (ok_add rfl rfl (by omega)) ?_
    refine W.mv ?_
    refine W.nil (thn_n ?_)
    exact ⟨Le.rfl, (k + 1, v_3, M_3), ⟨(by first | rfl | exact iv (by dsimp only; omega) | exact iv (by omega)), (by first | rfl | exact iv (by dsimp only; omega) | exact iv (by omega)), (by first | rfl | exact iv (by dsimp only; omega) | exact iv (by omega)), (by first | rfl | exact iv (by dsimp only; omega) | exact iv (by omega)), trivial⟩, ⟨rfl, (by have h := ho_3; rw [usedK_f (by omega) he76]; exact h), by omega⟩, by omega⟩
  ·have p14 := of_decide_eq_false h14
   refine WC.exit (thn_x (thn_x (blk_h (thn_n ?_))))
   refine WC.seq ?_
   refine WC.region ?_
   refine W.mv ?_
   refine W.as ?_
   refine W.nil (thn_n ?_)
   refine WC.giveO ho_3 (pmC (List.Perm.refl _)) (fun G87 hG87 hv87 => ?_)
   refine WC.ret ?_
   refine ⟨.inr rfl, [_], ⟨rfl, trivial⟩, ((b_s, .cells (List.toArray [.slice sa_c c.length sc_c, .slice sa_u u.length sc_u, .slice sa_f f.length sc_f]) 127 (0, 0)) :: (Ms_c ++ (Ms_u ++ (Ms_f ++ [])))), (List.Sublist.refl _).cons_cons _, ?_⟩
   exact ⟨SlR.cast hv87 (by rw [used_eq]; congr 1; omega), by simp⟩

theorem shasn_fc {G : GH} {b_s : Nat} {v_c : Value} {c : List Nd} {Ms_c : MH} (h_c : OwnR eNode 35 G v_c c Ms_c) {v_u : Value} {u : List Bool} {Ms_u : MH} (h_u : OwnR eBool 4 G v_u u Ms_u) {v_f : Value} {f : List Int} {Ms_f : MH} (h_f : OwnR eInt 3 G v_f f Ms_f) (i : Int) :
    Fc Try.prog 141 [.pointer (some ⟨b_s, 0, none⟩), .int .i64 i] G ((b_s, .cells (List.toArray [v_c, v_u, v_f]) 207 (0, 0)) :: (Ms_c ++ (Ms_u ++ (Ms_f)))) (fun v G' M' => v = .bool (hasN u i) ∧ M' = (b_s, .cells (List.toArray [v_c, v_u, v_f]) 207 (0, 0)) :: (Ms_c ++ (Ms_u ++ Ms_f))) := by
 obtain ⟨sa_c, sc_c, rfl⟩ := h_c.form
 obtain ⟨sa_u, sc_u, rfl⟩ := h_u.form
 obtain ⟨sa_f, sc_f, rfl⟩ := h_f.form
 have hl := h_u.len47
 refine Fc.intro (rs := [.tmp 4]) cl141 Try.func141 rfl Try.ntmps141 rfl rfl (fun w0 => ?_)
 refine WC.perm (M' := ((b_s, .cells (List.toArray [.slice sa_c c.length sc_c, .slice sa_u u.length sc_u, .slice sa_f f.length sc_f]) 207 (0, 0)) :: (Ms_c ++ (Ms_u ++ (Ms_f ++ []))))) (by simp) ?_
 refine WC.seq ?_
 refine WC.region ?_
 refine W.as ?_
 refine W.nil (thn_n ?_)
 refine WC.seq ?_
 refine WC.region ?_
 refine W.mv ?_
 refine W.ok (ok_neqPN pp151 rfl rfl) ?_
 refine W.mv ?_
 refine W.yes (dj := 7) rfl rfl rfl ?_
 refine W.mv ?_
 refine W.yes (dj := 7) rfl rfl rfl ?_
 refine W.ok (ok_geq rfl rfl) ?_
 refine W.ok (ok_pick_t rfl rfl) ?_
 refine W.mv ?_
 refine W.sp 11 rfl (fun h9 => ?_) (fun h9 => ?_)
 ·have p9 := of_decide_eq_true h9
  refine W.yes (dj := 11) rfl rfl h9 ?_
  refine W.mv ?_
  refine W.yes (dj := 11) rfl rfl h9 ?_
  refine W.mv ?_
  refine W.yes (dj := 11) rfl rfl h9 ?_
  refine W.ok (ok_nilP rfl) ?_
  refine W.yes (dj := 11) rfl rfl h9 ?_
  refine W.ok (ok_fieldB fd207_1 rfl) ?_
  refine W.yes (dj := 11) rfl rfl h9 ?_
  refine W.ok (ok_loadB (i := 0) (vs := [.slice _ _ _]) ty60 rfl rfl rfl rfl (by simp)) ?_
  refine W.yes (dj := 11) rfl rfl h9 ?_
  refine W.ok (ok_lenO sl60 h_u rfl) ?_
  refine W.yes (dj := 11) rfl rfl h9 ?_
  refine W.ok (ok_lss rfl rfl) ?_
  refine W.ok (ok_pick_t rfl h9) ?_
  refine W.mv ?_
  refine W.sp 20 rfl (fun h18 => ?_) (fun h18 => ?_)
  ·have p18 := of_decide_eq_true h18
   refine W.yes (dj := 20) rfl rfl h18 ?_
   refine W.mv ?_
   refine W.yes (dj := 20) rfl rfl h18 ?_
   refine W.ok (ok_nilP rfl) ?_
   refine W.yes (dj := 20) rfl rfl h18 ?_
   refine W.ok (ok_fieldB fd207_1 rfl) ?_
   refine W.yes (dj := 20) rfl rfl h18 ?_
   refine W.ok (ok_loadB (i := 0) (vs := [.slice _ _ _]) ty60 rfl rfl rfl rfl (by simp)) ?_
   refine W.yes (dj := 20) rfl rfl h18 ?_
   refine W.mv ?_
   refine W.yes (dj := 20) rfl rfl h18 ?_
   have q91 := h_u.at (i := i.toNat) (by omega)
   refine match q91 with | ⟨_, he88, e_90⟩ => ?_
   subst e_90
   refine W.ok (ok_indexAddrO (i := i.toNat) sl60 ty4 h_u rfl rfl ⟨by omega, by omega⟩) ?_
   refine W.yes (dj := 20) rfl rfl h18 ?_
   refine W.ok (ok_loadO (vs := [.bool _]) ty4 he88 (pmC (pmA (List.Perm.refl _))) rfl rfl rfl (by simp)) ?_
   refine W.ok (ok_pick_t rfl h18) ?_
   refine W.as ?_
   refine W.nil (thn_n ?_)
   refine WC.ret ?_
   refine ⟨.inr rfl, [_], ⟨rfl, trivial⟩, ((b_s, .cells (List.toArray [.slice sa_c c.length sc_c, .slice sa_u u.length sc_u, .slice sa_f f.length sc_f]) 207 (0, 0)) :: (Ms_c ++ (Ms_u ++ (Ms_f ++ [])))), (List.Sublist.refl _).cons_cons _, ?_⟩
   exact ⟨congrArg Value.bool (hasN_get (by omega) (by omega)), by simp⟩
  ·have p18 := of_decide_eq_false h18
   refine W.no (dj := 20) rfl rfl h18 ?_
   refine W.no (dj := 20) rfl rfl h18 ?_
   refine W.no (dj := 20) rfl rfl h18 ?_
   refine W.no (dj := 20) rfl rfl h18 ?_
   refine W.no (dj := 20) rfl rfl h18 ?_
   refine W.no (dj := 20) rfl rfl h18 ?_
   refine W.no (dj := 20) rfl rfl h18 ?_
   refine W.ok (ok_pick_f rfl h18) ?_
   refine W.as ?_
   refine W.nil (thn_n ?_)
   refine WC.ret ?_
   refine ⟨.inr rfl, [_], ⟨rfl, trivial⟩, ((b_s, .cells (List.toArray [.slice sa_c c.length sc_c, .slice sa_u u.length sc_u, .slice sa_f f.length sc_f]) 207 (0, 0)) :: (Ms_c ++ (Ms_u ++ (Ms_f ++ [])))), (List.Sublist.refl _).cons_cons _, ?_⟩
   exact ⟨congrArg Value.bool (hasN_big (by omega)), by simp⟩
 ·have p9 := of_decide_eq_false h9
  refine W.no (dj := 11) rfl rfl h9 ?_
  refine W.no (dj := 11) rfl rfl h9 ?_
  refine W.no (dj := 11) rfl rfl h9 ?_
  refine W.no (dj := 11) rfl rfl h9 ?_
  refine W.no (dj := 11) rfl rfl h9 ?_
  refine W.no (dj := 11) rfl rfl h9 ?_
  refine W.no (dj := 11) rfl rfl h9 ?_
  refine W.ok (ok_pick_f rfl h9) ?_
  refine W.mv ?_
  refine W.no (dj := 20) rfl rfl rfl ?_
  refine W.no (dj := 20) rfl rfl rfl ?_
  refine W.no (dj := 20) rfl rfl rfl ?_
  refine W.no (dj := 20) rfl rfl rfl ?_
  refine W.no (dj := 20) rfl rfl rfl ?_
  refine W.no (dj := 20) rfl rfl rfl ?_
  refine W.no (dj := 20) rfl rfl rfl ?_
  refine W.ok (ok_pick_f rfl rfl) ?_
  refine W.as ?_
  refine W.nil (thn_n ?_)
  refine WC.ret ?_
  refine ⟨.inr rfl, [_], ⟨rfl, trivial⟩, ((b_s, .cells (List.toArray [.slice sa_c c.length sc_c, .slice sa_u u.length sc_u, .slice sa_f f.length sc_f]) 207 (0, 0)) :: (Ms_c ++ (Ms_u ++ (Ms_f ++ [])))), (List.Sublist.refl _).cons_cons _, ?_⟩
  exact ⟨congrArg Value.bool (hasN_neg (by omega)), by simp⟩

theorem ssetn_fc {G : GH} {b_s : Nat} {v_c : Value} {c : List Nd} {Ms_c : MH} (h_c : OwnR eNode 35 G v_c c Ms_c) {v_u : Value} {u : List Bool} {Ms_u : MH} (h_u : OwnR eBool 4 G v_u u Ms_u) {v_f : Value} {f : List Int} {Ms_f : MH} (h_f : OwnR eInt 3 G v_f f Ms_f) (i : Int) {cs_x : List Value} {x : Nd} (h_x : NodeC G cs_x x) (hcu : c.length = u.length) (hn : u.length ≤ 4096) (hh : Heap ltI f) (hp : f.Perm (freeN u)) :
    Fc Try.prog 103 [.pointer (some ⟨b_s, 0, none⟩), .int .i64 i, .agg (List.toArray cs_x)] G ((b_s, .cells (List.toArray [v_c, v_u, v_f]) 207 (0, 0)) :: (Ms_c ++ (Ms_u ++ (Ms_f)))) (fun v G' M' => v = .int .i64 (layA (c, u) i x).1 ∧ ArR eNode 35 4 3 207 b_s G' (layA (c, u) i x).2 M') := by
 obtain ⟨pa_x, pc_x, ka_x, kc_x, ma_x, mc_x, ra_x, rc_x, rfl, hp_x, hk_x, hm_x, hr_x, hok_x⟩ := h_x
 obtain ⟨sa_c, sc_c, rfl⟩ := h_c.form
 obtain ⟨sa_u, sc_u, rfl⟩ := h_u.form
 obtain ⟨sa_f, sc_f, rfl⟩ := h_f.form
 have hl := h_u.len47
 have hlc := h_c.len47
 refine Fc.intro (rs := [.tmp 6]) cl103 Try.func103 rfl Try.ntmps103 rfl rfl (fun w0 => ?_)
 refine WC.perm (M' := ((b_s, .cells (List.toArray [.slice sa_c c.length sc_c, .slice sa_u u.length sc_u, .slice sa_f f.length sc_f]) 207 (0, 0)) :: (Ms_c ++ (Ms_u ++ (Ms_f ++ []))))) (by simp) ?_
 refine WC.seq ?_
 refine WC.region ?_
 refine W.box (L := [.int .i64 _, .int .i64 _, .slice _ _ _, .slice _ _ _, .string _, .bool _, .int .i64 _, .int .i64 _, .slice _ _ _, .slice _ _ _]) rfl rfl (fun b92 => ?_)
 refine W.as ?_
 refine W.nil (thn_n ?_)
 refine WC.seq ?_
 refine WC.seq ?_
 refine WC.region ?_
 refine W.mv ?_
 refine W.ok (ok_eqlPN pp151 rfl rfl) ?_
 refine W.nil (thn_n ?_)
 refine WC.cond_f rfl rfl ?_
 refine WC.skip (thn_n ?_)
 refine WC.seq ?_
 refine WC.seq ?_
 refine WC.region ?_
 refine W.mv ?_
 refine W.mv ?_
 refine W.call (Mp := ((b_s, .cells (List.toArray [.slice sa_c c.length sc_c, .slice sa_u u.length sc_u, .slice sa_f f.length sc_f]) 207 (0, 0)) :: (Ms_c ++ (Ms_u ++ Ms_f)))) (Mr := ((b92, .cells (List.toArray [.int .i64 x.slot, .int .i64 x.level, .slice pa_x x.pivots.length pc_x, .slice ka_x x.kids.length kc_x, .string x.high.b, .bool x.top, .int .i64 x.right, .int .i64 x.seen, .slice ma_x x.msgs.length mc_x, .slice ra_x x.rows.length rc_x]) 35 (0, 0)) :: [])) (shasn_fc h_c h_u h_f _) rfl (((pmC ((pmF ((pmF (List.Perm.refl _)).trans (List.Perm.refl _))).trans (List.Perm.refl _))).cons _).trans ((List.Perm.swap _ _ _).trans ((List.Perm.refl _).cons _))) ?_
 intro v96 G93 Ms95 hG93 q94
 refine match q94 with | ⟨e_97, e_98⟩ => ?_
 subst e_97
 subst e_98
 refine W.perm (M' := ((b_s, .cells (List.toArray [.slice sa_c c.length sc_c, .slice sa_u u.length sc_u, .slice sa_f f.length sc_f]) 207 (0, 0)) :: ((b92, .cells (List.toArray [.int .i64 x.slot, .int .i64 x.level, .slice pa_x x.pivots.length pc_x, .slice ka_x x.kids.length kc_x, .string x.high.b, .bool x.top, .int .i64 x.right, .int .i64 x.seen, .slice ma_x x.msgs.length mc_x, .slice ra_x x.rows.length rc_x]) 35 (0, 0)) :: (Ms_c ++ (Ms_u ++ (Ms_f ++ [])))))) (((pmC ((pmF ((pmF (List.Perm.refl _)).trans (List.Perm.refl _))).trans (List.Perm.refl _))).cons _).trans (List.Perm.refl _)).symm ?_
 refine W.ok (ok_not rfl) ?_
 refine W.nil (thn_n ?_)
 refine WC.cond (b := _) rfl (fun h12 => ?_) (fun h12 => ?_)
 ·refine WC.seq ?_
  refine WC.region ?_
  refine W.as ?_
  refine W.nil (thn_n ?_)
  refine WC.ret (thn_r ?_)
  refine ⟨.inr rfl, [_], ⟨rfl, trivial⟩, ((b_s, .cells (List.toArray [.slice sa_c c.length sc_c, .slice sa_u u.length sc_u, .slice sa_f f.length sc_f]) 207 (0, 0)) :: (Ms_c ++ (Ms_u ++ (Ms_f ++ [])))), ((List.Sublist.refl _).cons _).cons_cons _, ?_⟩
  exact ⟨congrArg (Value.int .i64) (congrArg Prod.fst (layA_f (st := (c, u)) (by simpa using h12))).symm, ArR.cast (st := (c, u)) ⟨_, ⟨_, _, _, _, _, _, rfl, (h_c.mono hG93), (h_u.mono hG93), (h_f.mono hG93)⟩, hcu, hn, hh, hp⟩ (congrArg Prod.snd (layA_f (st := (c, u)) (by simpa using h12))).symm (by simp)⟩
 ·have hhi : hasN u i = true := by simpa using h12
  have hil := hasN_lt hhi
  refine WC.skip (thn_n ?_)
  refine WC.seq ?_
  refine WC.drawW _ (((List.nil_sublist _).cons_cons _).cons_cons _) mix (by rintro _ _ _ _ ⟨h | h, _⟩ <;> cases h) ?_
  refine WD.take 0 rfl rfl rfl (by kernel_rfl) (by kernel_rfl) (by kernel_rfl) (ok_mv) ?_
  refine WD.take 1 rfl rfl rfl (by kernel_rfl) (by kernel_rfl) (by kernel_rfl) (ok_nilP rfl) ?_
  refine WD.take 2 rfl rfl rfl (by kernel_rfl) (by kernel_rfl) (by kernel_rfl) (ok_fieldB fd207_0 rfl) ?_
  refine WD.take 3 rfl rfl rfl (by kernel_rfl) (by kernel_rfl) (by kernel_rfl) (ok_loadB (i := 0) (vs := [.slice _ _ _]) ty24 rfl rfl rfl rfl (by simp)) ?_
  refine WD.take 4 rfl rfl rfl (by kernel_rfl) (by kernel_rfl) (by kernel_rfl) (ok_mv) ?_
  refine WD.take 5 rfl rfl rfl (by kernel_rfl) (by kernel_rfl) (by kernel_rfl) (ok_loadB (i := 1) (vs := [.int .i64 _, .int .i64 _, .slice _ _ _, .slice _ _ _, .string _, .bool _, .int .i64 _, .int .i64 _, .slice _ _ _, .slice _ _ _]) ty35 rfl rfl rfl rfl (by simp)) ?_
  have q103 := (h_c.mono hG93).at (i := i.toNat) (by omega)
  refine match q103 with | ⟨_, he99, ⟨_, _, _, _, _, _, _, _, e_102, hp_n100, hk_n100, hm_n100, hr_n100, hok_n100⟩⟩ => ?_
  subst e_102
  refine WD.take 6 rfl rfl rfl (by kernel_rfl) (by kernel_rfl) (by kernel_rfl) (ok_indexAddrO (i := i.toNat) sl24 ty35 (h_c.mono hG93) rfl rfl ⟨by omega, by omega⟩) ?_
  refine WD.any [7] (by kernel_rfl) rfl ⟨⟨_, rfl, rfl, ?_⟩, trivial⟩
  refine W.storeO (i := i.toNat) (o := 0) (vs := [.int .i64 _, .int .i64 _, .slice _ _ _, .slice _ _ _, .string _, .bool _, .int .i64 _, .int .i64 _, .slice _ _ _, .slice _ _ _]) (a' := x) ty35 rfl rfl rfl rfl rfl ((h_c.mono hG93)) (pmC (pmC (List.Perm.refl _))) (by omega) (by decide) (fun cs h => by obtain ⟨_, _, _, _, _, _, _, _, rfl, _⟩ := h; exact ⟨_, _, _, _, _, _, _, _, rfl, (hp_x.mono hG93), (hk_x.mono hG93), (hm_x.mono hG93), (hr_x.mono hG93), hok_x⟩) (fun Ms104 ho105 => ?_)
  refine W.perm (pmC (pmC (List.Perm.refl _))).symm ?_
  refine W.nil ⟨Le.rfl, ((List.nil_sublist _).cons_cons _).cons_cons _, _, ((List.nil_sublist _).cons_cons _).cons_cons _, List.Sublist.refl _, ?_⟩
  refine WD.done (by kernel_rfl) (thn_n ?_)
  refine WC.seq ?_
  refine WC.region ?_
  refine W.as ?_
  refine W.nil (thn_n ?_)
  refine WC.ret ?_
  refine ⟨.inr rfl, [_], ⟨rfl, trivial⟩, ((b_s, .cells (List.toArray [.slice sa_c c.length sc_c, .slice sa_u u.length sc_u, .slice sa_f f.length sc_f]) 207 (0, 0)) :: (Ms104 ++ (Ms_u ++ (Ms_f ++ [])))), ((List.Sublist.refl _).cons _).cons_cons _, ?_⟩
  exact ⟨congrArg (Value.int .i64) (congrArg Prod.fst (layA_t (st := (c, u)) (by simpa using h12))).symm, ArR.cast (st := (c.set i.toNat x, u)) ⟨_, ⟨_, _, _, _, _, _, rfl, ho105, (h_u.mono hG93), (h_f.mono hG93)⟩, (by rw [List.length_set]; exact hcu), hn, hh, hp⟩ (congrArg Prod.snd (layA_t (st := (c, u)) (by simpa using h12))).symm (by simp)⟩

theorem sallocn_fc {G : GH} {b_s : Nat} {v_c : Value} {c : List Nd} {Ms_c : MH} (h_c : OwnR eNode 35 G v_c c Ms_c) {v_u : Value} {u : List Bool} {Ms_u : MH} (h_u : OwnR eBool 4 G v_u u Ms_u) {v_f : Value} {f : List Int} {Ms_f : MH} (h_f : OwnR eInt 3 G v_f f Ms_f) {cs_x : List Value} {x : Nd} (h_x : NodeC G cs_x x) (hcu : c.length = u.length) (hn : u.length ≤ 4096) (hh : Heap ltI f) (hp : f.Perm (freeN u)) :
    Fc Try.prog 105 [.pointer (some ⟨b_s, 0, none⟩), .agg (List.toArray cs_x)] G ((b_s, .cells (List.toArray [v_c, v_u, v_f]) 207 (0, 0)) :: (Ms_c ++ (Ms_u ++ (Ms_f)))) (fun v G' M' => v = .tuple #[.int .i64 (nextA (c, u) x).1.1, .int .i64 (nextA (c, u) x).1.2] ∧ ArR eNode 35 4 3 207 b_s G' (nextA (c, u) x).2 M') := by
 obtain ⟨pa_x, pc_x, ka_x, kc_x, ma_x, mc_x, ra_x, rc_x, rfl, hp_x, hk_x, hm_x, hr_x, hok_x⟩ := h_x
 obtain ⟨sa_c, sc_c, rfl⟩ := h_c.form
 obtain ⟨sa_u, sc_u, rfl⟩ := h_u.form
 obtain ⟨sa_f, sc_f, rfl⟩ := h_f.form
 have hl := h_u.len47
 have hlc := h_c.len47
 have hlf := h_f.len47
 refine Fc.intro (rs := [.tmp 4, .tmp 5]) cl105 Try.func105 rfl Try.ntmps105 rfl rfl (fun w0 => ?_)
 refine WC.perm (M' := ((b_s, .cells (List.toArray [.slice sa_c c.length sc_c, .slice sa_u u.length sc_u, .slice sa_f f.length sc_f]) 207 (0, 0)) :: (Ms_c ++ (Ms_u ++ (Ms_f ++ []))))) (by simp) ?_
 refine WC.seq ?_
 refine WC.region ?_
 refine W.box (L := [.int .i64 _, .int .i64 _, .slice _ _ _, .slice _ _ _, .string _, .bool _, .int .i64 _, .int .i64 _, .slice _ _ _, .slice _ _ _]) rfl rfl (fun b106 => ?_)
 refine W.as ?_
 refine W.as ?_
 refine W.nil (thn_n ?_)
 refine WC.seq ?_
 refine WC.seq ?_
 refine WC.region ?_
 refine W.mv ?_
 refine W.ok (ok_eqlPN pp151 rfl rfl) ?_
 refine W.nil (thn_n ?_)
 refine WC.cond_f rfl rfl ?_
 refine WC.skip (thn_n ?_)
 refine WC.seq ?_
 refine WC.seq ?_
 refine WC.region ?_
 refine W.mv ?_
 refine W.ok (ok_nilP rfl) ?_
 refine W.ok (ok_fieldB fd207_2 rfl) ?_
 refine W.ok (ok_loadB (i := 1) (vs := [.slice _ _ _]) ty125 rfl rfl rfl rfl (by simp)) ?_
 refine W.ok (ok_lenO sl125 h_f rfl) ?_
 refine W.ok (ok_eql rfl rfl) ?_
 refine W.nil (thn_n ?_)
 refine WC.cond (b := _) rfl (fun h14 => ?_) (fun h14 => ?_)
 ·have p14 := of_decide_eq_true h14
  refine WC.seq ?_
  refine WC.region ?_
  refine W.as ?_
  refine W.as ?_
  refine W.nil (thn_n ?_)
  refine WC.ret (thn_r ?_)
  refine ⟨.inr rfl, [_, _], ⟨rfl, rfl, trivial⟩, ((b_s, .cells (List.toArray [.slice sa_c c.length sc_c, .slice sa_u u.length sc_u, .slice sa_f f.length sc_f]) 207 (0, 0)) :: (Ms_c ++ (Ms_u ++ (Ms_f ++ [])))), ((List.Sublist.refl _).cons_cons _).cons _, ?_⟩
  have hE := nextA_f (st := (c, u)) (x := x) (free_zero (u := u) (by have := hp.length_eq; omega))
  exact ⟨congrArg (fun r : Int × Int => Value.tuple #[.int .i64 r.1, .int .i64 r.2]) (congrArg Prod.fst hE).symm, ArR.cast (st := (c, u)) ⟨_, ⟨_, _, _, _, _, _, rfl, h_c, h_u, h_f⟩, hcu, hn, hh, hp⟩ (congrArg Prod.snd hE).symm (by simp)⟩
 ·have p14 := of_decide_eq_false h14
  refine WC.skip (thn_n ?_)
  refine WC.seq ?_
  refine WC.region ?_
  refine W.mv ?_
  refine W.ok (ok_nilP rfl) ?_
  refine W.ok (ok_fieldB fd207_2 rfl) ?_
  refine W.ok (ok_mkI pi129 rfl) ?_
  refine W.call (Mp := ((b_s, .cells (List.toArray [.slice sa_c c.length sc_c, .slice sa_u u.length sc_u, .slice sa_f f.length sc_f]) 207 (0, 0)) :: Ms_f)) (Mr := ((b106, .cells (List.toArray [.int .i64 x.slot, .int .i64 x.level, .slice pa_x x.pivots.length pc_x, .slice ka_x x.kids.length kc_x, .string x.high.b, .bool x.top, .int .i64 x.right, .int .i64 x.seen, .slice ma_x x.msgs.length mc_x, .slice ra_x x.rows.length rc_x]) 35 (0, 0)) :: (Ms_c ++ (Ms_u ++ [])))) (hpop_fc (least_heap (b := b_s) (Tb := 207) (c0 := .slice sa_c c.length sc_c) (c1 := .slice sa_u u.length sc_u)) ⟨_, _, rfl, h_f⟩ (by omega)) rfl (((pmC (pmA (pmA (List.Perm.refl _)))).cons _).trans ((List.Perm.swap _ _ _).trans ((List.Perm.refl _).cons _))) ?_
  intro v110 G107 Ms109 hG107 q108
  refine match q108 with | ⟨⟨hv_z111, hi_z111⟩, ⟨vf_z111, Mf_z111, e_112, hf_z111⟩⟩ => ?_
  subst e_112
  have q114 := hf_z111.form
  refine match q114 with | ⟨sa_z111, sc_z111, e_113⟩ => ?_
  subst e_113
  obtain ⟨hlt, hee, hh2, hp2⟩ := take_first hh hp (by omega)
  rw [hee] at hv_z111
  subst hv_z111
  refine W.perm (M' := ((b_s, .cells (List.toArray [.slice sa_c c.length sc_c, .slice sa_u u.length sc_u, .slice sa_z111 ((popL ltI f)).length sc_z111]) 207 (0, 0)) :: ((b106, .cells (List.toArray [.int .i64 x.slot, .int .i64 x.level, .slice pa_x x.pivots.length pc_x, .slice ka_x x.kids.length kc_x, .string x.high.b, .bool x.top, .int .i64 x.right, .int .i64 x.seen, .slice ma_x x.msgs.length mc_x, .slice ra_x x.rows.length rc_x]) 35 (0, 0)) :: (Mf_z111 ++ (Ms_c ++ (Ms_u ++ [])))))) (((pmC (List.Perm.refl _)).cons _).trans (List.Perm.refl _)).symm ?_
  refine W.ok (ok_tyA pi3 rfl) ?_
  refine W.as ?_
  refine W.nil (thn_n ?_)
  refine WC.seq ?_
  refine WC.drawW _ (((List.nil_sublist _).cons_cons _).cons_cons _) mix (by rintro _ _ _ _ ⟨h | h, _⟩ <;> cases h) ?_
  refine WD.take 0 rfl rfl rfl (by kernel_rfl) (by kernel_rfl) (by kernel_rfl) (ok_mv) ?_
  refine WD.take 1 rfl rfl rfl (by kernel_rfl) (by kernel_rfl) (by kernel_rfl) (ok_nilP rfl) ?_
  refine WD.take 2 rfl rfl rfl (by kernel_rfl) (by kernel_rfl) (by kernel_rfl) (ok_fieldB fd207_0 rfl) ?_
  refine WD.take 3 rfl rfl rfl (by kernel_rfl) (by kernel_rfl) (by kernel_rfl) (ok_loadB (i := 0) (vs := [.slice _ _ _]) ty24 rfl rfl rfl rfl (by simp)) ?_
  refine WD.take 4 rfl rfl rfl (by kernel_rfl) (by kernel_rfl) (by kernel_rfl) (ok_mv) ?_
  refine WD.take 5 rfl rfl rfl (by kernel_rfl) (by kernel_rfl) (by kernel_rfl) (ok_mv) ?_
  refine WD.take 6 rfl rfl rfl (by kernel_rfl) (by kernel_rfl) (by kernel_rfl) (ok_nilP rfl) ?_
  refine WD.take 7 rfl rfl rfl (by kernel_rfl) (by kernel_rfl) (by kernel_rfl) (ok_fieldB fd207_1 rfl) ?_
  refine WD.take 8 rfl rfl rfl (by kernel_rfl) (by kernel_rfl) (by kernel_rfl) (ok_loadB (i := 0) (vs := [.slice _ _ _]) ty60 rfl rfl rfl rfl (by simp)) ?_
  refine WD.take 9 rfl rfl rfl (by kernel_rfl) (by kernel_rfl) (by kernel_rfl) (ok_mv) ?_
  refine WD.take 10 rfl rfl rfl (by kernel_rfl) (by kernel_rfl) (by kernel_rfl) (ok_loadB (i := 1) (vs := [.int .i64 _, .int .i64 _, .slice _ _ _, .slice _ _ _, .string _, .bool _, .int .i64 _, .int .i64 _, .slice _ _ _, .slice _ _ _]) ty35 rfl rfl rfl rfl (by simp)) ?_
  have q119 := (h_c.mono hG107).at (i := (firstN u)) (by omega)
  refine match q119 with | ⟨_, he115, ⟨_, _, _, _, _, _, _, _, e_118, hp_n116, hk_n116, hm_n116, hr_n116, hok_n116⟩⟩ => ?_
  subst e_118
  refine WD.take 11 rfl rfl rfl (by kernel_rfl) (by kernel_rfl) (by kernel_rfl) (ok_indexAddrO (i := (firstN u)) sl24 ty35 (h_c.mono hG107) rfl rfl ⟨by omega, by omega⟩) ?_
  refine WD.any [12] (by kernel_rfl) rfl ⟨⟨_, rfl, rfl, ?_⟩, trivial⟩
  refine W.storeO (i := (firstN u)) (o := 0) (vs := [.int .i64 _, .int .i64 _, .slice _ _ _, .slice _ _ _, .string _, .bool _, .int .i64 _, .int .i64 _, .slice _ _ _, .slice _ _ _]) (a' := x) ty35 rfl rfl rfl rfl rfl ((h_c.mono hG107)) (pmC (pmC (pmA (List.Perm.refl _)))) (by omega) (by decide) (fun cs h => by obtain ⟨_, _, _, _, _, _, _, _, rfl, _⟩ := h; exact ⟨_, _, _, _, _, _, _, _, rfl, (hp_x.mono hG107), (hk_x.mono hG107), (hm_x.mono hG107), (hr_x.mono hG107), hok_x⟩) (fun Ms120 ho121 => ?_)
  refine W.perm (pmC (pmC (List.Perm.refl _))).symm ?_
  refine W.nil ⟨Le.rfl, ((List.nil_sublist _).cons_cons _).cons_cons _, _, ((List.nil_sublist _).cons_cons _).cons_cons _, List.Sublist.refl _, ?_⟩
  have q125 := (h_u.mono hG107).at (i := (firstN u)) (by omega)
  refine match q125 with | ⟨_, he122, e_124⟩ => ?_
  subst e_124
  refine WD.take 13 rfl rfl rfl (by kernel_rfl) (by kernel_rfl) (by kernel_rfl) (ok_indexAddrO (i := (firstN u)) sl60 ty4 (h_u.mono hG107) rfl rfl ⟨by omega, by omega⟩) ?_
  refine WD.any [14] (by kernel_rfl) rfl ⟨⟨_, rfl, rfl, ?_⟩, trivial⟩
  refine W.storeO (i := (firstN u)) (o := 0) (vs := [.bool _]) (a' := true) ty4 rfl rfl rfl rfl rfl ((h_u.mono hG107)) (pmC (pmC (pmA (pmA (List.Perm.refl _))))) (by omega) (by decide) (fun cs h => by rw [h]; rfl) (fun Ms126 ho127 => ?_)
  refine W.perm (pmC (pmC (List.Perm.refl _))).symm ?_
  refine W.nil ⟨Le.rfl, ((List.nil_sublist _).cons_cons _).cons_cons _, _, ((List.nil_sublist _).cons_cons _).cons_cons _, List.Sublist.refl _, ?_⟩
  refine WD.done (by kernel_rfl) (thn_n ?_)
  refine WC.seq ?_
  refine WC.region ?_
  refine W.mv ?_
  refine W.as ?_
  refine W.as ?_
  refine W.nil (thn_n ?_)
  refine WC.perm (M' := ((b_s, .cells (List.toArray [.slice sa_c c.length sc_c, .slice sa_u u.length sc_u, .slice sa_z111 ((popL ltI f)).length sc_z111]) 207 (0, 0)) :: ((b106, .cells (List.toArray [.int .i64 x.slot, .int .i64 x.level, .slice pa_x x.pivots.length pc_x, .slice ka_x x.kids.length kc_x, .string x.high.b, .bool x.top, .int .i64 x.right, .int .i64 x.seen, .slice ma_x x.msgs.length mc_x, .slice ra_x x.rows.length rc_x]) 35 (0, 0)) :: (Ms120 ++ (Ms126 ++ (Mf_z111 ++ [])))))) ((((List.Perm.append_left _ ((List.Perm.append_left _ ((List.Perm.append_left _ (List.Perm.refl _)).trans (List.Perm.refl _))).trans (List.Perm.refl _))).trans (pmA (List.Perm.refl _))).cons _).cons _) ?_
  refine WC.ret ?_
  refine ⟨.inr rfl, [_, _], ⟨rfl, rfl, trivial⟩, ((b_s, .cells (List.toArray [.slice sa_c c.length sc_c, .slice sa_u u.length sc_u, .slice sa_z111 ((popL ltI f)).length sc_z111]) 207 (0, 0)) :: (Ms120 ++ (Ms126 ++ (Mf_z111 ++ [])))), ((List.Sublist.refl _).cons _).cons_cons _, ?_⟩
  have hE := nextA_t (st := (c, u)) (x := x) hlt
  exact ⟨congrArg (fun r : Int × Int => Value.tuple #[.int .i64 r.1, .int .i64 r.2]) (congrArg Prod.fst hE).symm, ArR.cast (st := (c.set (firstN u) x, u.set (firstN u) true)) ⟨_, ⟨_, _, _, _, _, _, rfl, ho121, ho127, hf_z111⟩, (by rw [List.length_set, List.length_set]; exact hcu), (by rw [List.length_set]; exact hn), hh2, hp2⟩ (congrArg Prod.snd hE).symm (by simp)⟩

theorem sgetn_fc {G : GH} {b_s : Nat} {v_c : Value} {c : List Nd} {Ms_c : MH} (h_c : OwnR eNode 35 G v_c c Ms_c) {v_u : Value} {u : List Bool} {Ms_u : MH} (h_u : OwnR eBool 4 G v_u u Ms_u) {v_f : Value} {f : List Int} {Ms_f : MH} (h_f : OwnR eInt 3 G v_f f Ms_f) (i : Int) (hcu : c.length = u.length) :
    Fc Try.prog 106 [.pointer (some ⟨b_s, 0, none⟩), .int .i64 i] G ((b_s, .cells (List.toArray [v_c, v_u, v_f]) 207 (0, 0)) :: (Ms_c ++ (Ms_u ++ (Ms_f)))) (fun v G' M' => ∃ cs, v = .tuple #[.agg (List.toArray cs), .bool (hasN u i)] ∧ NodeC G' cs (getA (c, u) i Nd.zero) ∧ M' = (b_s, .cells (List.toArray [v_c, v_u, v_f]) 207 (0, 0)) :: (Ms_c ++ (Ms_u ++ Ms_f))) := by
 obtain ⟨sa_c, sc_c, rfl⟩ := h_c.form
 obtain ⟨sa_u, sc_u, rfl⟩ := h_u.form
 obtain ⟨sa_f, sc_f, rfl⟩ := h_f.form
 have hl := h_u.len47
 have hlc := h_c.len47
 refine Fc.intro (rs := [.cell 4 35, .tmp 5]) cl106 Try.func106 rfl Try.ntmps106 rfl rfl (fun w0 => ?_)
 refine WC.perm (M' := ((b_s, .cells (List.toArray [.slice sa_c c.length sc_c, .slice sa_u u.length sc_u, .slice sa_f f.length sc_f]) 207 (0, 0)) :: (Ms_c ++ (Ms_u ++ (Ms_f ++ []))))) (by simp) ?_
 refine WC.seq ?_
 refine WC.region ?_
 refine W.alloc zr35 (fun b128 => ?_)
 refine W.as ?_
 refine W.nil (thn_n ?_)
 refine WC.seq ?_
 refine WC.seq ?_
 refine WC.region ?_
 refine W.mv ?_
 refine W.mv ?_
 refine W.call (Mp := ((b_s, .cells (List.toArray [.slice sa_c c.length sc_c, .slice sa_u u.length sc_u, .slice sa_f f.length sc_f]) 207 (0, 0)) :: (Ms_c ++ (Ms_u ++ Ms_f)))) (Mr := ((b128, .cells (List.toArray [.int .i64 0, .int .i64 0, .slice none 0 0, .slice none 0 0, .string ⟨#[]⟩, .bool false, .int .i64 0, .int .i64 0, .slice none 0 0, .slice none 0 0]) 35 (0, 0)) :: [])) (shasn_fc h_c h_u h_f _) rfl (((pmC ((pmF ((pmF (List.Perm.refl _)).trans (List.Perm.refl _))).trans (List.Perm.refl _))).cons _).trans ((List.Perm.swap _ _ _).trans ((List.Perm.refl _).cons _))) ?_
 intro v132 G129 Ms131 hG129 q130
 refine match q130 with | ⟨e_133, e_134⟩ => ?_
 subst e_133
 subst e_134
 refine W.perm (M' := ((b_s, .cells (List.toArray [.slice sa_c c.length sc_c, .slice sa_u u.length sc_u, .slice sa_f f.length sc_f]) 207 (0, 0)) :: ((b128, .cells (List.toArray [.int .i64 0, .int .i64 0, .slice none 0 0, .slice none 0 0, .string ⟨#[]⟩, .bool false, .int .i64 0, .int .i64 0, .slice none 0 0, .slice none 0 0]) 35 (0, 0)) :: (Ms_c ++ (Ms_u ++ (Ms_f ++ [])))))) (((pmC ((pmF ((pmF (List.Perm.refl _)).trans (List.Perm.refl _))).trans (List.Perm.refl _))).cons _).trans (List.Perm.refl _)).symm ?_
 refine W.ok (ok_not rfl) ?_
 refine W.nil (thn_n ?_)
 refine WC.cond (b := _) rfl (fun h9 => ?_) (fun h9 => ?_)
 ·have hhi : hasN u i = false := by simpa using h9
  refine WC.seq ?_
  refine WC.region ?_
  refine W.ok (ok_loadB (i := 1) (vs := [.int .i64 _, .int .i64 _, .slice _ _ _, .slice _ _ _, .string _, .bool _, .int .i64 _, .int .i64 _, .slice _ _ _, .slice _ _ _]) ty35 rfl rfl rfl rfl (by simp)) ?_
  refine W.store (i := 1) (vs := [.int .i64 _, .int .i64 _, .slice _ _ _, .slice _ _ _, .string _, .bool _, .int .i64 _, .int .i64 _, .slice _ _ _, .slice _ _ _]) (L' := [.int .i64 _, .int .i64 _, .slice _ _ _, .slice _ _ _, .string _, .bool _, .int .i64 _, .int .i64 _, .slice _ _ _, .slice _ _ _]) ty35 rfl rfl rfl rfl rfl rfl rfl rfl ?_
  refine W.as ?_
  refine W.nil (thn_n ?_)
  refine WC.ret (thn_r ?_)
  refine ⟨.inr rfl, [_, _], ⟨⟨_, _, _, _, _, rfl, nthM_mem (i := 1) rfl, ty35, (by simp), rfl, rfl⟩, rfl, trivial⟩, ((b_s, .cells (List.toArray [.slice sa_c c.length sc_c, .slice sa_u u.length sc_u, .slice sa_f f.length sc_f]) 207 (0, 0)) :: (Ms_c ++ (Ms_u ++ (Ms_f ++ [])))), ((List.Sublist.refl _).cons _).cons_cons _, ?_⟩
  refine ⟨_, ?_, NodeC.cast ⟨_, _, _, _, _, _, _, _, rfl, SlR.nil, SlR.nil, SlR.nil, SlR.nil, Nd.zero_ok⟩ (getA_f (st := (c, u)) hhi).symm, by simp⟩
  rw [hhi]; rfl
 ·have hhi : hasN u i = true := by simpa using h9
  have hil := hasN_lt hhi
  refine WC.skip (thn_n ?_)
  refine WC.seq ?_
  refine WC.region ?_
  refine W.mv ?_
  refine W.ok (ok_nilP rfl) ?_
  refine W.ok (ok_fieldB fd207_0 rfl) ?_
  refine W.ok (ok_loadB (i := 0) (vs := [.slice _ _ _]) ty24 rfl rfl rfl rfl (by simp)) ?_
  refine W.mv ?_
  have q139 := (h_c.mono hG129).at (i := i.toNat) (by omega)
  refine match q139 with | ⟨_, he135, ⟨_, _, _, _, _, _, _, _, e_138, hp_n136, hk_n136, hm_n136, hr_n136, hok_n136⟩⟩ => ?_
  subst e_138
  refine W.ok (ok_indexAddrO (i := i.toNat) sl24 ty35 (h_c.mono hG129) rfl rfl ⟨by omega, by omega⟩) ?_
  refine W.ok (ok_loadO (vs := [.int .i64 _, .int .i64 _, .slice _ _ _, .slice _ _ _, .string _, .bool _, .int .i64 _, .int .i64 _, .slice _ _ _, .slice _ _ _]) ty35 he135 (pmC (pmC (List.Perm.refl _))) rfl rfl rfl (by simp)) ?_
  refine W.store (i := 1) (vs := [.int .i64 _, .int .i64 _, .slice _ _ _, .slice _ _ _, .string _, .bool _, .int .i64 _, .int .i64 _, .slice _ _ _, .slice _ _ _]) (L' := [.int .i64 _, .int .i64 _, .slice _ _ _, .slice _ _ _, .string _, .bool _, .int .i64 _, .int .i64 _, .slice _ _ _, .slice _ _ _]) ty35 rfl rfl rfl rfl rfl rfl rfl rfl ?_
  refine W.as ?_
  refine W.nil (thn_n ?_)
  refine WC.ret ?_
  refine ⟨.inr rfl, [_, _], ⟨⟨_, _, _, _, _, rfl, nthM_mem (i := 1) rfl, ty35, (by simp), rfl, rfl⟩, rfl, trivial⟩, ((b_s, .cells (List.toArray [.slice sa_c c.length sc_c, .slice sa_u u.length sc_u, .slice sa_f f.length sc_f]) 207 (0, 0)) :: (Ms_c ++ (Ms_u ++ (Ms_f ++ [])))), ((List.Sublist.refl _).cons _).cons_cons _, ?_⟩
  refine ⟨_, ?_, NodeC.cast ⟨_, _, _, _, _, _, _, _, rfl, hp_n136, hk_n136, hm_n136, hr_n136, hok_n136⟩ (getA_t (st := (c, u)) hhi (by show _ < c.length; omega)).symm, by simp⟩
  rw [hhi]; rfl

theorem susedn_fc {G : GH} {b_s : Nat} {v_c : Value} {c : List Nd} {Ms_c : MH} (h_c : OwnR eNode 35 G v_c c Ms_c) {v_u : Value} {u : List Bool} {Ms_u : MH} (h_u : OwnR eBool 4 G v_u u Ms_u) {v_f : Value} {f : List Int} {Ms_f : MH} (h_f : OwnR eInt 3 G v_f f Ms_f) (hcu : c.length = u.length) (hn : u.length ≤ 4096) (hh : Heap ltI f) (hp : f.Perm (freeN u)) :
    Fc Try.prog 109 [.pointer (some ⟨b_s, 0, none⟩)] G ((b_s, .cells (List.toArray [v_c, v_u, v_f]) 207 (0, 0)) :: (Ms_c ++ (Ms_u ++ (Ms_f)))) (fun v G' M' => v = .int .i64 ((usedN u).length : Int) ∧ M' = (b_s, .cells (List.toArray [v_c, v_u, v_f]) 207 (0, 0)) :: (Ms_c ++ (Ms_u ++ Ms_f))) := by
 obtain ⟨sa_c, sc_c, rfl⟩ := h_c.form
 obtain ⟨sa_u, sc_u, rfl⟩ := h_u.form
 obtain ⟨sa_f, sc_f, rfl⟩ := h_f.form
 have hl := h_u.len47
 have hlf := h_f.len47
 have hfu := free_used u
 have hpl := hp.length_eq
 refine Fc.intro (rs := [.tmp 2]) cl109 Try.func109 rfl Try.ntmps109 rfl rfl (fun w0 => ?_)
 refine WC.perm (M' := ((b_s, .cells (List.toArray [.slice sa_c c.length sc_c, .slice sa_u u.length sc_u, .slice sa_f f.length sc_f]) 207 (0, 0)) :: (Ms_c ++ (Ms_u ++ (Ms_f ++ []))))) (by simp) ?_
 refine WC.seq ?_
 refine WC.region ?_
 refine W.as ?_
 refine W.nil (thn_n ?_)
 refine WC.seq ?_
 refine WC.seq ?_
 refine WC.region ?_
 refine W.mv ?_
 refine W.ok (ok_eqlPN pp151 rfl rfl) ?_
 refine W.nil (thn_n ?_)
 refine WC.cond_f rfl rfl ?_
 refine WC.skip (thn_n ?_)
 refine WC.seq ?_
 refine WC.draw mix (by kernel_rfl) ?_
 refine W.mv ?_
 refine W.ok (ok_nilP rfl) ?_
 refine W.ok (ok_fieldB fd207_1 rfl) ?_
 refine W.ok (ok_loadB (i := 0) (vs := [.slice _ _ _]) ty60 rfl rfl rfl rfl (by simp)) ?_
 refine W.ok (ok_lenO sl60 h_u rfl) ?_
 refine W.mv ?_
 refine W.ok (ok_nilP rfl) ?_
 refine W.ok (ok_fieldB fd207_2 rfl) ?_
 refine W.ok (ok_loadB (i := 0) (vs := [.slice _ _ _]) ty125 rfl rfl rfl rfl (by simp)) ?_
 refine W.ok (ok_lenO sl125 h_f rfl) ?_
 refine W.ok (ok_sub rfl rfl (by omega)) ?_
 refine W.as ?_
 refine W.nil (thn_n ?_)
 refine WC.ret ?_
 refine ⟨.inr rfl, [_], ⟨rfl, trivial⟩, ((b_s, .cells (List.toArray [.slice sa_c c.length sc_c, .slice sa_u u.length sc_u, .slice sa_f f.length sc_f]) 207 (0, 0)) :: (Ms_c ++ (Ms_u ++ (Ms_f ++ [])))), (List.Sublist.refl _).cons_cons _, ?_⟩
 exact ⟨congrArg (Value.int .i64) (by omega), by simp⟩

theorem sroomn_fc {G : GH} {b_s : Nat} {v_c : Value} {c : List Nd} {Ms_c : MH} (h_c : OwnR eNode 35 G v_c c Ms_c) {v_u : Value} {u : List Bool} {Ms_u : MH} (h_u : OwnR eBool 4 G v_u u Ms_u) {v_f : Value} {f : List Int} {Ms_f : MH} (h_f : OwnR eInt 3 G v_f f Ms_f) (hcu : c.length = u.length) (hn : u.length ≤ 4096) (hh : Heap ltI f) (hp : f.Perm (freeN u)) :
    Fc Try.prog 110 [.pointer (some ⟨b_s, 0, none⟩)] G ((b_s, .cells (List.toArray [v_c, v_u, v_f]) 207 (0, 0)) :: (Ms_c ++ (Ms_u ++ (Ms_f)))) (fun v G' M' => v = .int .i64 ((freeN u).length : Int) ∧ M' = (b_s, .cells (List.toArray [v_c, v_u, v_f]) 207 (0, 0)) :: (Ms_c ++ (Ms_u ++ Ms_f))) := by
 obtain ⟨sa_c, sc_c, rfl⟩ := h_c.form
 obtain ⟨sa_u, sc_u, rfl⟩ := h_u.form
 obtain ⟨sa_f, sc_f, rfl⟩ := h_f.form
 have hl := h_u.len47
 have hlf := h_f.len47
 have hfu := free_used u
 have hpl := hp.length_eq
 refine Fc.intro (rs := [.tmp 2]) cl110 Try.func110 rfl Try.ntmps110 rfl rfl (fun w0 => ?_)
 refine WC.perm (M' := ((b_s, .cells (List.toArray [.slice sa_c c.length sc_c, .slice sa_u u.length sc_u, .slice sa_f f.length sc_f]) 207 (0, 0)) :: (Ms_c ++ (Ms_u ++ (Ms_f ++ []))))) (by simp) ?_
 refine WC.seq ?_
 refine WC.region ?_
 refine W.as ?_
 refine W.nil (thn_n ?_)
 refine WC.seq ?_
 refine WC.seq ?_
 refine WC.region ?_
 refine W.mv ?_
 refine W.ok (ok_eqlPN pp151 rfl rfl) ?_
 refine W.nil (thn_n ?_)
 refine WC.cond_f rfl rfl ?_
 refine WC.skip (thn_n ?_)
 refine WC.seq ?_
 refine WC.region ?_
 refine W.mv ?_
 refine W.ok (ok_nilP rfl) ?_
 refine W.ok (ok_fieldB fd207_2 rfl) ?_
 refine W.ok (ok_loadB (i := 0) (vs := [.slice _ _ _]) ty125 rfl rfl rfl rfl (by simp)) ?_
 refine W.ok (ok_lenO sl125 h_f rfl) ?_
 refine W.as ?_
 refine W.nil (thn_n ?_)
 refine WC.ret ?_
 refine ⟨.inr rfl, [_], ⟨rfl, trivial⟩, ((b_s, .cells (List.toArray [.slice sa_c c.length sc_c, .slice sa_u u.length sc_u, .slice sa_f f.length sc_f]) 207 (0, 0)) :: (Ms_c ++ (Ms_u ++ (Ms_f ++ [])))), (List.Sublist.refl _).cons_cons _, ?_⟩
 exact ⟨congrArg (Value.int .i64) (by omega), by simp⟩

theorem slistn_fc {G : GH} {b_s : Nat} {v_c : Value} {c : List Nd} {Ms_c : MH} (h_c : OwnR eNode 35 G v_c c Ms_c) {v_u : Value} {u : List Bool} {Ms_u : MH} (h_u : OwnR eBool 4 G v_u u Ms_u) {v_f : Value} {f : List Int} {Ms_f : MH} (h_f : OwnR eInt 3 G v_f f Ms_f) (hcu : c.length = u.length) (hn : u.length ≤ 4096) (hh : Heap ltI f) (hp : f.Perm (freeN u)) :
    Fc Try.prog 108 [.pointer (some ⟨b_s, 0, none⟩)] G ((b_s, .cells (List.toArray [v_c, v_u, v_f]) 207 (0, 0)) :: (Ms_c ++ (Ms_u ++ (Ms_f)))) (fun v G' M' => SlR eInt G' v (usedN u) ∧ M' = (b_s, .cells (List.toArray [v_c, v_u, v_f]) 207 (0, 0)) :: (Ms_c ++ (Ms_u ++ Ms_f))) := by
 obtain ⟨sa_c, sc_c, rfl⟩ := h_c.form
 obtain ⟨sa_u, sc_u, rfl⟩ := h_u.form
 obtain ⟨sa_f, sc_f, rfl⟩ := h_f.form
 have hl := h_u.len47
 have hlf := h_f.len47
 have hfu := free_used u
 have hpl := hp.length_eq
 refine Fc.intro (rs := [.tmp 2]) cl108 Try.func108 rfl Try.ntmps108 rfl rfl (fun w0 => ?_)
 refine WC.perm (M' := ((b_s, .cells (List.toArray [.slice sa_c c.length sc_c, .slice sa_u u.length sc_u, .slice sa_f f.length sc_f]) 207 (0, 0)) :: (Ms_c ++ (Ms_u ++ (Ms_f ++ []))))) (by simp) ?_
 refine WC.seq ?_
 refine WC.region ?_
 refine W.as ?_
 refine W.nil (thn_n ?_)
 refine WC.seq ?_
 refine WC.region ?_
 refine W.as ?_
 refine W.nil (thn_n ?_)
 refine WC.seq ?_
 refine WC.seq ?_
 refine WC.region ?_
 refine W.mv ?_
 refine W.ok (ok_neqPN pp151 rfl rfl) ?_
 refine W.nil (thn_n ?_)
 refine WC.cond_t rfl rfl ?_
 refine WC.seq ?_
 refine WC.region ?_
 refine W.mv ?_
 refine W.ok (ok_nilP rfl) ?_
 refine W.ok (ok_fieldB fd207_1 rfl) ?_
 refine W.ok (ok_loadB (i := 0) (vs := [.slice _ _ _]) ty60 rfl rfl rfl rfl (by simp)) ?_
 refine W.ok (ok_lenO sl60 h_u rfl) ?_
 refine W.mv ?_
 refine W.nil (thn_n ?_)
 refine WC.block ?_
 refine WC.loop (X := (Nat) × Value × MH) (fun k => [(13, .int .i64 ((k.1 : Nat) : Int)), (11, .slice sa_u u.length sc_u), (12, .int .i64 (((u).length : Nat) : Int)), (3, k.2.1)]) (fun k G Ml => Ml = ((b_s, .cells (List.toArray [.slice sa_c c.length sc_c, .slice sa_u u.length sc_u, .slice sa_f f.length sc_f]) 207 (0, 0)) :: (k.2.2 ++ (Ms_c ++ (Ms_u ++ (Ms_f ++ []))))) ∧ OwnR eInt 3 G k.2.1 (usedK u k.1) k.2.2 ∧ k.1 ≤ u.length) (fun k => u.length - k.1) (0, .slice none 0 0, ([] : MH)) ⟨(by first | rfl | exact iv (by dsimp only; omega) | exact iv (by omega)), (by first | rfl | exact iv (by dsimp only; omega) | exact iv (by omega)), (by first | rfl | exact iv (by dsimp only; omega) | exact iv (by omega)), (by first | rfl | exact iv (by dsimp only; omega) | exact iv (by omega)), trivial⟩ ?_ ?_
 ·exact ⟨rfl, (by exact OwnR.nil), by omega⟩
 ·rintro ⟨k, v_3, M_3⟩ gG140 G140 _ hG140 ⟨rfl, ho_3, hk⟩
  try dsimp only at ho_3 hk
  have hkl := usedK_len u k
  refine WC.fr (f := setL gG140 [(13, .int .i64 ((k : Nat) : Int)), (11, .slice sa_u u.length sc_u), (12, .int .i64 (((u).length : Nat) : Int)), (3, v_3)]) rfl ?_
  refine WC.seq ?_
  refine WC.region ?_
  refine W.ok (ok_lss rfl rfl) ?_
  refine W.nil (thn_n ?_)
  refine WC.seq ?_
  refine WC.cond (b := _) rfl (fun h14 => ?_) (fun h14 => ?_)
  ·have p14 := of_decide_eq_true h14
   refine WC.skip (thn_n ?_)
   refine WC.seq ?_
   refine WC.block ?_
   refine WC.seq ?_
   refine WC.region ?_
   refine W.mv ?_
   have q144 := (h_u.mono hG140).at (i := k) (by omega)
   refine match q144 with | ⟨_, he141, e_143⟩ => ?_
   subst e_143
   refine W.ok (ok_indexAddrO (i := k) sl60 ty4 (h_u.mono hG140) rfl rfl ⟨by omega, by omega⟩) ?_
   refine W.ok (ok_loadO (vs := [.bool _]) ty4 he141 (pmC (pmA (pmA (List.Perm.refl _)))) rfl rfl rfl (by simp)) ?_
   refine W.as ?_
   refine W.as ?_
   refine W.nil (thn_n ?_)
   refine WC.seq ?_
   refine WC.region ?_
   refine W.mv ?_
   refine W.nil (thn_n ?_)
   refine WC.cond (b := _) rfl (fun he142 => ?_) (fun he142 => ?_)
   ·refine WC.region ?_
    refine W.mv ?_
    refine W.mv ?_
    refine W.lit (e := eInt) (l := [_]) (css := [[.int .i64 _]]) sl30 ty3 zr3 rfl rfl rfl rfl rfl rfl ⟨⟨rfl, by omega, by omega⟩, trivial⟩ (fun bl145 G145 hG145 hv145 => ?_)
    refine W.app (e := eInt) sl30 ty3 zr3 rfl by3 rfl rfl ((ho_3.mono hG145)) (hv145) (pmC (List.Perm.refl _)) (by show (_ + 1) * 8 ≤ _; omega) (fun v146 Ms147 ho148 => ?_)
    refine W.perm (pmC (List.Perm.refl _)).symm ?_
    have q152 := ho148.form
    refine match q152 with | ⟨sa149, sc150, e_151⟩ => ?_
    subst e_151
    refine W.as ?_
    refine W.nil (blk_n (thn_n ?_))
    refine WC.region ?_
    refine W.ok (ok_add rfl rfl (by omega)) ?_
    refine W.mv ?_
    refine W.nil (thn_n ?_)
    exact ⟨hG145, (k + 1, .slice sa149 ((usedK u k ++ _)).length sc150, Ms147), ⟨(by first | rfl | exact iv (by dsimp only; omega) | exact iv (by omega)), (by first | rfl | exact iv (by dsimp only; omega) | exact iv (by omega)), (by first | rfl | exact iv (by dsimp only; omega) | exact iv (by omega)), (by first | rfl | exact iv (by dsimp only; omega) | exact iv (by omega)), trivial⟩, ⟨rfl, (by have h := ho148; rw [usedK_t (by omega) he142]; exact h), by omega⟩, by omega⟩
   ·refine WC.skip (blk_n (thn_n ?_))
    refine WC.region ?_
    refine W.ok (ok_add rfl rfl (by omega)) ?_
    refine W.mv ?_
    refine W.nil (thn_n ?_)
    exact ⟨Le.rfl, (k + 1, v_3, M_3), ⟨(by first | rfl | exact iv (by dsimp only; omega) | exact iv (by omega)), (by first | rfl | exact iv (by dsimp only; omega) | exact iv (by omega)), (by first | rfl | exact iv (by dsimp only; omega) | exact iv (by omega)), (by first | rfl | exact iv (by dsimp only; omega) | exact iv (by omega)), trivial⟩, ⟨rfl, (by have h := ho_3; rw [usedK_f (by omega) he142]; exact h), by omega⟩, by omega⟩
  ·have p14 := of_decide_eq_false h14
   refine WC.exit (thn_x (thn_x (blk_h (thn_n ?_))))
   refine WC.seq ?_
   refine WC.region ?_
   refine W.mv ?_
   refine W.as ?_
   refine W.nil (thn_n ?_)
   refine WC.giveO ho_3 (pmC (List.Perm.refl _)) (fun G153 hG153 hv153 => ?_)
   refine WC.ret ?_
   refine ⟨.inr rfl, [_], ⟨rfl, trivial⟩, ((b_s, .cells (List.toArray [.slice sa_c c.length sc_c, .slice sa_u u.length sc_u, .slice sa_f f.length sc_f]) 207 (0, 0)) :: (Ms_c ++ (Ms_u ++ (Ms_f ++ [])))), (List.Sublist.refl _).cons_cons _, ?_⟩
   exact ⟨SlR.cast hv153 (by rw [used_eq]; congr 1; omega), by simp⟩

end Go.Proofs.Ytjbbookmgohamaa
