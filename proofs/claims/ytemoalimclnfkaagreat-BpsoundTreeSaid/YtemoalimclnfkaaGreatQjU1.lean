/- Walks of arenas. -/
import Derived.Test.YtemoalimclnfkaaGreatQjV1
import Derived.Test.YtemoalimclnfkaaGreatQjRd
set_option maxRecDepth 100000
set_option maxHeartbeats 1600000
set_option linter.unusedVariables false
set_option linter.unusedSimpArgs false
set_option linter.unnecessarySimpa false
namespace Go.Proofs.YtemoalimclnfkaaGreat
open Go Go.Fw Go.RowKit
attribute [local irreducible] Ok W WC
theorem shasp_fc {G : GH} {b_s : Nat} {v_c : Value} {c : List (Option Nat)} {Ms_c : MH} (h_c : OwnR ePt 64 G v_c c Ms_c) {v_u : Value} {u : List Bool} {Ms_u : MH} (h_u : OwnR eBool 4 G v_u u Ms_u) {v_f : Value} {f : List Int} {Ms_f : MH} (h_f : OwnR eInt 3 G v_f f Ms_f) (i : Int) :
    Fc Tryz.prog 101 [pt9 b_s, iV i] G ((b_s, ce9 114 [v_c, v_u, v_f]) :: (Ms_c ++ (Ms_u ++ (Ms_f)))) (fun v G' M' => v = .bool (hasN u i) ∧ M' = (b_s, ce9 114 [v_c, v_u, v_f]) :: (Ms_c ++ (Ms_u ++ Ms_f))) := by
 obtain ⟨sa_c, sc_c, rfl⟩ := h_c.form
 obtain ⟨sa_u, sc_u, rfl⟩ := h_u.form
 obtain ⟨sa_f, sc_f, rfl⟩ := h_f.form
 have hl := h_u.len47
 refine Fc.go [.tmp 4] Tryz.func101 Tryz.ntmps101 rfl (fun w0 => (WC.perm (M' := ((b_s, ce9 114 [lV sa_c c.length sc_c, lV sa_u u.length sc_u, lV sa_f f.length sc_f]) :: (Ms_c ++ (Ms_u ++ (Ms_f ++ []))))) (by simp) (g9 8 ?_)))
 refine W.ok (ok_neqPN pp61 rfl rfl) (g9 7 ?_)
 refine W.sd 11 (fun h9 p9 => ?_) (fun h9 p9 => ?_)
 ·refine g9 16 ?_
  refine W.sd 20 (fun h18 p18 => ?_) (fun h18 p18 => ?_)
  ·refine g9 11 ?_
   refine h_u.a1 (i := i.toNat) om9 (fun he1 => (W.ok (ok_indexAddrO (i := i.toNat) sl111 ty4 h_u rfl rfl ⟨om9, om9⟩) (g9 1 ?_)))
   refine W.ok (ok_loadO (vs := bc9) ty4 he1 (pmC (pmA pr9)) rfl rfl rfl (by simp)) (g9 5 ?_)
   refine ⟨.inr rfl, [_], ⟨rfl, trivial⟩, ((b_s, ce9 114 [lV sa_c c.length sc_c, lV sa_u u.length sc_u, lV sa_f f.length sc_f]) :: (Ms_c ++ (Ms_u ++ (Ms_f ++ [])))), sr9.k9, ?_⟩
   exact ⟨congrArg Value.bool (hasN_get om9 om9), by simp⟩
  refine g9 12 ?_
  refine ⟨.inr rfl, [_], ⟨rfl, trivial⟩, ((b_s, ce9 114 [lV sa_c c.length sc_c, lV sa_u u.length sc_u, lV sa_f f.length sc_f]) :: (Ms_c ++ (Ms_u ++ (Ms_f ++ [])))), sr9.k9, ?_⟩
  exact ⟨congrArg Value.bool (hasN_big om9), by simp⟩
 refine g9 21 ?_
 refine ⟨.inr rfl, [_], ⟨rfl, trivial⟩, ((b_s, ce9 114 [lV sa_c c.length sc_c, lV sa_u u.length sc_u, lV sa_f f.length sc_f]) :: (Ms_c ++ (Ms_u ++ (Ms_f ++ [])))), sr9.k9, ?_⟩
 exact ⟨congrArg Value.bool (hasN_neg om9), by simp⟩

theorem sallocp_fc {G : GH} {b_s : Nat} {v_c : Value} {c : List (Option Nat)} {Ms_c : MH} (h_c : OwnR ePt 64 G v_c c Ms_c) {v_u : Value} {u : List Bool} {Ms_u : MH} (h_u : OwnR eBool 4 G v_u u Ms_u) {v_f : Value} {f : List Int} {Ms_f : MH} (h_f : OwnR eInt 3 G v_f f Ms_f) (x : Nat) (hcu : c.length = u.length) (hn : u.length ≤ 4096) (hh : Heap ltI f) (hp : f.Perm (freeN u)) :
    Fc Tryz.prog 27 [pt9 b_s, pt9 x] G ((b_s, ce9 114 [v_c, v_u, v_f]) :: (Ms_c ++ (Ms_u ++ (Ms_f)))) (fun v G' M' => v = .tuple #[iV (nextA (c, u) (some x)).1.1, iV (nextA (c, u) (some x)).1.2] ∧ ArR ePt 64 4 3 114 b_s G' (nextA (c, u) (some x)).2 M') := by
 obtain ⟨sa_c, sc_c, rfl⟩ := h_c.form
 obtain ⟨sa_u, sc_u, rfl⟩ := h_u.form
 obtain ⟨sa_f, sc_f, rfl⟩ := h_f.form
 have hl := h_u.len47
 have hlc := h_c.len47
 have hlf := h_f.len47
 refine Fc.go [.tmp 4, .tmp 5] Tryz.func27 Tryz.ntmps27 rfl (fun w0 => (WC.perm (M' := ((b_s, ce9 114 [lV sa_c c.length sc_c, lV sa_u u.length sc_u, lV sa_f f.length sc_f]) :: (Ms_c ++ (Ms_u ++ (Ms_f ++ []))))) (by simp) (g9 10 ?_)))
 refine W.ok (ok_eqlPN pp61 rfl rfl) (g9 16 ?_)
 refine WC.cd (fun h14 p14 => ?_) (fun h14 p14 => ?_)
 ·refine g9 8 ?_
  refine ⟨.inr rfl, [_, _], ⟨rfl, rfl, trivial⟩, ((b_s, ce9 114 [lV sa_c c.length sc_c, lV sa_u u.length sc_u, lV sa_f f.length sc_f]) :: (Ms_c ++ (Ms_u ++ (Ms_f ++ [])))), sr9.k9, ?_⟩
  have hE := nextA_f (st := (c, u)) (x := (some x)) (free_zero (u := u) (by have := hp.length_eq; omega))
  exact ⟨congrArg (fun r : Int × Int => Value.tuple #[iV r.1, iV r.2]) (congrArg Prod.fst hE).symm, ArR.cast (st := (c, u)) ⟨_, ⟨_, _, _, _, _, _, rfl, h_c, h_u, h_f⟩, hcu, hn, hh, hp⟩ (congrArg Prod.snd hE).symm (by simp)⟩
 refine g9 7 ?_
 refine W.ok (ok_mkI pi116 rfl) (W.call (Mp := ((b_s, ce9 114 [lV sa_c c.length sc_c, lV sa_u u.length sc_u, lV sa_f f.length sc_f]) :: Ms_f)) (Mr := (Ms_c ++ (Ms_u ++ []))) (hpop_fc (least_heap (b := b_s) (Tb := 114) (c0 := lV sa_c c.length sc_c) (c1 := lV sa_u u.length sc_u)) ⟨_, _, rfl, h_f⟩ om9) rfl (((pmA (pmA pr9)).cons _).trans pr9) ?_)
 intro v8 G5 Ms7 hG5 q6
 refine match q6 with | ⟨⟨hv_z9, hi_z9⟩, ⟨vf_z9, Mf_z9, e_10, hf_z9⟩⟩ => ?_
 subst e_10
 have q12 := hf_z9.form
 refine match q12 with | ⟨sa_z9, sc_z9, e_11⟩ => ?_
 subst e_11
 obtain ⟨hlt, hee, hh2, hp2⟩ := take_first hh hp om9
 rw [hee] at hv_z9
 subst hv_z9
 refine W.perm (M' := ((b_s, ce9 114 [lV sa_c c.length sc_c, lV sa_u u.length sc_u, lV sa_z9 ((popL ltI f)).length sc_z9]) :: (Mf_z9 ++ (Ms_c ++ (Ms_u ++ []))))) ((pr9.cons _).trans pr9).symm (W.ok (ok_tyA pi3 rfl) (g9 4 ?_))
 refine WC.dw sn9.k9 (d9 [0, 1, 2, 3, 4, 5, 6, 7, 8, 9, 10] ?_)
 refine (h_c.mono hG5).a1 (i := (firstN u)) om9 (fun he13 => (WD.tk 11 rfl (ok_indexAddrO (i := (firstN u)) sl80 ty64 (h_c.mono hG5) rfl rfl ⟨om9, om9⟩) (WD.a1 12 rfl (W.storeO (i := (firstN u)) (o := 0) (vs := [.pointer _]) (a' := (some x)) ty64 rfl rfl rfl rfl rfl ((h_c.mono hG5)) (pmC (pmA pr9)) om9 (by decide) (fun cs h => by rw [h]; rfl) (fun Ms16 ho17 => (W.perm (pmC pr9).symm (W.nn ((h_u.mono hG5).a1 (i := (firstN u)) om9 (fun he18 => (WD.tk 13 rfl (ok_indexAddrO (i := (firstN u)) sl111 ty4 (h_u.mono hG5) rfl rfl ⟨om9, om9⟩) (WD.a1 14 rfl (W.storeO (i := (firstN u)) (o := 0) (vs := bc9) (a' := true) ty4 rfl rfl rfl rfl rfl ((h_u.mono hG5)) (pmC (pmA (pmA pr9))) om9 (by decide) (fun cs h => by rw [h]; rfl) (fun Ms22 ho23 => (W.perm (pmC pr9).symm (W.nn (g9 9 ?_))))))))))))))))
 refine WC.perm (M' := ((b_s, ce9 114 [lV sa_c c.length sc_c, lV sa_u u.length sc_u, lV sa_z9 ((popL ltI f)).length sc_z9]) :: (Ms16 ++ (Ms22 ++ (Mf_z9 ++ []))))) (((List.Perm.append_left _ ((List.Perm.append_left _ ((List.Perm.append_left _ pr9).trans pr9)).trans pr9)).trans (pmA pr9)).cons _) (WC.ret ?_)
 refine ⟨.inr rfl, [_, _], ⟨rfl, rfl, trivial⟩, ((b_s, ce9 114 [lV sa_c c.length sc_c, lV sa_u u.length sc_u, lV sa_z9 ((popL ltI f)).length sc_z9]) :: (Ms16 ++ (Ms22 ++ (Mf_z9 ++ [])))), sr9.k9, ?_⟩
 have hE := nextA_t (st := (c, u)) (x := (some x)) hlt
 exact ⟨congrArg (fun r : Int × Int => Value.tuple #[iV r.1, iV r.2]) (congrArg Prod.fst hE).symm, ArR.cast (st := (c.set (firstN u) (some x), u.set (firstN u) true)) ⟨_, ⟨_, _, _, _, _, _, rfl, ho17, ho23, hf_z9⟩, (by rw [List.length_set, List.length_set]; exact hcu), (by rw [List.length_set]; exact hn), hh2, hp2⟩ (congrArg Prod.snd hE).symm (by simp)⟩

theorem sfreep_fc {G : GH} {b_s : Nat} {v_c : Value} {c : List (Option Nat)} {Ms_c : MH} (h_c : OwnR ePt 64 G v_c c Ms_c) {v_u : Value} {u : List Bool} {Ms_u : MH} (h_u : OwnR eBool 4 G v_u u Ms_u) {v_f : Value} {f : List Int} {Ms_f : MH} (h_f : OwnR eInt 3 G v_f f Ms_f) (i : Int) (hcu : c.length = u.length) (hn : u.length ≤ 4096) (hh : Heap ltI f) (hp : f.Perm (freeN u)) (hi : i64 i) :
    Fc Tryz.prog 72 [pt9 b_s, iV i] G ((b_s, ce9 114 [v_c, v_u, v_f]) :: (Ms_c ++ (Ms_u ++ (Ms_f)))) (fun v G' M' => v = iV (freeA (c, u) i (none : Option Nat)).1 ∧ ArR ePt 64 4 3 114 b_s G' (freeA (c, u) i (none : Option Nat)).2 M') := by
 obtain ⟨sa_c, sc_c, rfl⟩ := h_c.form
 obtain ⟨sa_u, sc_u, rfl⟩ := h_u.form
 obtain ⟨sa_f, sc_f, rfl⟩ := h_f.form
 have hl := h_u.len47
 have hlc := h_c.len47
 refine Fc.go [.tmp 4] Tryz.func72 Tryz.ntmps72 rfl (fun w0 => (WC.perm (M' := ((b_s, ce9 114 [lV sa_c c.length sc_c, lV sa_u u.length sc_u, lV sa_f f.length sc_f]) :: (Ms_c ++ (Ms_u ++ (Ms_f ++ []))))) (by simp) (g9 9 ?_)))
 refine W.ok (ok_eqlPN pp61 rfl rfl) (g9 10 ?_)
 refine W.call (Mp := ((b_s, ce9 114 [lV sa_c c.length sc_c, lV sa_u u.length sc_u, lV sa_f f.length sc_f]) :: (Ms_c ++ (Ms_u ++ Ms_f)))) (Mr := []) (shasp_fc h_c h_u h_f _) rfl ((((pmF ((pmF pr9).trans pr9)).trans pr9).cons _).trans pr9) ?_
 intro v27 G24 Ms26 hG24 q25
 refine match q25 with | ⟨e_28, e_29⟩ => ?_
 subst e_28
 subst e_29
 refine W.perm (M' := ((b_s, ce9 114 [lV sa_c c.length sc_c, lV sa_u u.length sc_u, lV sa_f f.length sc_f]) :: (Ms_c ++ (Ms_u ++ (Ms_f ++ []))))) ((((pmF ((pmF pr9).trans pr9)).trans pr9).cons _).trans pr9).symm (g9 3 ?_)
 refine WC.cond rfl (fun h11 => ?_) (fun h11 => ?_)
 ·refine g9 7 ?_
  refine ⟨.inr rfl, [_], ⟨rfl, trivial⟩, ((b_s, ce9 114 [lV sa_c c.length sc_c, lV sa_u u.length sc_u, lV sa_f f.length sc_f]) :: (Ms_c ++ (Ms_u ++ (Ms_f ++ [])))), sr9.k9, ?_⟩
  exact ⟨congrArg (Value.int .i64) (congrArg Prod.fst (freeA_f (st := (c, u)) (x := (none : Option Nat)) (by simpa using h11))).symm, ArR.cast (st := (c, u)) ⟨_, ⟨_, _, _, _, _, _, rfl, (h_c.mono hG24), (h_u.mono hG24), (h_f.mono hG24)⟩, hcu, hn, hh, hp⟩ (congrArg Prod.snd (freeA_f (st := (c, u)) (x := (none : Option Nat)) (by simpa using h11))).symm (by simp)⟩
 have hhi : hasN u i = true := by simpa using h11
 have hil := hasN_lt hhi
 refine g9 8 ?_
 refine WC.dw sn9.k9 (d9 [0, 1, 2, 3, 4, 5, 6, 7, 8, 9, 10] ?_)
 refine (h_c.mono hG24).a1 (i := i.toNat) om9 (fun he30 => (WD.tk 11 rfl (ok_indexAddrO (i := i.toNat) sl80 ty64 (h_c.mono hG24) rfl rfl ⟨om9, om9⟩) (WD.a1 12 rfl (W.storeO (i := i.toNat) (o := 0) (vs := [.pointer _]) (a' := (none : Option Nat)) ty64 rfl rfl rfl rfl rfl ((h_c.mono hG24)) (pmC pr9) om9 (by decide) (fun cs h => by rw [h]; rfl) (fun Ms33 ho34 => (W.perm (pmC pr9).symm (W.nn ((h_u.mono hG24).a1 (i := i.toNat) om9 (fun he35 => (WD.tk 13 rfl (ok_indexAddrO (i := i.toNat) sl111 ty4 (h_u.mono hG24) rfl rfl ⟨om9, om9⟩) (WD.a1 14 rfl (W.storeO (i := i.toNat) (o := 0) (vs := bc9) (a' := false) ty4 rfl rfl rfl rfl rfl ((h_u.mono hG24)) (pmC (pmA pr9)) om9 (by decide) (fun cs h => by rw [h]; rfl) (fun Ms39 ho40 => (W.perm (pmC pr9).symm (W.nn (g9 7 ?_))))))))))))))))
 refine W.ok (ok_mkI pi116 rfl) (W.mv (W.ok (ok_mkI pi3 rfl) (W.call (Mp := ((b_s, ce9 114 [lV sa_c c.length sc_c, lV sa_u u.length sc_u, lV sa_f f.length sc_f]) :: Ms_f)) (Mr := (Ms39 ++ (Ms33 ++ []))) (hpush_fc (least_heap (b := b_s) (Tb := 114) (c0 := lV sa_c c.length sc_c) (c1 := lV sa_u u.length sc_u)) ⟨_, _, rfl, (h_f.mono hG24)⟩ (a := i) ⟨rfl, hi⟩ (by have := hp.length_eq; have := free_used u; omega) (fun hl h => h)) rfl (((pmA (pmA pr9)).cons _).trans pr9) ?_)))
 intro v44 G41 Ms43 hG41 q42
 refine match q42 with | ⟨e_46, ⟨vf_z45, Mf_z45, e_47, hf_z45⟩⟩ => ?_
 subst e_46
 subst e_47
 have q49 := hf_z45.form
 refine match q49 with | ⟨sa_z45, sc_z45, e_48⟩ => ?_
 subst e_48
 refine W.perm (M' := ((b_s, ce9 114 [lV sa_c c.length sc_c, lV sa_u u.length sc_u, lV sa_z45 ((pushL ltI f i)).length sc_z45]) :: (Mf_z45 ++ (Ms39 ++ (Ms33 ++ []))))) ((pr9.cons _).trans pr9).symm (g9 7 ?_)
 refine WC.perm (M' := ((b_s, ce9 114 [lV sa_c c.length sc_c, lV sa_u u.length sc_u, lV sa_z45 ((pushL ltI f i)).length sc_z45]) :: (Ms33 ++ (Ms39 ++ (Mf_z45 ++ []))))) (((List.Perm.append_left _ ((List.Perm.append_left _ ((List.Perm.append_left _ pr9).trans pr9)).trans (pmA pr9))).trans (pmA (pmA pr9))).cons _) (WC.ret ?_)
 refine ⟨.inr rfl, [_], ⟨rfl, trivial⟩, ((b_s, ce9 114 [lV sa_c c.length sc_c, lV sa_u u.length sc_u, lV sa_z45 ((pushL ltI f i)).length sc_z45]) :: (Ms33 ++ (Ms39 ++ (Mf_z45 ++ [])))), sr9.k9, ?_⟩
 exact ⟨congrArg (Value.int .i64) (congrArg Prod.fst (freeA_t (st := (c, u)) (x := (none : Option Nat)) (by simpa using h11))).symm, ArR.cast (st := (c.set i.toNat (none : Option Nat), u.set i.toNat false)) ⟨_, ⟨_, _, _, _, _, _, rfl, (ho34.mono hG41), (ho40.mono hG41), hf_z45⟩, (by rw [List.length_set, List.length_set]; exact hcu), (by rw [List.length_set]; exact hn), (give_back' hh hp hhi).1, (give_back' hh hp hhi).2⟩ (congrArg Prod.snd (freeA_t (st := (c, u)) (x := (none : Option Nat)) (by simpa using h11))).symm (by simp)⟩

theorem snewp_fc {G : GH} (n : Int) :
    Fc Tryz.prog 26 [iV n] G [] (fun v G' M' => (¬ (1 ≤ n ∧ n ≤ 4096) ∧ v = .tuple #[.pointer none, iV 2] ∧ M' = []) ∨ ((1 ≤ n ∧ n ≤ 4096) ∧ ∃ b, v = .tuple #[pt9 b, iV 0] ∧ ArR ePt 64 4 3 114 b G' (List.replicate n.toNat (none : Option Nat), List.replicate n.toNat false) M')) := by
 refine Fc.go [.tmp 2, .tmp 3] Tryz.func26 Tryz.ntmps26 rfl (fun w0 => (g9 12 ?_))
 refine W.sd 8 (fun h7 p7 => ?_) (fun h7 p7 => ?_)
 ·refine g9 14 ?_
  refine ⟨.inr rfl, [_, _], ⟨rfl, rfl, trivial⟩, [], sr9, ?_⟩
  exact .inl ⟨om9, rfl, rfl⟩
 refine g9 7 ?_
 refine WC.cd (fun h10 p10 => ?_) (fun h10 p10 => ?_)
 ·refine g9 8 ?_
  refine ⟨.inr rfl, [_, _], ⟨rfl, rfl, trivial⟩, [], sr9, ?_⟩
  exact .inl ⟨om9, rfl, rfl⟩
 obtain ⟨m, rfl⟩ : ∃ m : Nat, n = (m : Int) := ⟨n.toNat, om9⟩
 refine g9 3 ?_
 refine WC.dw sr9 (d9 [0, 2] ?_)
 refine WD.any [1, 3] (by kernel_rfl) rfl ⟨WD.ap ?_, WD.ap ?_, trivial⟩
 ·refine W.mkSl (e := ePt) (a0 := (none : Option Nat)) (n := (m)) sl80 ty64 zr64 rfl by64 (rfl) rfl rfl (by first | (show _ * 8 ≤ 140737488355328; omega) | (show _ * 1 ≤ 16777216; omega) | (show _ * 1 ≤ 140737488355328; omega) | (show _ * 1 ≤ 16777216; omega)) (by first | (show _ * 8 ≤ 140737488355328; omega) | (show _ * 1 ≤ 16777216; omega) | (show _ * 1 ≤ 140737488355328; omega) | (show _ * 1 ≤ 16777216; omega)) (fun v1 Ms2 ho3 => ?_)
  have q7 := ho3.form
  refine match q7 with | ⟨sa4, sc5, e_6⟩ => ?_
  subst e_6
  refine W.nn (WD.a1 3 rfl (W.mkSl (e := eBool) (a0 := false) (n := (m)) sl111 ty4 zr4 rfl by4 (rfl) rfl rfl (by first | (show _ * 8 ≤ 140737488355328; omega) | (show _ * 1 ≤ 16777216; omega) | (show _ * 1 ≤ 140737488355328; omega) | (show _ * 1 ≤ 16777216; omega)) (by first | (show _ * 8 ≤ 140737488355328; omega) | (show _ * 1 ≤ 16777216; omega) | (show _ * 1 ≤ 140737488355328; omega) | (show _ * 1 ≤ 16777216; omega)) (fun v8 Ms9 ho10 => ?_)))
  have q14 := ho10.form
  refine match q14 with | ⟨sa11, sc12, e_13⟩ => ?_
  subst e_13
  refine W.nn (WD.tk 4 rfl (ok_build (L := [lV _ _ _, lV _ _ _, lV _ _ _]) pl114 zr114 rfl rfl rfl) (WD.a1 5 rfl (W.box (L := [lV _ _ _, lV _ _ _, lV _ _ _]) rfl rfl (fun b15 => (W.nn (d9 [6] ?_))))))
  refine g9 4 ?_
  have hR16 : ArP ePt 64 4 3 114 b15 G (List.replicate m (none : Option Nat), List.replicate m false, iotaN 0) ((b15, ce9 114 [lV sa4 ((List.replicate ((m)) (none : Option Nat))).length sc5, lV sa11 ((List.replicate ((m)) false)).length sc12, lV none 0 0]) :: (Ms2 ++ (Ms9 ++ []))) := ⟨_, _, _, _, _, _, rfl, ho3, ho10, OwnR.nil⟩
  refine WC.perm (M' := (((b15, ce9 114 [lV sa4 ((List.replicate ((m)) (none : Option Nat))).length sc5, lV sa11 ((List.replicate ((m)) false)).length sc12, lV none 0 0]) :: (Ms2 ++ (Ms9 ++ []))) ++ [])) (pr9.symm.trans ((((pmF ((pmF pr9).trans pr9)).trans (pmA pr9)).cons _).trans pr9)) (g9 6 ?_)
  refine WC.loop (X := (Nat) × MH) (fun k => [(19, nt9 k.1), (18, nt9 m), (4, pt9 b15)]) (fun k G Ml => Ml = (k.2 ++ []) ∧ ArP ePt 64 4 3 114 b15 G ((List.replicate m (none : Option Nat), List.replicate m false, iotaN k.1)) k.2 ∧ k.1 ≤ m) (fun k => m - k.1) (0, ((b15, ce9 114 [lV sa4 ((List.replicate ((m)) (none : Option Nat))).length sc5, lV sa11 ((List.replicate ((m)) false)).length sc12, lV none 0 0]) :: (Ms2 ++ (Ms9 ++ [])))) hs9 ?_ ?_
  ·exact ⟨rfl, (by exact hR16), om9⟩
  rintro ⟨k, M_4⟩ gG17 G17 _ hG17 ⟨rfl, ho_4, hk⟩
  try dsimp only at ho_4 hk
  refine WC.fr (f := setL gG17 [(19, nt9 k), (18, nt9 m), (4, pt9 b15)]) rfl (g9 6 ?_)
  refine WC.cd (fun h20 p20 => ?_) (fun h20 p20 => ?_)
  ·refine g9 10 ?_
   refine match ho_4 with | ⟨vc_u18, vu_u18, vf_u18, Mc_u18, Mu_u18, Mf_u18, eM_, hc_u18, hu_u18, hf_u18⟩ => ?_
   subst eM_
   refine WC.perm (M' := ((b15, ce9 114 [vc_u18, vu_u18, vf_u18]) :: (Mc_u18 ++ (Mu_u18 ++ (Mf_u18 ++ []))))) ((pmF (pmF pr9)).cons _).symm ?_
   dsimp only at hc_u18 hu_u18 hf_u18
   refine match hc_u18.form with | ⟨sac_u18, scc_u18, eV_⟩ => ?_
   subst eV_
   refine match hu_u18.form with | ⟨sau_u18, scu_u18, eV_⟩ => ?_
   subst eV_
   refine match hf_u18.form with | ⟨saf_u18, scf_u18, eV_⟩ => ?_
   subst eV_
   refine g9 7 ?_
   refine W.lit (e := eInt) (l := [((k : Nat) : Int)]) (css := [[iV _]]) sl112 ty3 zr3 rfl rfl rfl rfl rfl rfl ⟨⟨rfl, om9, om9⟩, trivial⟩ (fun bl19 G19 hG19 hv19 => (W.app (e := eInt) sl112 ty3 zr3 rfl by3 rfl rfl ((hf_u18.mono hG19)) (hv19) (pmC (pmA (pmA pr9))) (by show (_ + 1) * 8 ≤ _; rw [iota_len]; omega) (fun v20 Ms21 ho22 => (W.perm (pmC pr9).symm ?_))))
   have q26 := ho22.form
   refine match q26 with | ⟨sa23, sc24, e_25⟩ => ?_
   subst e_25
   refine g9 6 ?_
   have hR27 : ArP ePt 64 4 3 114 b15 G19 (List.replicate m (none : Option Nat), List.replicate m false, iotaN (k + 1)) ((b15, ce9 114 [lV sac_u18 (List.replicate m (none : Option Nat)).length scc_u18, lV sau_u18 (List.replicate m false).length scu_u18, lV sa23 ((iotaN k ++ [((k : Nat) : Int)])).length sc24]) :: (Mc_u18 ++ (Mu_u18 ++ Ms21))) := ⟨_, _, _, _, _, _, rfl, (hc_u18.mono hG19), (hu_u18.mono hG19), (by rw [iota_succ]; exact ho22)⟩
   refine WC.perm (M' := (((b15, ce9 114 [lV sac_u18 (List.replicate m (none : Option Nat)).length scc_u18, lV sau_u18 (List.replicate m false).length scu_u18, lV sa23 ((iotaN k ++ [((k : Nat) : Int)])).length sc24]) :: (Mc_u18 ++ (Mu_u18 ++ Ms21))) ++ [])) (pr9.symm.trans ((((pmF ((pmF pr9).trans (pmA pr9))).trans (pmA pr9)).cons _).trans pr9)) (g9 5 ?_)
   exact ⟨hG19, (k + 1, ((b15, ce9 114 [lV sac_u18 (List.replicate m (none : Option Nat)).length scc_u18, lV sau_u18 (List.replicate m false).length scu_u18, lV sa23 ((iotaN k ++ [((k : Nat) : Int)])).length sc24]) :: (Mc_u18 ++ (Mu_u18 ++ Ms21)))), hs9, ⟨rfl, (by exact hR27), om9⟩, om9⟩
  refine g9 6 ?_
  obtain rfl : k = m := by omega
  refine match ho_4 with | ⟨vc_u28, vu_u28, vf_u28, Mc_u28, Mu_u28, Mf_u28, eM_, hc_u28, hu_u28, hf_u28⟩ => ?_
  subst eM_
  refine WC.perm (M' := ((b15, ce9 114 [vc_u28, vu_u28, vf_u28]) :: (Mc_u28 ++ (Mu_u28 ++ (Mf_u28 ++ []))))) ((pmF (pmF pr9)).cons _).symm ?_
  dsimp only at hc_u28 hu_u28 hf_u28
  refine match hc_u28.form with | ⟨sac_u28, scc_u28, eV_⟩ => ?_
  subst eV_
  refine match hu_u28.form with | ⟨sau_u28, scu_u28, eV_⟩ => ?_
  subst eV_
  refine match hf_u28.form with | ⟨saf_u28, scf_u28, eV_⟩ => ?_
  subst eV_
  refine g9 4 ?_
  refine W.ok (ok_mkI pi116 rfl) (W.call (Mp := ((b15, ce9 114 [lV sac_u28 (List.replicate k (none : Option Nat)).length scc_u28, lV sau_u28 (List.replicate k false).length scu_u28, lV saf_u28 (iotaN k).length scf_u28]) :: Mf_u28)) (Mr := (Mc_u28 ++ (Mu_u28 ++ []))) (hinit_fc (least_heap (b := b15) (Tb := 114) (c0 := lV sac_u28 (List.replicate k (none : Option Nat)).length scc_u28) (c1 := lV sau_u28 (List.replicate k false).length scu_u28)) ⟨_, _, rfl, hf_u28⟩ (iota_heap k) (by rw [iota_len]; omega)) rfl (((pmA (pmA pr9)).cons _).trans pr9) ?_)
  intro v32 G29 Ms31 hG29 q30
  refine match q30 with | ⟨e_34, ⟨vf_z33, Mf_z33, e_35, hf_z33⟩⟩ => ?_
  subst e_34
  subst e_35
  have q37 := hf_z33.form
  refine match q37 with | ⟨sa_z33, sc_z33, e_36⟩ => ?_
  subst e_36
  refine W.perm (M' := ((b15, ce9 114 [lV sac_u28 (List.replicate k (none : Option Nat)).length scc_u28, lV sau_u28 (List.replicate k false).length scu_u28, lV sa_z33 (iotaN k).length sc_z33]) :: (Mf_z33 ++ (Mc_u28 ++ (Mu_u28 ++ []))))) ((pr9.cons _).trans pr9).symm (g9 9 ?_)
  refine WC.perm (M' := ((b15, ce9 114 [lV sac_u28 (List.replicate k (none : Option Nat)).length scc_u28, lV sau_u28 (List.replicate k false).length scu_u28, lV sa_z33 (iotaN k).length sc_z33]) :: (Mc_u28 ++ (Mu_u28 ++ (Mf_z33 ++ []))))) (((List.Perm.append_left _ ((List.Perm.append_left _ ((List.Perm.append_left _ pr9).trans pr9)).trans (pmA pr9))).trans (pmA pr9)).cons _) (WC.ret ?_)
  refine ⟨.inr rfl, [_, _], ⟨rfl, rfl, trivial⟩, ((b15, ce9 114 [lV sac_u28 (List.replicate k (none : Option Nat)).length scc_u28, lV sau_u28 (List.replicate k false).length scu_u28, lV sa_z33 (iotaN k).length sc_z33]) :: (Mc_u28 ++ (Mu_u28 ++ (Mf_z33 ++ [])))), sr9.k9, ?_⟩
  exact .inr ⟨om9, _, rfl, ArR.cast (st := (List.replicate k (none : Option Nat), List.replicate k false)) ⟨_, ⟨_, _, _, _, _, _, rfl, (hc_u28.mono hG29), (hu_u28.mono hG29), hf_z33⟩, by simp, by simp; omega, iota_heap k, List.Perm.of_eq (iota_free k)⟩ (by simp) (by simp)⟩
 refine W.mkSl (e := eBool) (a0 := false) (n := (m)) sl111 ty4 zr4 rfl by4 (rfl) rfl rfl (by first | (show _ * 8 ≤ 140737488355328; omega) | (show _ * 1 ≤ 16777216; omega) | (show _ * 1 ≤ 140737488355328; omega) | (show _ * 1 ≤ 16777216; omega)) (by first | (show _ * 8 ≤ 140737488355328; omega) | (show _ * 1 ≤ 16777216; omega) | (show _ * 1 ≤ 140737488355328; omega) | (show _ * 1 ≤ 16777216; omega)) (fun v38 Ms39 ho40 => ?_)
 have q44 := ho40.form
 refine match q44 with | ⟨sa41, sc42, e_43⟩ => ?_
 subst e_43
 refine W.nn (WD.a1 1 rfl (W.mkSl (e := ePt) (a0 := (none : Option Nat)) (n := (m)) sl80 ty64 zr64 rfl by64 (rfl) rfl rfl (by first | (show _ * 8 ≤ 140737488355328; omega) | (show _ * 1 ≤ 16777216; omega) | (show _ * 1 ≤ 140737488355328; omega) | (show _ * 1 ≤ 16777216; omega)) (by first | (show _ * 8 ≤ 140737488355328; omega) | (show _ * 1 ≤ 16777216; omega) | (show _ * 1 ≤ 140737488355328; omega) | (show _ * 1 ≤ 16777216; omega)) (fun v45 Ms46 ho47 => ?_)))
 have q51 := ho47.form
 refine match q51 with | ⟨sa48, sc49, e_50⟩ => ?_
 subst e_50
 refine W.nn (WD.tk 4 rfl (ok_build (L := [lV _ _ _, lV _ _ _, lV _ _ _]) pl114 zr114 rfl rfl rfl) (WD.a1 5 rfl (W.box (L := [lV _ _ _, lV _ _ _, lV _ _ _]) rfl rfl (fun b52 => (W.nn (d9 [6] ?_))))))
 refine g9 4 ?_
 have hR53 : ArP ePt 64 4 3 114 b52 G (List.replicate m (none : Option Nat), List.replicate m false, iotaN 0) ((b52, ce9 114 [lV sa48 ((List.replicate ((m)) (none : Option Nat))).length sc49, lV sa41 ((List.replicate ((m)) false)).length sc42, lV none 0 0]) :: (Ms46 ++ (Ms39 ++ []))) := ⟨_, _, _, _, _, _, rfl, ho47, ho40, OwnR.nil⟩
 refine WC.perm (M' := (((b52, ce9 114 [lV sa48 ((List.replicate ((m)) (none : Option Nat))).length sc49, lV sa41 ((List.replicate ((m)) false)).length sc42, lV none 0 0]) :: (Ms46 ++ (Ms39 ++ []))) ++ [])) (pr9.symm.trans ((((pmF ((pmF pr9).trans pr9)).trans pr9).cons _).trans pr9)) (g9 6 ?_)
 refine WC.loop (X := (Nat) × MH) (fun k => [(19, nt9 k.1), (18, nt9 m), (4, pt9 b52)]) (fun k G Ml => Ml = (k.2 ++ []) ∧ ArP ePt 64 4 3 114 b52 G ((List.replicate m (none : Option Nat), List.replicate m false, iotaN k.1)) k.2 ∧ k.1 ≤ m) (fun k => m - k.1) (0, ((b52, ce9 114 [lV sa48 ((List.replicate ((m)) (none : Option Nat))).length sc49, lV sa41 ((List.replicate ((m)) false)).length sc42, lV none 0 0]) :: (Ms46 ++ (Ms39 ++ [])))) hs9 ?_ ?_
 ·exact ⟨rfl, (by exact hR53), om9⟩
 rintro ⟨k, M_4⟩ gG54 G54 _ hG54 ⟨rfl, ho_4, hk⟩
 try dsimp only at ho_4 hk
 refine WC.fr (f := setL gG54 [(19, nt9 k), (18, nt9 m), (4, pt9 b52)]) rfl (g9 6 ?_)
 refine WC.cd (fun h20 p20 => ?_) (fun h20 p20 => ?_)
 ·refine g9 10 ?_
  refine match ho_4 with | ⟨vc_u55, vu_u55, vf_u55, Mc_u55, Mu_u55, Mf_u55, eM_, hc_u55, hu_u55, hf_u55⟩ => ?_
  subst eM_
  refine WC.perm (M' := ((b52, ce9 114 [vc_u55, vu_u55, vf_u55]) :: (Mc_u55 ++ (Mu_u55 ++ (Mf_u55 ++ []))))) ((pmF (pmF pr9)).cons _).symm ?_
  dsimp only at hc_u55 hu_u55 hf_u55
  refine match hc_u55.form with | ⟨sac_u55, scc_u55, eV_⟩ => ?_
  subst eV_
  refine match hu_u55.form with | ⟨sau_u55, scu_u55, eV_⟩ => ?_
  subst eV_
  refine match hf_u55.form with | ⟨saf_u55, scf_u55, eV_⟩ => ?_
  subst eV_
  refine g9 7 ?_
  refine W.lit (e := eInt) (l := [((k : Nat) : Int)]) (css := [[iV _]]) sl112 ty3 zr3 rfl rfl rfl rfl rfl rfl ⟨⟨rfl, om9, om9⟩, trivial⟩ (fun bl56 G56 hG56 hv56 => (W.app (e := eInt) sl112 ty3 zr3 rfl by3 rfl rfl ((hf_u55.mono hG56)) (hv56) (pmC (pmA (pmA pr9))) (by show (_ + 1) * 8 ≤ _; rw [iota_len]; omega) (fun v57 Ms58 ho59 => (W.perm (pmC pr9).symm ?_))))
  have q63 := ho59.form
  refine match q63 with | ⟨sa60, sc61, e_62⟩ => ?_
  subst e_62
  refine g9 6 ?_
  have hR64 : ArP ePt 64 4 3 114 b52 G56 (List.replicate m (none : Option Nat), List.replicate m false, iotaN (k + 1)) ((b52, ce9 114 [lV sac_u55 (List.replicate m (none : Option Nat)).length scc_u55, lV sau_u55 (List.replicate m false).length scu_u55, lV sa60 ((iotaN k ++ [((k : Nat) : Int)])).length sc61]) :: (Mc_u55 ++ (Mu_u55 ++ Ms58))) := ⟨_, _, _, _, _, _, rfl, (hc_u55.mono hG56), (hu_u55.mono hG56), (by rw [iota_succ]; exact ho59)⟩
  refine WC.perm (M' := (((b52, ce9 114 [lV sac_u55 (List.replicate m (none : Option Nat)).length scc_u55, lV sau_u55 (List.replicate m false).length scu_u55, lV sa60 ((iotaN k ++ [((k : Nat) : Int)])).length sc61]) :: (Mc_u55 ++ (Mu_u55 ++ Ms58))) ++ [])) (pr9.symm.trans ((((pmF ((pmF pr9).trans (pmA pr9))).trans (pmA pr9)).cons _).trans pr9)) (g9 5 ?_)
  exact ⟨hG56, (k + 1, ((b52, ce9 114 [lV sac_u55 (List.replicate m (none : Option Nat)).length scc_u55, lV sau_u55 (List.replicate m false).length scu_u55, lV sa60 ((iotaN k ++ [((k : Nat) : Int)])).length sc61]) :: (Mc_u55 ++ (Mu_u55 ++ Ms58)))), hs9, ⟨rfl, (by exact hR64), om9⟩, om9⟩
 refine g9 6 ?_
 obtain rfl : k = m := by omega
 refine match ho_4 with | ⟨vc_u65, vu_u65, vf_u65, Mc_u65, Mu_u65, Mf_u65, eM_, hc_u65, hu_u65, hf_u65⟩ => ?_
 subst eM_
 refine WC.perm (M' := ((b52, ce9 114 [vc_u65, vu_u65, vf_u65]) :: (Mc_u65 ++ (Mu_u65 ++ (Mf_u65 ++ []))))) ((pmF (pmF pr9)).cons _).symm ?_
 dsimp only at hc_u65 hu_u65 hf_u65
 refine match hc_u65.form with | ⟨sac_u65, scc_u65, eV_⟩ => ?_
 subst eV_
 refine match hu_u65.form with | ⟨sau_u65, scu_u65, eV_⟩ => ?_
 subst eV_
 refine match hf_u65.form with | ⟨saf_u65, scf_u65, eV_⟩ => ?_
 subst eV_
 refine g9 4 ?_
 refine W.ok (ok_mkI pi116 rfl) (W.call (Mp := ((b52, ce9 114 [lV sac_u65 (List.replicate k (none : Option Nat)).length scc_u65, lV sau_u65 (List.replicate k false).length scu_u65, lV saf_u65 (iotaN k).length scf_u65]) :: Mf_u65)) (Mr := (Mc_u65 ++ (Mu_u65 ++ []))) (hinit_fc (least_heap (b := b52) (Tb := 114) (c0 := lV sac_u65 (List.replicate k (none : Option Nat)).length scc_u65) (c1 := lV sau_u65 (List.replicate k false).length scu_u65)) ⟨_, _, rfl, hf_u65⟩ (iota_heap k) (by rw [iota_len]; omega)) rfl (((pmA (pmA pr9)).cons _).trans pr9) ?_)
 intro v69 G66 Ms68 hG66 q67
 refine match q67 with | ⟨e_71, ⟨vf_z70, Mf_z70, e_72, hf_z70⟩⟩ => ?_
 subst e_71
 subst e_72
 have q74 := hf_z70.form
 refine match q74 with | ⟨sa_z70, sc_z70, e_73⟩ => ?_
 subst e_73
 refine W.perm (M' := ((b52, ce9 114 [lV sac_u65 (List.replicate k (none : Option Nat)).length scc_u65, lV sau_u65 (List.replicate k false).length scu_u65, lV sa_z70 (iotaN k).length sc_z70]) :: (Mf_z70 ++ (Mc_u65 ++ (Mu_u65 ++ []))))) ((pr9.cons _).trans pr9).symm (g9 9 ?_)
 refine WC.perm (M' := ((b52, ce9 114 [lV sac_u65 (List.replicate k (none : Option Nat)).length scc_u65, lV sau_u65 (List.replicate k false).length scu_u65, lV sa_z70 (iotaN k).length sc_z70]) :: (Mc_u65 ++ (Mu_u65 ++ (Mf_z70 ++ []))))) (((List.Perm.append_left _ ((List.Perm.append_left _ ((List.Perm.append_left _ pr9).trans pr9)).trans (pmA pr9))).trans (pmA pr9)).cons _) (WC.ret ?_)
 refine ⟨.inr rfl, [_, _], ⟨rfl, rfl, trivial⟩, ((b52, ce9 114 [lV sac_u65 (List.replicate k (none : Option Nat)).length scc_u65, lV sau_u65 (List.replicate k false).length scu_u65, lV sa_z70 (iotaN k).length sc_z70]) :: (Mc_u65 ++ (Mu_u65 ++ (Mf_z70 ++ [])))), sr9.k9, ?_⟩
 exact .inr ⟨om9, _, rfl, ArR.cast (st := (List.replicate k (none : Option Nat), List.replicate k false)) ⟨_, ⟨_, _, _, _, _, _, rfl, (hc_u65.mono hG66), (hu_u65.mono hG66), hf_z70⟩, by simp, by simp; omega, iota_heap k, List.Perm.of_eq (iota_free k)⟩ (by simp) (by simp)⟩

theorem oallocp {G : GH} {b : Nat} {st : List (Option Nat) × List Bool} {M : MH} (h : ArR ePt 64 4 3 114 b G st M) (x : Nat) : Fc Tryz.prog 27 [pt9 b, pt9 x] G M (fun v G' M' => v = .tuple #[iV (nextA st (some x)).1.1, iV (nextA st (some x)).1.2] ∧ ArR ePt 64 4 3 114 b G' (nextA st (some x)).2 M') := by
  have h0 := h
  obtain ⟨f, ⟨vc, vu, vf, Mc, Mu, Mf, rfl, h1, h2, h3⟩, h4, h5, h6, h7⟩ := h
  exact sallocp_fc h1 h2 h3 x h4 h5 h6 h7
theorem ofreep {G : GH} {b : Nat} {st : List (Option Nat) × List Bool} {M : MH} (h : ArR ePt 64 4 3 114 b G st M) (i : Int) (hi : i64 i) : Fc Tryz.prog 72 [pt9 b, iV i] G M (fun v G' M' => v = iV (freeA st i (none : Option Nat)).1 ∧ ArR ePt 64 4 3 114 b G' (freeA st i (none : Option Nat)).2 M') := by
  have h0 := h
  obtain ⟨f, ⟨vc, vu, vf, Mc, Mu, Mf, rfl, h1, h2, h3⟩, h4, h5, h6, h7⟩ := h
  exact sfreep_fc h1 h2 h3 i h4 h5 h6 h7 hi
end Go.Proofs.YtemoalimclnfkaaGreat
