/- What tells of a tree of rows. -/
import Derived.Test.YtemoalimclnfkaaGreatQiWq
set_option maxRecDepth 100000
set_option maxHeartbeats 1600000
set_option linter.unusedVariables false
set_option linter.unusedSimpArgs false
set_option linter.unnecessarySimpa false
namespace Go.Proofs.YtemoalimclnfkaaGreat
open Go Go.Fw Go.RowKit
attribute [local irreducible] Ok W WC
theorem bproot_fc {G : GH} {b_t : Nat} {fan leaf : Int} {t : BTr} {Ms_t : MH} (h_t : BpM (fun ba => ArR ePt 64 4 3 114 ba) 66 70 9 b_t fan leaf G t Ms_t)  (hT : TOk fan leaf t) :
    Fc Tryz.prog 20 [pt9 b_t] G Ms_t (fun v G' M' => v = iV t.y.slot ∧ BpM (fun ba => ArR ePt 64 4 3 114 ba) 66 70 9 b_t fan leaf G' t M') := by
 obtain ⟨ba_t, root_t, cells_t, hr_t, hm_t, hv_t, hn_t⟩ := bpm_all h_t
 have hru9 : hasN t.u root_t = true := by have h9 := hT.us _ nds_head; rw [ndB_slot, ← hr_t] at h9; exact h9
 have hkh9 := hT.high
 have hrw9 := hT.few
 have hul9 := hT.len
 refine Fc.go [.tmp 2] Tryz.func20 Tryz.ntmps20 rfl (fun w0 => (WC.perm (M' := (Ms_t ++ [])) (by simp) (g9 9 ?_)))
 refine W.ok (ok_eqlPN pp27 rfl rfl) (g9 10 ?_)
 refine W.ok (ok_loadM (vs := ic9) ((List.sublist_append_left _ _).subset hm_t) ty3 rfl rfl rfl (by simp)) (g9 4 ?_)
 refine ⟨.inr rfl, [_], ⟨rfl, trivial⟩, Ms_t, List.sublist_append_left _ _, ?_⟩
 exact ⟨congrArg (Value.int .i64) hr_t, h_t⟩

theorem gused9_fc {G : GH} {ba : Nat} {vc vu vf : Value} {f : List Int} {u : List Bool} (hA : CellsG G ba 0 [vc, vu, vf]) (hu : SlR eBool G vu u) (hf : SlR eInt G vf f) (hfu : f.length ≤ u.length) :
    Fc Tryz.prog 42 [pt9 ba] G [] (fun v _ _ => v = iV ((u.length : Int) - (f.length : Int))) := by
 obtain ⟨sa_hu, sc_hu, rfl⟩ := hu.form
 obtain ⟨sa_hf, sc_hf, rfl⟩ := hf.form
 have hl := hf.len47
 have hl2 := hu.len47
 refine Fc.go [.tmp 2] Tryz.func42 Tryz.ntmps42 rfl (fun w0 => (g9 9 ?_))
 refine W.ok (ok_eqlPN pp61 rfl rfl) (g9 10 ?_)
 refine W.ok (ok_loadG (vs := lc9) ty111 (hA.drop 1) rfl rfl rfl (by simp)) (g9 4 ?_)
 refine W.ok (ok_loadG (vs := lc9) ty112 (hA.drop 2) rfl rfl rfl (by simp)) (g9 7 ?_)
 rfl

theorem gusedp_fc {G : GH} {bt ba : Nat} {root fan leaf : Int} {cells : List (Option Nat)} {u : List Bool} (h_t : TrG bt ba root fan leaf cells u G) : Fc Tryz.prog 42 [pt9 ba] G [] (fun v _ _ => v = iV ((usedN u).length : Int)) := by
  obtain ⟨hT, vc, vu, vf, hA, hc, hu, hcu, hn, f, hf, hfl⟩ := h_t
  have h9 := free_used u
  rw [show ((usedN u).length : Int) = (u.length : Int) - (f.length : Int) by omega]; exact gused9_fc hA hu hf om9
theorem glist9_fc {G : GH} {ba : Nat} {vc vu vf : Value} {f : List Int} {u : List Bool} (hA : CellsG G ba 0 [vc, vu, vf]) (hu : SlR eBool G vu u) (hf : SlR eInt G vf f) (hn : u.length ≤ 4096) :
    Fc Tryz.prog 44 [pt9 ba] G [] (fun v G' M' => OwnR eInt 3 G' v (usedN u) M') := by
 obtain ⟨sa_hu, sc_hu, rfl⟩ := hu.form
 obtain ⟨sa_hf, sc_hf, rfl⟩ := hf.form
 have hl := hf.len47
 have hl2 := hu.len47
 refine Fc.go [.tmp 2] Tryz.func44 Tryz.ntmps44 rfl (fun w0 => (g9 14 ?_))
 refine W.ok (ok_neqPN pp61 rfl rfl) (g9 8 ?_)
 refine W.ok (ok_loadG (vs := lc9) ty111 (hA.drop 1) rfl rfl rfl (by simp)) (g9 5 ?_)
 refine WC.loop (X := (Nat) × Value × MH) (fun k => [(13, nt9 k.1), (11, lV sa_hu u.length sc_hu), (12, nt9 ((u).length)), (3, k.2.1)]) (fun k G Ml => Ml = (k.2.2 ++ []) ∧ OwnR eInt 3 G k.2.1 (usedK u k.1) k.2.2 ∧ k.1 ≤ u.length) (fun k => u.length - k.1) (0, lV none 0 0, ([] : MH)) hs9 ?_ ?_
 ·exact ⟨rfl, (by exact OwnR.nil), om9⟩
 rintro ⟨k, v_3, M_3⟩ gG1 G1 _ hG1 ⟨rfl, ho_3, hk⟩
 try dsimp only at ho_3 hk
 have hkl := usedK_len u k
 refine WC.fr (f := setL gG1 [(13, nt9 k), (11, lV sa_hu u.length sc_hu), (12, nt9 ((u).length)), (3, v_3)]) rfl (g9 6 ?_)
 refine WC.cd (fun h14 p14 => ?_) (fun h14 p14 => ?_)
 ·refine g9 7 ?_
  refine (hu.mono hG1).a1 (i := k) om9 (fun he2 => (g9 11 ?_))
  refine WC.cond rfl (fun he3 => ?_) (fun he3 => ?_)
  ·refine g9 3 ?_
   refine W.lit (e := eInt) (l := [_]) (css := [[iV _]]) sl55 ty3 zr3 rfl rfl rfl rfl rfl rfl ⟨⟨rfl, om9, om9⟩, trivial⟩ (fun bl6 G6 hG6 hv6 => (W.app (e := eInt) sl55 ty3 zr3 rfl by3 rfl rfl ((ho_3.mono hG6)) (hv6) pr9 (by show (_ + 1) * 8 ≤ _; omega) (fun v7 Ms8 ho9 => (g9 9 ?_))))
   exact ⟨hG6, (k + 1, v7, Ms8), hs9, ⟨rfl, (by have h := ho9; rw [usedK_t om9 he3]; exact h), om9⟩, om9⟩
  refine g9 8 ?_
  exact ⟨Le.rfl, (k + 1, v_3, M_3), hs9, ⟨rfl, (by have h := ho_3; rw [usedK_f om9 he3]; exact h), om9⟩, om9⟩
 refine g9 12 ?_
 refine ⟨.inr rfl, [_], ⟨rfl, trivial⟩, M_3, List.sublist_append_left _ _, ?_⟩
 have hk9 : k = u.length := by omega
 have h9 := ho_3
 rw [hk9, ← used_eq] at h9
 exact h9

theorem glistp_fc {G : GH} {bt ba : Nat} {root fan leaf : Int} {cells : List (Option Nat)} {u : List Bool} (h_t : TrG bt ba root fan leaf cells u G) : Fc Tryz.prog 44 [pt9 ba] G [] (fun v G' M' => OwnR eInt 3 G' v (usedN u) M') := by
  obtain ⟨hT, vc, vu, vf, hA, hc, hu, hcu, hn, f, hf, hfl⟩ := h_t
  exact glist9_fc hA hu hf hn
theorem bpused_fc {G : GH} {b_t : Nat} {fan leaf : Int} {t : BTr} {Ms_t : MH} (h_t : BpM (fun ba => ArR ePt 64 4 3 114 ba) 66 70 9 b_t fan leaf G t Ms_t)  (hT : TOk fan leaf t) :
    Fc Tryz.prog 16 [pt9 b_t] G Ms_t (fun v G' M' => v = iV ((usedN t.u).length : Int) ∧ BpM (fun ba => ArR ePt 64 4 3 114 ba) 66 70 9 b_t fan leaf G' t M') := by
 obtain ⟨ba_t, root_t, cells_t, hr_t, hm_t, hv_t, hn_t⟩ := bpm_all h_t
 have hru9 : hasN t.u root_t = true := by have h9 := hT.us _ nds_head; rw [ndB_slot, ← hr_t] at h9; exact h9
 have hkh9 := hT.high
 have hrw9 := hT.few
 have hul9 := hT.len
 refine Fc.go [.tmp 2] Tryz.func16 Tryz.ntmps16 rfl (fun w0 => (WC.perm (M' := (Ms_t ++ [])) (by simp) (g9 9 ?_)))
 refine W.ok (ok_eqlPN pp27 rfl rfl) (g9 10 ?_)
 refine W.ok (ok_loadM (vs := [.pointer _]) ((List.sublist_append_left _ _).subset hm_t) ty61 rfl rfl rfl (by simp)) (W.lendQ (fun G1 hl1 hn1 => gusedp_fc (hv_t _ hl1 (sub_of (List.sublist_append_left _ _) hn1)).1) cl42 rfl (g9 4 ?_))
 refine ⟨.inr rfl, [_], ⟨rfl, trivial⟩, Ms_t, List.sublist_append_left _ _, ?_⟩
 exact ⟨rfl, h_t⟩

theorem bpheight_fc {G : GH} {b_t : Nat} {fan leaf : Int} {t : BTr} {Ms_t : MH} (h_t : BpM (fun ba => ArR ePt 64 4 3 114 ba) 66 70 9 b_t fan leaf G t Ms_t)  (hT : TOk fan leaf t) :
    Fc Tryz.prog 17 [pt9 b_t] G Ms_t (fun v G' M' => v = iV ((t.k : Int) + 1) ∧ BpM (fun ba => ArR ePt 64 4 3 114 ba) 66 70 9 b_t fan leaf G' t M') := by
 obtain ⟨ba_t, root_t, cells_t, hr_t, hm_t, hv_t, hn_t⟩ := bpm_all h_t
 have hru9 : hasN t.u root_t = true := by have h9 := hT.us _ nds_head; rw [ndB_slot, ← hr_t] at h9; exact h9
 have hkh9 := hT.high
 have hrw9 := hT.few
 have hul9 := hT.len
 refine Fc.go [.tmp 2] Tryz.func17 Tryz.ntmps17 rfl (fun w0 => (WC.perm (M' := (Ms_t ++ [])) (by simp) (g9 9 ?_)))
 refine W.ok (ok_eqlPN pp27 rfl rfl) (g9 11 ?_)
 refine W.ok (ok_loadM (vs := ic9) ((List.sublist_append_left _ _).subset hm_t) ty3 rfl rfl rfl (by simp)) ?_
 have q10 := hn_t _ nds_head
 refine match q10 with | ⟨b_r, vp_r, vk_r, vr_r, Mp_r, hb_r, hm_r, _⟩ => ?_
 rw [ndB_slot, ← hr_t] at hb_r
 have hlv_r : (ndB t.k t.y).lvl = (t.k : Int) := ndB_lvl
 refine W.lendQ (fun G1 hl1 hn1 => bat_fc (hv_t _ hl1 (sub_of (List.sublist_append_left _ _) hn1)).1 _ b_r hb_r hru9) cl43 rfl (g9 2 ?_)
 refine W.ok (ok_loadM (vs := ic9) ((List.sublist_append_left _ _).subset hm_r) ty3 rfl rfl rfl (by simp)) (g9 5 ?_)
 refine ⟨.inr rfl, [_], ⟨rfl, trivial⟩, Ms_t, List.sublist_append_left _ _, ?_⟩
 exact ⟨congrArg (Value.int .i64) (by rw [hlv_r]), h_t⟩

theorem scan_all {l : List Pair} (h : l.length ≤ 262144) : scanN l ⟨Str.nil, Str.nil, true⟩ 262144 = l := by
  rw [scan_big h]
  exact filt_all fun p _ => allS_has p.key
theorem bpmap_fc {G : GH} {b_t : Nat} {fan leaf : Int} {t : BTr} {Ms_t : MH} (h_t : BpM (fun ba => ArR ePt 64 4 3 114 ba) 66 70 9 b_t fan leaf G t Ms_t)  (hT : TOk fan leaf t) :
    Fc Tryz.prog 13 [pt9 b_t] G Ms_t (fun v G' M' => SlR ePair G' v t.rows ∧ BpM (fun ba => ArR ePt 64 4 3 114 ba) 66 70 9 b_t fan leaf G' t M') := by
 obtain ⟨ba_t, root_t, cells_t, hr_t, hm_t, hv_t, hn_t⟩ := bpm_all h_t
 have hru9 : hasN t.u root_t = true := by have h9 := hT.us _ nds_head; rw [ndB_slot, ← hr_t] at h9; exact h9
 have hkh9 := hT.high
 have hrw9 := hT.few
 have hul9 := hT.len
 refine Fc.go [.tmp 2] Tryz.func13 Tryz.ntmps13 rfl (fun w0 => (WC.perm (M' := (Ms_t ++ [])) (by simp) (g9 9 ?_)))
 refine W.ok (ok_eqlPN pp27 rfl rfl) (g9 6 ?_)
 refine WC.dw sr9 (d9 [0, 1, 2, 3] ?_)
 refine WD.tk 4 rfl (ok_loadM (vs := ic9) ((List.sublist_append_left _ _).subset hm_t) ty3 rfl rfl rfl (by simp)) (WD.a1 5 rfl (W.qcall (spanall_fc) rfl (W.nn (WD.a1 6 rfl (W.call (Mp := Ms_t ++ []) (Mr := []) (oscan_fc h_t hT Str.nil Str.nil true 262144 om9 root_t hr_t) rfl (of_mq (show mq ((Ms_t ++ []) ++ []) = mq (Ms_t ++ []) by first | (simp only [mq_app, mq_cons, mq_zero]; done) | (simp only [mq_app, mq_cons, mq_zero]; ac_rfl))) ?_)))))
 intro v14 G11 Ms13 hG11 q12
 refine match q12 with | ⟨Mq_l15, e_16, hL_l15⟩ => ?_
 subst e_16
 refine W.perm (M' := (Mq_l15 ++ (Ms_t ++ []))) (of_mq (show mq (Mq_l15 ++ (Ms_t ++ [])) = mq ((Ms_t ++ Mq_l15) ++ []) by first | (simp only [mq_app, mq_cons, mq_zero]; done) | (simp only [mq_app, mq_cons, mq_zero]; ac_rfl))) ?_
 have hq_l15 : OwnR ePair 84 G11 v14 (scanN t.rows ⟨Str.nil, Str.nil, true⟩ 262144) Mq_l15 := hL_l15 G11
 have q20 := hq_l15.form
 refine match q20 with | ⟨sa17, sc18, e_19⟩ => ?_
 subst e_19
 refine W.nil (WD.n9 hG11 (sr9.trans (List.sublist_append_right _ _)) (d9 [7] ?_))
 refine g9 2 ?_
 refine WC.giveO hq_l15 pr9 (fun G21 hG21 hv21 => (WC.ret ?_))
 refine ⟨.inr rfl, [_], ⟨rfl, trivial⟩, Ms_t, List.sublist_append_left _ _, ?_⟩
 exact ⟨SlR.cast hv21 (scan_all hrw9), (bpM.mono lec h_t)⟩

end Go.Proofs.YtemoalimclnfkaaGreat
namespace Go.Fw
open Go Go.RowKit
/-! ## By definition -/
def Leaf17 (x : Seat) (least most : Int) : Prop := (x.n.pivots.length + x.n.kids.length = 0 ∧ (x.n.rows.length : Int) ≤ most ∧ least ≤ (x.n.rows.length : Int)) ∧ PairsR x.n.rows ∧ ∀ i (h : i < x.n.rows.length), x.s.has x.n.rows[i].key = true
instance (x : Seat) (k m : Int) : Decidable (Leaf17 x k m) := by unfold Leaf17; infer_instance
def Inner17 (x : Seat) (least most : Int) : Prop := (x.n.rows.length = 0 ∧ (x.n.kids.length : Int) ≤ most ∧ least ≤ (x.n.kids.length : Int)) ∧ ∀ i (h : i < x.n.pivots.length), x.s.has x.n.pivots[i] = true ∧ x.n.pivots[i] ≠ x.s.lo
instance (x : Seat) (k m : Int) : Decidable (Inner17 x k m) := by unfold Inner17; infer_instance
def Seat17 (c : Cfg) (top : Bool) (x : Seat) : Prop := if x.n.level = 0 then Leaf17 x (if top = true then 0 else c.leaf.tdiv 2) c.leaf else Inner17 x (if top = true then 2 else c.fan.tdiv 2) c.fan
instance (c : Cfg) (top : Bool) (x : Seat) : Decidable (Seat17 c top x) := by unfold Seat17; infer_instance
theorem seat17_l {c : Cfg} {top : Bool} {x : Seat} (h : x.n.level = 0) : Seat17 c top x ↔ Leaf17 x (if top = true then 0 else c.leaf.tdiv 2) c.leaf := by unfold Seat17; rw [if_pos h]
theorem seat17_i {c : Cfg} {top : Bool} {x : Seat} (h : ¬ x.n.level = 0) : Seat17 c top x ↔ Inner17 x (if top = true then 2 else c.fan.tdiv 2) c.fan := by unfold Seat17; rw [if_neg h]
def Sound17 (c : Cfg) (l : List Nd) (ss : List Seat) : Prop := OnceP l ss ∧ ∀ i (h : i < ss.length), Seat17 c (decide (i = 0)) ss[i]
instance (c : Cfg) (l : List Nd) (ss : List Seat) : Decidable (Sound17 c l ss) := by unfold Sound17; infer_instance
noncomputable def sound17 (c : Cfg) (root : Int) (l : List Nd) : Bool := match seatsN l root with | none => false | some ss => decide (Sound17 c l ss)
theorem sound17_f {c : Cfg} {root : Int} {l : List Nd} (h : seatsN l root = none) : sound17 c root l = false := by rw [sound17, h]
theorem sound17_t {c : Cfg} {root : Int} {l : List Nd} {ss : List Seat} (h : seatsN l root = some ss) : sound17 c root l = decide (Sound17 c l ss) := by rw [sound17, h]
noncomputable def map17 (c : Cfg) (root : Int) (l : List Nd) : List Pair := if sound17 c root l = true then ((seatsN l root).getD []).flatMap fun x => x.n.rows else []
/-! ## From the root down -/
noncomputable def wfF (c : Cfg) (l : List Nd) : Nat → Bool → Seat → Prop
  | 0, top, x => x.n.level = 0 ∧ Seat17 c top x
  | n + 1, top, x => x.n.level = ((n + 1 : Nat) : Int) ∧ (kidsO l x).isSome = true ∧ Seat17 c top x ∧ ∀ y ∈ kidsD l x, wfF c l n false y
def SlotsNd (l : List Nd) : Prop := (l.map fun n : Nd => n.slot).Nodup
noncomputable def preS (l : List Nd) (n : Nat) (x : Seat) : List Int := (preF l n x).map fun y : Seat => y.n.slot
noncomputable def rowsF (l : List Nd) (n : Nat) (x : Seat) : List Pair := (dfsF l n x).flatMap fun y : Seat => y.n.rows
structure Good17 (c : Cfg) (root : Int) (l : List Nd) : Prop where
  found : (findN l root).2 = true
  nd : SlotsNd l
  lvl : 0 ≤ (findN l root).1.level
  wf : wfF c l (findN l root).1.level.toNat true (rootS l root)
  pre : (preS l (findN l root).1.level.toNat (rootS l root)).Nodup
  len : (preS l (findN l root).1.level.toNat (rootS l root)).length = l.length
section
variable {c : Cfg} {l : List Nd} {root : Int}
theorem find_slot {s : Int} (h : (findN l s).2 = true) : (findN l s).1.slot = s ∧ (findN l s).1 ∈ l := by
  unfold findN at h ⊢
  have h1 := of_decide_eq_true h
  cases e : (atS l s).getLast? with
  | none => rw [List.getLast?_eq_none_iff] at e; rw [e] at h1; simp at h1
  | some n =>
    have := List.mem_filter.1 (List.mem_of_getLast? e)
    exact ⟨of_decide_eq_true this.2, this.1⟩
theorem found_of {s : Int} (h : (findN l s).2 = true) : findN l (findN l s).1.slot = ((findN l s).1, true) := by rw [(find_slot h).1, ← h]
theorem kid_found {x y : Seat} (hx : (kidsO l x).isSome = true) (hy : y ∈ kidsD l x) : findN l y.n.slot = (y.n, true) ∧ y.n.level = x.n.level - 1 ∧ 0 < x.n.level := by
  by_cases h0 : x.n.level = 0
  · rw [kids_leaf h0] at hy; cases hy
  · obtain ⟨h1, h2, _, h4⟩ := kids_all hx h0
    rw [h1] at hy
    obtain ⟨j, hj, rfl⟩ := List.mem_map.1 hy
    have h5 := h4 j (List.mem_range.1 hj)
    unfold kidOk at h5
    rw [Bool.and_eq_true, decide_eq_true_eq] at h5
    exact ⟨found_of h5.1, h5.2, h2⟩
theorem lvl_pos {x : Seat} (hx : (kidsO l x).isSome = true) : 0 ≤ x.n.level := by
  by_cases h0 : x.n.level = 0
  · omega
  · have := (kids_all hx h0).2.1; omega
theorem pre_perm9 : ∀ (n : Nat) (R T : List Seat), T = R ++ T.flatMap (kidsD l) → (∀ x ∈ T, (kidsO l x).isSome = true) → (∀ x ∈ R, x.n.level = n) → T.Perm (R.flatMap (preF l n)) ∧ leavesS T = R.flatMap (dfsF l n) := by
  intro n
  induction n with
  | zero =>
    intro R T hT hs hR
    have hK : R.flatMap (kidsD l) = [] := List.flatMap_eq_nil_iff.2 fun x hx => kids_leaf (hR x hx)
    generalize hS : T.flatMap (kidsD l) = S at hT
    have hS2 : S = S.flatMap (kidsD l) := by
      conv => lhs; rw [← hS, hT]
      rw [List.flatMap_append, hK, List.nil_append]
    have hST : ∀ x ∈ S, x ∈ T := fun x hx => by rw [hT]; exact List.mem_append_right _ hx
    have hn := fix_nil2 hS2 fun x hx y hy => by have := (kid_found (hs x (hST x hx)) hy).2.1; omega
    rw [hT, hn, List.append_nil]
    refine ⟨List.Perm.of_eq (List.flatMap_singleton' R).symm, ?_⟩
    unfold leavesS
    rw [List.filter_eq_self.2 fun x hx => decide_eq_true (show x.n.level = (0 : Int) by have := hR x hx; omega)]
    exact (List.flatMap_singleton' R).symm
  | succ n ih =>
    intro R T hT hs hR
    have hRT : ∀ x ∈ R, x ∈ T := fun x hx => by rw [hT]; exact List.mem_append_left _ hx
    generalize hS : T.flatMap (kidsD l) = S at hT
    have hS2 : S = R.flatMap (kidsD l) ++ S.flatMap (kidsD l) := by
      conv => lhs; rw [← hS, hT]
      rw [List.flatMap_append]
    have hST : ∀ x ∈ S, x ∈ T := fun x hx => by rw [hT]; exact List.mem_append_right _ hx
    have h1 := ih (R.flatMap (kidsD l)) S hS2 (fun x hx => hs x (hST x hx)) fun y hy => by
      obtain ⟨x, hx, hyx⟩ := List.mem_flatMap.1 hy
      have := (kid_found (hs x (hRT x hx)) hyx).2.1
      have := hR x hx
      omega
    have h2 : leavesS R = [] := List.filter_eq_nil_iff.2 fun x hx => by have := hR x hx; simp; omega
    rw [hT]
    constructor
    · refine (List.Perm.append_left R h1.1).trans ?_
      have h3 := perm_flat (f := preF l (n + 1)) (g := fun x => [x]) (h := fun x => (kidsD l x).flatMap (preF l n)) (fun x => rfl) R
      rw [List.flatMap_singleton' R] at h3
      refine List.Perm.trans ?_ h3.symm
      rw [List.flatMap_assoc]
    · have h4 := h1.2
      unfold leavesS at *
      rw [List.filter_append, h2, List.nil_append, h4, List.flatMap_assoc]
      rfl
theorem pre_kids : ∀ (n : Nat) (top : Bool) (x : Seat), wfF c l n top x → (preF l n x).Perm (x :: (preF l n x).flatMap (kidsD l))
  | 0, top, x, h => by
    show [x].Perm (x :: [x].flatMap (kidsD l))
    rw [List.flatMap_cons, kids_leaf h.1]; exact List.Perm.refl _
  | n + 1, top, x, h => by
    show (x :: (kidsD l x).flatMap (preF l n)).Perm (x :: (x :: (kidsD l x).flatMap (preF l n)).flatMap (kidsD l))
    refine List.Perm.cons _ ?_
    rw [List.flatMap_cons, List.flatMap_assoc]
    have key : ∀ L : List Seat, (∀ y ∈ L, y ∈ kidsD l x) → (L.flatMap (preF l n)).Perm (L ++ L.flatMap fun y => (preF l n y).flatMap (kidsD l)) := by
      intro L
      induction L with
      | nil => intro _; exact List.Perm.refl _
      | cons y L ih =>
        intro hL
        rw [List.flatMap_cons, List.flatMap_cons]
        have h1 := pre_kids n false y (h.2.2.2 y (hL y (by simp)))
        have h2 := ih fun z hz => hL z (List.mem_cons_of_mem _ hz)
        refine (h1.append h2).trans ?_
        rw [List.cons_append, List.cons_append]
        refine List.Perm.cons _ ?_
        rw [← List.append_assoc, ← List.append_assoc]
        exact List.perm_append_comm.append_right _
    exact key _ fun y hy => hy
theorem wf_all : ∀ (n : Nat) (top : Bool) (x : Seat), wfF c l n top x → ∀ y ∈ preF l n x, (kidsO l y).isSome = true ∧ ∀ z ∈ kidsD l y, Seat17 c false z
  | 0, top, x, h, y, hy => by
    simp [preF] at hy
    subst hy
    exact ⟨by rw [kidsO_0 h.1]; rfl, fun z hz => by rw [kids_leaf h.1] at hz; cases hz⟩
  | n + 1, top, x, h, y, hy => by
    rcases List.mem_cons.1 hy with rfl | hy
    · refine ⟨h.2.1, fun z hz => ?_⟩
      have := h.2.2.2 z hz
      cases n with
      | zero => exact this.2
      | succ n => exact this.2.2.1
    · obtain ⟨z, hz, hyz⟩ := List.mem_flatMap.1 hy
      exact wf_all n false z (h.2.2.2 z hz) y hyz
theorem wf_top {n : Nat} {top : Bool} {x : Seat} (h : wfF c l n top x) : Seat17 c top x ∧ x.n.level = (n : Int) := by
  cases n with
  | zero => exact ⟨h.2, h.1⟩
  | succ n => exact ⟨h.2.2.1, h.1⟩
theorem seats_some {P : List Seat} {r : Seat} (hP : P.Perm (r :: P.flatMap (kidsD l))) (hk : ∀ x ∈ P, (kidsO l x).isSome = true) (hl : P.length ≤ l.length) :
    ∀ (f i : Nat) (out : List Seat), out = r :: (out.take i).flatMap (kidsD l) → (∃ R, P.Perm (out ++ R)) → i ≤ out.length → l.length + 2 ≤ f + i → ∃ ss, seatsF l f i out = some ss ∧ ∃ R, P.Perm (ss ++ R) := by
  intro f
  induction f with
  | zero =>
    intro i out ho ⟨R, hR⟩ hi hf
    have := hR.length_eq
    rw [List.length_append] at this
    omega
  | succ f ih =>
    intro i out ho ⟨R, hR⟩ hi hf
    have hlen := hR.length_eq
    rw [List.length_append] at hlen
    by_cases h : i < out.length
    · have hin : out[i] ∈ P := (hR.mem_iff).2 (List.mem_append_left _ (List.getElem_mem h))
      have hs := hk _ hin
      cases hko : kidsO l out[i] with
      | none => rw [hko] at hs; cases hs
      | some ks =>
        have hkd : kidsD l out[i] = ks := by unfold kidsD; rw [hko]; rfl
        rw [seatsF_some h (by omega) hko]
        have e : (out ++ ks).take (i + 1) = out.take i ++ [out[i]] := by
          rw [List.take_append_of_le_length (by omega), List.take_succ_eq_append_getElem h]
        have e2 : out ++ ks = r :: ((out ++ ks).take (i + 1)).flatMap (kidsD l) := by
          rw [e, List.flatMap_append, ← List.cons_append, ← ho]
          congr 1
          simp [hkd]
        refine ih (i + 1) (out ++ ks) e2 ?_ (by rw [List.length_append]; omega) (by omega)
        -- what is left over
        have h1 : P.Perm ((out ++ ks).take (i + 1) ++ (out.drop (i + 1) ++ R)) := by
          rw [e, ← List.append_assoc, List.append_assoc (out.take i), List.singleton_append, ← List.drop_eq_getElem_cons h, List.take_append_drop]
          exact hR
        have h2 := hP.trans ((h1.flatMap_right (kidsD l)).cons r)
        rw [List.flatMap_append, ← List.cons_append, ← e2] at h2
        exact ⟨_, h2⟩
    · rw [seatsF_done h]; exact ⟨out, rfl, R, hR⟩
theorem nd_map {l : List Nd} (h : SlotsNd l) {a b : Nd} (ha : a ∈ l) (hb : b ∈ l) (e : a.slot = b.slot) : a = b := by
  obtain ⟨i, hi, rfl⟩ := List.getElem_of_mem ha
  obtain ⟨j, hj, rfl⟩ := List.getElem_of_mem hb
  have h1 := List.pairwise_iff_getElem.1 h
  rcases Nat.lt_trichotomy i j with h2 | h2 | h2
  · exact absurd (by rw [List.getElem_map, List.getElem_map]; exact e) (h1 i j (by simpa using hi) (by simpa using hj) h2)
  · subst h2; rfl
  · exact absurd (by rw [List.getElem_map, List.getElem_map]; exact e.symm) (h1 j i (by simpa using hj) (by simpa using hi) h2)
theorem found_in {x : Seat} (h : findN l x.n.slot = (x.n, true)) : x.n ∈ l := by
  have := (find_slot (l := l) (s := x.n.slot) (by rw [h])).2
  rwa [h] at this
theorem root_found (h : (findN l root).2 = true) : findN l (rootS l root).n.slot = ((rootS l root).n, true) := found_of h
theorem nodup_perm {α : Type} [DecidableEq α] : ∀ {A B : List α}, A.Nodup → B.Nodup → (∀ a ∈ A, a ∈ B) → A.length = B.length → A.Perm B
  | [], B, _, _, _, hl => by rw [List.eq_nil_of_length_eq_zero hl.symm]
  | a :: A, B, hA, hB, hs, hl => by
    have hm := hs a (by simp)
    obtain ⟨h1, h2⟩ := List.nodup_cons.1 hA
    have ih := nodup_perm (A := A) (B := B.erase a) h2 (hB.erase a) (fun x hx => (List.Nodup.mem_erase_iff hB).2 ⟨fun e => h1 (e ▸ hx), hs x (List.mem_cons_of_mem _ hx)⟩) (by
      have := List.length_erase_of_mem hm
      rw [List.length_cons] at hl
      omega)
    exact (ih.cons a).trans (List.perm_cons_erase hm).symm
theorem once_of17 {ss : List Seat} (hf : ∀ x ∈ ss, findN l x.n.slot = (x.n, true)) : (OnceP l ss ↔ SlotsNd l ∧ (ss.map fun x : Seat => x.n.slot).Nodup ∧ ss.length = l.length) := by
  constructor
  · rintro ⟨h1, h2⟩
    have key : ∀ n ∈ l, ∃ x ∈ ss, x.n.slot = n.slot := fun n hn => by
      obtain ⟨i, hi, rfl⟩ := List.getElem_of_mem hn
      have h3 := h2 i hi
      cases h4 : slotS ss l[i].slot with
      | nil => rw [h4] at h3; simp at h3
      | cons x L =>
        have : x ∈ slotS ss l[i].slot := by rw [h4]; simp
        have := List.mem_filter.1 this
        exact ⟨x, this.1, of_decide_eq_true this.2⟩
    have hone : ∀ n ∈ l, (atS l n.slot).length = 1 := fun n hn => by
      obtain ⟨x, hx, e⟩ := key n hn
      have := hf x hx
      rw [e] at this
      unfold findN at this
      exact of_decide_eq_true (congrArg Prod.snd this)
    have hnd : SlotsNd l := by
      unfold SlotsNd
      rw [List.nodup_iff_count]
      intro a
      by_cases ha : a ∈ l.map fun n : Nd => n.slot
      · obtain ⟨n, hn, rfl⟩ := List.mem_map.1 ha
        have h3 := hone n hn
        unfold atS at h3
        rw [List.count_eq_countP, List.countP_map]
        rw [← List.countP_eq_length_filter] at h3
        refine Nat.le_of_eq ((List.countP_congr fun y _ => ?_).trans h3)
        simp [Function.comp]
      · rw [List.count_eq_zero_of_not_mem ha]; omega
    refine ⟨hnd, ?_, h1.symm⟩
    rw [List.nodup_iff_count]
    intro a
    by_cases ha : a ∈ ss.map fun x : Seat => x.n.slot
    · obtain ⟨x, hx, rfl⟩ := List.mem_map.1 ha
      obtain ⟨i, hi, e⟩ := List.getElem_of_mem (found_in (hf x hx))
      have h3 := h2 i hi
      rw [e] at h3
      unfold slotS at h3
      rw [List.count_eq_countP, List.countP_map]
      rw [← List.countP_eq_length_filter] at h3
      refine Nat.le_of_eq ((List.countP_congr fun y _ => ?_).trans h3)
      simp [Function.comp]
    · rw [List.count_eq_zero_of_not_mem ha]; omega
  · rintro ⟨h1, h2, h3⟩
    have hsub : ∀ a ∈ ss.map (fun x : Seat => x.n.slot), a ∈ l.map fun n : Nd => n.slot := fun a ha => by
      obtain ⟨x, hx, rfl⟩ := List.mem_map.1 ha
      exact List.mem_map.2 ⟨x.n, found_in (hf x hx), rfl⟩
    have hp : (ss.map fun x : Seat => x.n.slot).Perm (l.map fun n : Nd => n.slot) := nodup_perm h2 h1 hsub (by simp [h3])
    refine ⟨h3.symm, fun i hi => ?_⟩
    have h4 : l[i].slot ∈ ss.map fun x : Seat => x.n.slot := hp.mem_iff.2 (List.mem_map.2 ⟨l[i], List.getElem_mem hi, rfl⟩)
    have h5 : List.count l[i].slot (ss.map fun x : Seat => x.n.slot) = 1 := by
      have h6 := List.nodup_iff_count.1 h2 l[i].slot
      have h7 := List.count_pos_iff.2 h4
      omega
    rw [List.count_eq_countP, List.countP_map] at h5
    unfold slotS
    rw [← List.countP_eq_length_filter]
    refine (List.countP_congr fun y _ => ?_).trans h5
    simp [Function.comp]
end
end Go.Fw
