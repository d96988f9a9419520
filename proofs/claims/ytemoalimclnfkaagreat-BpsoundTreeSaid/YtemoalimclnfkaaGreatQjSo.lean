/- What tells of a tree of rows. -/
import Derived.Test.YtemoalimclnfkaaGreatQjSm
set_option maxRecDepth 100000
set_option maxHeartbeats 1600000
set_option linter.unusedVariables false
set_option linter.unusedSimpArgs false
set_option linter.unnecessarySimpa false
namespace Go.Proofs.YtemoalimclnfkaaGreat
open Go Go.Fw Go.RowKit
attribute [local irreducible] Ok W WC
theorem bproot_fc {G : GH} {b_t : Nat} {fan leaf : Int} {t : BTr} {Ms_t : MH} (h_t : BpM (fun ba => ArR ePt 64 4 3 114 ba) 66 70 9 b_t fan leaf G t Ms_t)  (hT : TOk fan leaf t) :
    Fc Tryz.prog 20 [pt9 b_t] G Ms_t (fun v G' M' => v = iV t.y.slot ∧ BpM (fun ba => ArR ePt 64 4 3 114 ba) 66 70 9 b_t fan leaf G' t M') := by
 obtain ⟨ba_t, root_t, cells_t, hr_t, hm_t, hv_t, hn_t⟩ := bpm_all h_t
 have hru9 : hasN t.u root_t = true := by have h9 := hT.us _ nds_head; rw [ndB_slot, ← hr_t] at h9; exact h9
 have hkh9 := hT.high
 have hrw9 := hT.few
 have hul9 := hT.len
 refine Fc.go [.tmp 2] Tryz.func20 Tryz.ntmps20 rfl (fun w0 => (WC.perm (M' := (Ms_t ++ [])) (by simp) (g9 9 ?_)))
 refine W.ok (ok_eqlPN pp27 rfl rfl) (g9 10 ?_)
 refine W.ok (ok_loadM (vs := ic9) ((List.sublist_append_left _ _).subset hm_t) ty3 rfl rfl rfl (by simp)) (g9 4 ?_)
 refine ⟨.inr rfl, [_], ⟨rfl, trivial⟩, Ms_t, List.sublist_append_left _ _, ?_⟩
 exact ⟨congrArg (Value.int .i64) hr_t, h_t⟩

theorem glist9_fc {G : GH} {ba : Nat} {vc vu vf : Value} {f : List Int} {u : List Bool} (hA : CellsG G ba 0 [vc, vu, vf]) (hu : SlR eBool G vu u) (hf : SlR eInt G vf f) (hn : u.length ≤ 4096) :
    Fc Tryz.prog 44 [pt9 ba] G [] (fun v G' M' => OwnR eInt 3 G' v (usedN u) M') := by
 obtain ⟨sa_hu, sc_hu, rfl⟩ := hu.form
 obtain ⟨sa_hf, sc_hf, rfl⟩ := hf.form
 have hl := hf.len47
 have hl2 := hu.len47
 refine Fc.go [.tmp 2] Tryz.func44 Tryz.ntmps44 rfl (fun w0 => (g9 14 ?_))
 refine W.ok (ok_neqPN pp61 rfl rfl) (g9 8 ?_)
 refine W.ok (ok_loadG (vs := lc9) ty111 (hA.drop 1) rfl rfl rfl (by simp)) (g9 5 ?_)
 refine WC.loop (X := (Nat) × Value × MH) (fun k => [(13, nt9 k.1), (11, lV sa_hu u.length sc_hu), (12, nt9 ((u).length)), (3, k.2.1)]) (fun k G Ml => Ml = (k.2.2 ++ []) ∧ OwnR eInt 3 G k.2.1 (usedK u k.1) k.2.2 ∧ k.1 ≤ u.length) (fun k => u.length - k.1) (0, lV none 0 0, ([] : MH)) hs9 ?_ ?_
 ·exact ⟨rfl, (by exact OwnR.nil), om9⟩
 rintro ⟨k, v_3, M_3⟩ gG1 G1 _ hG1 ⟨rfl, ho_3, hk⟩
 try dsimp only at ho_3 hk
 have hkl := usedK_len u k
 refine WC.fr (f := setL gG1 [(13, nt9 k), (11, lV sa_hu u.length sc_hu), (12, nt9 ((u).length)), (3, v_3)]) rfl (g9 6 ?_)
 refine WC.cd (fun h14 p14 => ?_) (fun h14 p14 => ?_)
 ·refine g9 7 ?_
  refine (hu.mono hG1).a1 (i := k) om9 (fun he2 => (g9 11 ?_))
  refine WC.cond rfl (fun he3 => ?_) (fun he3 => ?_)
  ·refine g9 3 ?_
   refine W.lit (e := eInt) (l := [_]) (css := [[iV _]]) sl55 ty3 zr3 rfl rfl rfl rfl rfl rfl ⟨⟨rfl, om9, om9⟩, trivial⟩ (fun bl6 G6 hG6 hv6 => (W.app (e := eInt) sl55 ty3 zr3 rfl by3 rfl rfl ((ho_3.mono hG6)) (hv6) pr9 (by show (_ + 1) * 8 ≤ _; omega) (fun v7 Ms8 ho9 => (g9 9 ?_))))
   exact ⟨hG6, (k + 1, v7, Ms8), hs9, ⟨rfl, (by have h := ho9; rw [usedK_t om9 he3]; exact h), om9⟩, om9⟩
  refine g9 8 ?_
  exact ⟨Le.rfl, (k + 1, v_3, M_3), hs9, ⟨rfl, (by have h := ho_3; rw [usedK_f om9 he3]; exact h), om9⟩, om9⟩
 refine g9 12 ?_
 refine ⟨.inr rfl, [_], ⟨rfl, trivial⟩, M_3, List.sublist_append_left _ _, ?_⟩
 have hk9 : k = u.length := by omega
 have h9 := ho_3
 rw [hk9, ← used_eq] at h9
 exact h9

theorem glistp_fc {G : GH} {bt ba : Nat} {root fan leaf : Int} {cells : List (Option Nat)} {u : List Bool} (h_t : TrG bt ba root fan leaf cells u G) : Fc Tryz.prog 44 [pt9 ba] G [] (fun v G' M' => OwnR eInt 3 G' v (usedN u) M') := by
  obtain ⟨hT, vc, vu, vf, hA, hc, hu, hcu, hn, f, hf, hfl⟩ := h_t
  exact glist9_fc hA hu hf hn
theorem bpheight_fc {G : GH} {b_t : Nat} {fan leaf : Int} {t : BTr} {Ms_t : MH} (h_t : BpM (fun ba => ArR ePt 64 4 3 114 ba) 66 70 9 b_t fan leaf G t Ms_t)  (hT : TOk fan leaf t) :
    Fc Tryz.prog 17 [pt9 b_t] G Ms_t (fun v G' M' => v = iV ((t.k : Int) + 1) ∧ BpM (fun ba => ArR ePt 64 4 3 114 ba) 66 70 9 b_t fan leaf G' t M') := by
 obtain ⟨ba_t, root_t, cells_t, hr_t, hm_t, hv_t, hn_t⟩ := bpm_all h_t
 have hru9 : hasN t.u root_t = true := by have h9 := hT.us _ nds_head; rw [ndB_slot, ← hr_t] at h9; exact h9
 have hkh9 := hT.high
 have hrw9 := hT.few
 have hul9 := hT.len
 refine Fc.go [.tmp 2] Tryz.func17 Tryz.ntmps17 rfl (fun w0 => (WC.perm (M' := (Ms_t ++ [])) (by simp) (g9 9 ?_)))
 refine W.ok (ok_eqlPN pp27 rfl rfl) (g9 11 ?_)
 refine W.ok (ok_loadM (vs := ic9) ((List.sublist_append_left _ _).subset hm_t) ty3 rfl rfl rfl (by simp)) ?_
 have q10 := hn_t _ nds_head
 refine match q10 with | ⟨b_r, vp_r, vk_r, vr_r, Mp_r, hb_r, hm_r, _⟩ => ?_
 rw [ndB_slot, ← hr_t] at hb_r
 have hlv_r : (ndB t.k t.y).lvl = (t.k : Int) := ndB_lvl
 refine W.lendQ (fun G1 hl1 hn1 => bat_fc (hv_t _ hl1 (sub_of (List.sublist_append_left _ _) hn1)).1 _ b_r hb_r hru9) cl43 rfl (g9 2 ?_)
 refine W.ok (ok_loadM (vs := ic9) ((List.sublist_append_left _ _).subset hm_r) ty3 rfl rfl rfl (by simp)) (g9 5 ?_)
 refine ⟨.inr rfl, [_], ⟨rfl, trivial⟩, Ms_t, List.sublist_append_left _ _, ?_⟩
 exact ⟨congrArg (Value.int .i64) (by rw [hlv_r]), h_t⟩

theorem scan_all {l : List Pair} (h : l.length ≤ 262144) : scanN l ⟨Str.nil, Str.nil, true⟩ 262144 = l := by
  rw [scan_big h]
  exact filt_all fun p _ => allS_has p.key
theorem bpmap_fc {G : GH} {b_t : Nat} {fan leaf : Int} {t : BTr} {Ms_t : MH} (h_t : BpM (fun ba => ArR ePt 64 4 3 114 ba) 66 70 9 b_t fan leaf G t Ms_t)  (hT : TOk fan leaf t) :
    Fc Tryz.prog 13 [pt9 b_t] G Ms_t (fun v G' M' => SlR ePair G' v t.rows ∧ BpM (fun ba => ArR ePt 64 4 3 114 ba) 66 70 9 b_t fan leaf G' t M') := by
 obtain ⟨ba_t, root_t, cells_t, hr_t, hm_t, hv_t, hn_t⟩ := bpm_all h_t
 have hru9 : hasN t.u root_t = true := by have h9 := hT.us _ nds_head; rw [ndB_slot, ← hr_t] at h9; exact h9
 have hkh9 := hT.high
 have hrw9 := hT.few
 have hul9 := hT.len
 refine Fc.go [.tmp 2] Tryz.func13 Tryz.ntmps13 rfl (fun w0 => (WC.perm (M' := (Ms_t ++ [])) (by simp) (g9 9 ?_)))
 refine W.ok (ok_eqlPN pp27 rfl rfl) (g9 6 ?_)
 refine WC.dw sr9 (d9 [0, 1, 2, 3] ?_)
 refine WD.tk 4 rfl (ok_loadM (vs := ic9) ((List.sublist_append_left _ _).subset hm_t) ty3 rfl rfl rfl (by simp)) (WD.a1 5 rfl (W.qcall (spanall_fc) rfl (W.nn (WD.a1 6 rfl (W.call (Mp := Ms_t ++ []) (Mr := []) (oscan_fc h_t hT Str.nil Str.nil true 262144 om9 root_t hr_t) rfl (of_mq (show mq ((Ms_t ++ []) ++ []) = mq (Ms_t ++ []) by first | (simp only [mq_app, mq_cons, mq_zero]; done) | (simp only [mq_app, mq_cons, mq_zero]; ac_rfl))) ?_)))))
 intro v14 G11 Ms13 hG11 q12
 refine match q12 with | ⟨Mq_l15, e_16, hL_l15⟩ => ?_
 subst e_16
 refine W.perm (M' := (Mq_l15 ++ (Ms_t ++ []))) (of_mq (show mq (Mq_l15 ++ (Ms_t ++ [])) = mq ((Ms_t ++ Mq_l15) ++ []) by first | (simp only [mq_app, mq_cons, mq_zero]; done) | (simp only [mq_app, mq_cons, mq_zero]; ac_rfl))) ?_
 have hq_l15 : OwnR ePair 84 G11 v14 (scanN t.rows ⟨Str.nil, Str.nil, true⟩ 262144) Mq_l15 := hL_l15 G11
 have q20 := hq_l15.form
 refine match q20 with | ⟨sa17, sc18, e_19⟩ => ?_
 subst e_19
 refine W.nil (WD.n9 hG11 (sr9.trans (List.sublist_append_right _ _)) (d9 [7] ?_))
 refine g9 2 ?_
 refine WC.giveO hq_l15 pr9 (fun G21 hG21 hv21 => (WC.ret ?_))
 refine ⟨.inr rfl, [_], ⟨rfl, trivial⟩, Ms_t, List.sublist_append_left _ _, ?_⟩
 exact ⟨SlR.cast hv21 (scan_all hrw9), (bpM.mono lec h_t)⟩

end Go.Proofs.YtemoalimclnfkaaGreat
namespace Go.Fw
open Go Go.RowKit
/-! ## By definition -/
def Leaf17 (x : Seat) (least most : Int) : Prop := (x.n.pivots.length + x.n.kids.length = 0 ∧ (x.n.rows.length : Int) ≤ most ∧ least ≤ (x.n.rows.length : Int)) ∧ PairsR x.n.rows ∧ ∀ i (h : i < x.n.rows.length), x.s.has x.n.rows[i].key = true
instance (x : Seat) (k m : Int) : Decidable (Leaf17 x k m) := by unfold Leaf17; infer_instance
def Inner17 (x : Seat) (least most : Int) : Prop := (x.n.rows.length = 0 ∧ (x.n.kids.length : Int) ≤ most ∧ least ≤ (x.n.kids.length : Int)) ∧ ∀ i (h : i < x.n.pivots.length), x.s.has x.n.pivots[i] = true ∧ x.n.pivots[i] ≠ x.s.lo
instance (x : Seat) (k m : Int) : Decidable (Inner17 x k m) := by unfold Inner17; infer_instance
def Seat17 (c : Cfg) (top : Bool) (x : Seat) : Prop := if x.n.level = 0 then Leaf17 x (if top = true then 0 else c.leaf.tdiv 2) c.leaf else Inner17 x (if top = true then 2 else c.fan.tdiv 2) c.fan
instance (c : Cfg) (top : Bool) (x : Seat) : Decidable (Seat17 c top x) := by unfold Seat17; infer_instance
theorem seat17_l {c : Cfg} {top : Bool} {x : Seat} (h : x.n.level = 0) : Seat17 c top x ↔ Leaf17 x (if top = true then 0 else c.leaf.tdiv 2) c.leaf := by unfold Seat17; rw [if_pos h]
theorem seat17_i {c : Cfg} {top : Bool} {x : Seat} (h : ¬ x.n.level = 0) : Seat17 c top x ↔ Inner17 x (if top = true then 2 else c.fan.tdiv 2) c.fan := by unfold Seat17; rw [if_neg h]
def Sound17 (c : Cfg) (l : List Nd) (ss : List Seat) : Prop := OnceP l ss ∧ ∀ i (h : i < ss.length), Seat17 c (decide (i = 0)) ss[i]
instance (c : Cfg) (l : List Nd) (ss : List Seat) : Decidable (Sound17 c l ss) := by unfold Sound17; infer_instance
noncomputable def sound17 (c : Cfg) (root : Int) (l : List Nd) : Bool := match seatsN l root with | none => false | some ss => decide (Sound17 c l ss)
theorem sound17_f {c : Cfg} {root : Int} {l : List Nd} (h : seatsN l root = none) : sound17 c root l = false := by rw [sound17, h]
theorem sound17_t {c : Cfg} {root : Int} {l : List Nd} {ss : List Seat} (h : seatsN l root = some ss) : sound17 c root l = decide (Sound17 c l ss) := by rw [sound17, h]
noncomputable def map17 (c : Cfg) (root : Int) (l : List Nd) : List Pair := if sound17 c root l = true then ((seatsN l root).getD []).flatMap fun x => x.n.rows else []
/-! ## From the root down -/
noncomputable def wfF (c : Cfg) (l : List Nd) : Nat → Bool → Seat → Prop
  | 0, top, x => x.n.level = 0 ∧ Seat17 c top x
  | n + 1, top, x => x.n.level = ((n + 1 : Nat) : Int) ∧ (kidsO l x).isSome = true ∧ Seat17 c top x ∧ ∀ y ∈ kidsD l x, wfF c l n false y
def SlotsNd (l : List Nd) : Prop := (l.map fun n : Nd => n.slot).Nodup
noncomputable def preS (l : List Nd) (n : Nat) (x : Seat) : List Int := (preF l n x).map fun y : Seat => y.n.slot
noncomputable def rowsF (l : List Nd) (n : Nat) (x : Seat) : List Pair := (dfsF l n x).flatMap fun y : Seat => y.n.rows
structure Good17 (c : Cfg) (root : Int) (l : List Nd) : Prop where
  found : (findN l root).2 = true
  nd : SlotsNd l
  lvl : 0 ≤ (findN l root).1.level
  wf : wfF c l (findN l root).1.level.toNat true (rootS l root)
  pre : (preS l (findN l root).1.level.toNat (rootS l root)).Nodup
  len : (preS l (findN l root).1.level.toNat (rootS l root)).length = l.length
section
variable {c : Cfg} {l : List Nd} {root : Int}
theorem find_slot {s : Int} (h : (findN l s).2 = true) : (findN l s).1.slot = s ∧ (findN l s).1 ∈ l := by
  unfold findN at h ⊢
  have h1 := of_decide_eq_true h
  cases e : (atS l s).getLast? with
  | none => rw [List.getLast?_eq_none_iff] at e; rw [e] at h1; simp at h1
  | some n =>
    have := List.mem_filter.1 (List.mem_of_getLast? e)
    exact ⟨of_decide_eq_true this.2, this.1⟩
theorem found_of {s : Int} (h : (findN l s).2 = true) : findN l (findN l s).1.slot = ((findN l s).1, true) := by rw [(find_slot h).1, ← h]
theorem kid_found {x y : Seat} (hx : (kidsO l x).isSome = true) (hy : y ∈ kidsD l x) : findN l y.n.slot = (y.n, true) ∧ y.n.level = x.n.level - 1 ∧ 0 < x.n.level := by
  by_cases h0 : x.n.level = 0
  · rw [kids_leaf h0] at hy; cases hy
  · obtain ⟨h1, h2, _, h4⟩ := kids_all hx h0
    rw [h1] at hy
    obtain ⟨j, hj, rfl⟩ := List.mem_map.1 hy
    have h5 := h4 j (List.mem_range.1 hj)
    unfold kidOk at h5
    rw [Bool.and_eq_true, decide_eq_true_eq] at h5
    exact ⟨found_of h5.1, h5.2, h2⟩
theorem lvl_pos {x : Seat} (hx : (kidsO l x).isSome = true) : 0 ≤ x.n.level := by
  by_cases h0 : x.n.level = 0
  · omega
  · have := (kids_all hx h0).2.1; omega
theorem pre_perm9 : ∀ (n : Nat) (R T : List Seat), T = R ++ T.flatMap (kidsD l) → (∀ x ∈ T, (kidsO l x).isSome = true) → (∀ x ∈ R, x.n.level = n) → T.Perm (R.flatMap (preF l n)) ∧ leavesS T = R.flatMap (dfsF l n) := by
  intro n
  induction n with
  | zero =>
    intro R T hT hs hR
    have hK : R.flatMap (kidsD l) = [] := List.flatMap_eq_nil_iff.2 fun x hx => kids_leaf (hR x hx)
    generalize hS : T.flatMap (kidsD l) = S at hT
    have hS2 : S = S.flatMap (kidsD l) := by
      conv => lhs; rw [← hS, hT]
      rw [List.flatMap_append, hK, List.nil_append]
    have hST : ∀ x ∈ S, x ∈ T := fun x hx => by rw [hT]; exact List.mem_append_right _ hx
    have hn := fix_nil2 hS2 fun x hx y hy => by have := (kid_found (hs x (hST x hx)) hy).2.1; omega
    rw [hT, hn, List.append_nil]
    refine ⟨List.Perm.of_eq (List.flatMap_singleton' R).symm, ?_⟩
    unfold leavesS
    rw [List.filter_eq_self.2 fun x hx => decide_eq_true (show x.n.level = (0 : Int) by have := hR x hx; omega)]
    exact (List.flatMap_singleton' R).symm
  | succ n ih =>
    intro R T hT hs hR
    have hRT : ∀ x ∈ R, x ∈ T := fun x hx => by rw [hT]; exact List.mem_append_left _ hx
    generalize hS : T.flatMap (kidsD l) = S at hT
    have hS2 : S = R.flatMap (kidsD l) ++ S.flatMap (kidsD l) := by
      conv => lhs; rw [← hS, hT]
      rw [List.flatMap_append]
    have hST : ∀ x ∈ S, x ∈ T := fun x hx => by rw [hT]; exact List.mem_append_right _ hx
    have h1 := ih (R.flatMap (kidsD l)) S hS2 (fun x hx => hs x (hST x hx)) fun y hy => by
      obtain ⟨x, hx, hyx⟩ := List.mem_flatMap.1 hy
      have := (kid_found (hs x (hRT x hx)) hyx).2.1
      have := hR x hx
      omega
    have h2 : leavesS R = [] := List.filter_eq_nil_iff.2 fun x hx => by have := hR x hx; simp; omega
    rw [hT]
    constructor
    · refine (List.Perm.append_left R h1.1).trans ?_
      have h3 := perm_flat (f := preF l (n + 1)) (g := fun x => [x]) (h := fun x => (kidsD l x).flatMap (preF l n)) (fun x => rfl) R
      rw [List.flatMap_singleton' R] at h3
      refine List.Perm.trans ?_ h3.symm
      rw [List.flatMap_assoc]
    · have h4 := h1.2
      unfold leavesS at *
      rw [List.filter_append, h2, List.nil_append, h4, List.flatMap_assoc]
      rfl
theorem pre_kids : ∀ (n : Nat) (top : Bool) (x : Seat), wfF c l n top x → (preF l n x).Perm (x :: (preF l n x).flatMap (kidsD l))
  | 0, top, x, h => by
    show [x].Perm (x :: [x].flatMap (kidsD l))
    rw [List.flatMap_cons, kids_leaf h.1]; exact List.Perm.refl _
  | n + 1, top, x, h => by
    show (x :: (kidsD l x).flatMap (preF l n)).Perm (x :: (x :: (kidsD l x).flatMap (preF l n)).flatMap (kidsD l))
    refine List.Perm.cons _ ?_
    rw [List.flatMap_cons, List.flatMap_assoc]
    have key : ∀ L : List Seat, (∀ y ∈ L, y ∈ kidsD l x) → (L.flatMap (preF l n)).Perm (L ++ L.flatMap fun y => (preF l n y).flatMap (kidsD l)) := by
      intro L
      induction L with
      | nil => intro _; exact List.Perm.refl _
      | cons y L ih =>
        intro hL
        rw [List.flatMap_cons, List.flatMap_cons]
        have h1 := pre_kids n false y (h.2.2.2 y (hL y (by simp)))
        have h2 := ih fun z hz => hL z (List.mem_cons_of_mem _ hz)
        refine (h1.append h2).trans ?_
        rw [List.cons_append, List.cons_append]
        refine List.Perm.cons _ ?_
        rw [← List.append_assoc, ← List.append_assoc]
        exact List.perm_append_comm.append_right _
    exact key _ fun y hy => hy
theorem wf_all : ∀ (n : Nat) (top : Bool) (x : Seat), wfF c l n top x → ∀ y ∈ preF l n x, (kidsO l y).isSome = true ∧ ∀ z ∈ kidsD l y, Seat17 c false z
  | 0, top, x, h, y, hy => by
    simp [preF] at hy
    subst hy
    exact ⟨by rw [kidsO_0 h.1]; rfl, fun z hz => by rw [kids_leaf h.1] at hz; cases hz⟩
  | n + 1, top, x, h, y, hy => by
    rcases List.mem_cons.1 hy with rfl | hy
    · refine ⟨h.2.1, fun z hz => ?_⟩
      have := h.2.2.2 z hz
      cases n with
      | zero => exact this.2
      | succ n => exact this.2.2.1
    · obtain ⟨z, hz, hyz⟩ := List.mem_flatMap.1 hy
      exact wf_all n false z (h.2.2.2 z hz) y hyz
theorem wf_top {n : Nat} {top : Bool} {x : Seat} (h : wfF c l n top x) : Seat17 c top x ∧ x.n.level = (n : Int) := by
  cases n with
  | zero => exact ⟨h.2, h.1⟩
  | succ n => exact ⟨h.2.2.1, h.1⟩
theorem seats_some {P : List Seat} {r : Seat} (hP : P.Perm (r :: P.flatMap (kidsD l))) (hk : ∀ x ∈ P, (kidsO l x).isSome = true) (hl : P.length ≤ l.length) :
    ∀ (f i : Nat) (out : List Seat), out = r :: (out.take i).flatMap (kidsD l) → (∃ R, P.Perm (out ++ R)) → i ≤ out.length → l.length + 2 ≤ f + i → ∃ ss, seatsF l f i out = some ss ∧ ∃ R, P.Perm (ss ++ R) := by
  intro f
  induction f with
  | zero =>
    intro i out ho ⟨R, hR⟩ hi hf
    have := hR.length_eq
    rw [List.length_append] at this
    omega
  | succ f ih =>
    intro i out ho ⟨R, hR⟩ hi hf
    have hlen := hR.length_eq
    rw [List.length_append] at hlen
    by_cases h : i < out.length
    · have hin : out[i] ∈ P := (hR.mem_iff).2 (List.mem_append_left _ (List.getElem_mem h))
      have hs := hk _ hin
      cases hko : kidsO l out[i] with
      | none => rw [hko] at hs; cases hs
      | some ks =>
        have hkd : kidsD l out[i] = ks := by unfold kidsD; rw [hko]; rfl
        rw [seatsF_some h (by omega) hko]
        have e : (out ++ ks).take (i + 1) = out.take i ++ [out[i]] := by
          rw [List.take_append_of_le_length (by omega), List.take_succ_eq_append_getElem h]
        have e2 : out ++ ks = r :: ((out ++ ks).take (i + 1)).flatMap (kidsD l) := by
          rw [e, List.flatMap_append, ← List.cons_append, ← ho]
          congr 1
          simp [hkd]
        refine ih (i + 1) (out ++ ks) e2 ?_ (by rw [List.length_append]; omega) (by omega)
        -- what is left over
        have h1 : P.Perm ((out ++ ks).take (i + 1) ++ (out.drop (i + 1) ++ R)) := by
          rw [e, ← List.append_assoc, List.append_assoc (out.take i), List.singleton_append, ← List.drop_eq_getElem_cons h, List.take_append_drop]
          exact hR
        have h2 := hP.trans ((h1.flatMap_right (kidsD l)).cons r)
        rw [List.flatMap_append, ← List.cons_append, ← e2] at h2
        exact ⟨_, h2⟩
    · rw [seatsF_done h]; exact ⟨out, rfl, R, hR⟩
theorem nd_map {l : List Nd} (h : SlotsNd l) {a b : Nd} (ha : a ∈ l) (hb : b ∈ l) (e : a.slot = b.slot) : a = b := by
  obtain ⟨i, hi, rfl⟩ := List.getElem_of_mem ha
  obtain ⟨j, hj, rfl⟩ := List.getElem_of_mem hb
  have h1 := List.pairwise_iff_getElem.1 h
  rcases Nat.lt_trichotomy i j with h2 | h2 | h2
  · exact absurd (by rw [List.getElem_map, List.getElem_map]; exact e) (h1 i j (by simpa using hi) (by simpa using hj) h2)
  · subst h2; rfl
  · exact absurd (by rw [List.getElem_map, List.getElem_map]; exact e.symm) (h1 j i (by simpa using hj) (by simpa using hi) h2)
theorem found_in {x : Seat} (h : findN l x.n.slot = (x.n, true)) : x.n ∈ l := by
  have := (find_slot (l := l) (s := x.n.slot) (by rw [h])).2
  rwa [h] at this
theorem root_found (h : (findN l root).2 = true) : findN l (rootS l root).n.slot = ((rootS l root).n, true) := found_of h
theorem nodup_perm {α : Type} [DecidableEq α] : ∀ {A B : List α}, A.Nodup → B.Nodup → (∀ a ∈ A, a ∈ B) → A.length = B.length → A.Perm B
  | [], B, _, _, _, hl => by rw [List.eq_nil_of_length_eq_zero hl.symm]
  | a :: A, B, hA, hB, hs, hl => by
    have hm := hs a (by simp)
    obtain ⟨h1, h2⟩ := List.nodup_cons.1 hA
    have ih := nodup_perm (A := A) (B := B.erase a) h2 (hB.erase a) (fun x hx => (List.Nodup.mem_erase_iff hB).2 ⟨fun e => h1 (e ▸ hx), hs x (List.mem_cons_of_mem _ hx)⟩) (by
      have := List.length_erase_of_mem hm
      rw [List.length_cons] at hl
      omega)
    exact (ih.cons a).trans (List.perm_cons_erase hm).symm
theorem once_of17 {ss : List Seat} (hf : ∀ x ∈ ss, findN l x.n.slot = (x.n, true)) : (OnceP l ss ↔ SlotsNd l ∧ (ss.map fun x : Seat => x.n.slot).Nodup ∧ ss.length = l.length) := by
  constructor
  · rintro ⟨h1, h2⟩
    have key : ∀ n ∈ l, ∃ x ∈ ss, x.n.slot = n.slot := fun n hn => by
      obtain ⟨i, hi, rfl⟩ := List.getElem_of_mem hn
      have h3 := h2 i hi
      cases h4 : slotS ss l[i].slot with
      | nil => rw [h4] at h3; simp at h3
      | cons x L =>
        have : x ∈ slotS ss l[i].slot := by rw [h4]; simp
        have := List.mem_filter.1 this
        exact ⟨x, this.1, of_decide_eq_true this.2⟩
    have hone : ∀ n ∈ l, (atS l n.slot).length = 1 := fun n hn => by
      obtain ⟨x, hx, e⟩ := key n hn
      have := hf x hx
      rw [e] at this
      unfold findN at this
      exact of_decide_eq_true (congrArg Prod.snd this)
    have hnd : SlotsNd l := by
      unfold SlotsNd
      rw [List.nodup_iff_count]
      intro a
      by_cases ha : a ∈ l.map fun n : Nd => n.slot
      · obtain ⟨n, hn, rfl⟩ := List.mem_map.1 ha
        have h3 := hone n hn
        unfold atS at h3
        rw [List.count_eq_countP, List.countP_map]
        rw [← List.countP_eq_length_filter] at h3
        refine Nat.le_of_eq ((List.countP_congr fun y _ => ?_).trans h3)
        simp [Function.comp]
      · rw [List.count_eq_zero_of_not_mem ha]; omega
    refine ⟨hnd, ?_, h1.symm⟩
    rw [List.nodup_iff_count]
    intro a
    by_cases ha : a ∈ ss.map fun x : Seat => x.n.slot
    · obtain ⟨x, hx, rfl⟩ := List.mem_map.1 ha
      obtain ⟨i, hi, e⟩ := List.getElem_of_mem (found_in (hf x hx))
      have h3 := h2 i hi
      rw [e] at h3
      unfold slotS at h3
      rw [List.count_eq_countP, List.countP_map]
      rw [← List.countP_eq_length_filter] at h3
      refine Nat.le_of_eq ((List.countP_congr fun y _ => ?_).trans h3)
      simp [Function.comp]
    · rw [List.count_eq_zero_of_not_mem ha]; omega
  · rintro ⟨h1, h2, h3⟩
    have hsub : ∀ a ∈ ss.map (fun x : Seat => x.n.slot), a ∈ l.map fun n : Nd => n.slot := fun a ha => by
      obtain ⟨x, hx, rfl⟩ := List.mem_map.1 ha
      exact List.mem_map.2 ⟨x.n, found_in (hf x hx), rfl⟩
    have hp : (ss.map fun x : Seat => x.n.slot).Perm (l.map fun n : Nd => n.slot) := nodup_perm h2 h1 hsub (by simp [h3])
    refine ⟨h3.symm, fun i hi => ?_⟩
    have h4 : l[i].slot ∈ ss.map fun x : Seat => x.n.slot := hp.mem_iff.2 (List.mem_map.2 ⟨l[i], List.getElem_mem hi, rfl⟩)
    have h5 : List.count l[i].slot (ss.map fun x : Seat => x.n.slot) = 1 := by
      have h6 := List.nodup_iff_count.1 h2 l[i].slot
      have h7 := List.count_pos_iff.2 h4
      omega
    rw [List.count_eq_countP, List.countP_map] at h5
    unfold slotS
    rw [← List.countP_eq_length_filter]
    refine (List.countP_congr fun y _ => ?_).trans h5
    simp [Function.comp]
end
section
variable {c : Cfg} {l : List Nd} {root : Int}
theorem all_found {ss : List Seat} (hf : (findN l root).2 = true) (he : ss = rootS l root :: ss.flatMap (kidsD l)) (hk : ∀ x ∈ ss, (kidsO l x).isSome = true) : ∀ x ∈ ss, findN l x.n.slot = (x.n, true) := fun x hx => by
  rw [he] at hx
  rcases List.mem_cons.1 hx with rfl | hx
  · exact root_found hf
  · obtain ⟨y, hy, hxy⟩ := List.mem_flatMap.1 hx
    exact (kid_found (hk y hy) hxy).1
theorem top_idx {ss : List Seat} (he : ss = rootS l root :: ss.flatMap (kidsD l)) : (∀ i (h : i < ss.length), Seat17 c (decide (i = 0)) ss[i]) ↔ Seat17 c true (rootS l root) ∧ ∀ x ∈ ss, ∀ y ∈ kidsD l x, Seat17 c false y := by
  constructor
  · intro h
    have hp : 0 < ss.length := by rw [he]; simp
    refine ⟨?_, fun x hx y hy => ?_⟩
    · have h0 := h 0 hp
      have e : ss[0] = rootS l root := by
        have : ss[0]? = some (rootS l root) := by rw [he]; rfl
        rw [List.getElem?_eq_getElem hp] at this
        exact Option.some.inj this
      rw [e] at h0
      exact h0
    · have hm : y ∈ ss.flatMap (kidsD l) := List.mem_flatMap.2 ⟨x, hx, hy⟩
      obtain ⟨j, hj, e⟩ := List.getElem_of_mem hm
      have hlen : ss.length = (ss.flatMap (kidsD l)).length + 1 := (congrArg List.length he).trans List.length_cons
      have h1 := h (j + 1) (by omega)
      have e2 : ss[j + 1]'(by omega) = y := by
        have : ss[j + 1]? = some y := by
          conv => lhs; rw [he]
          rw [List.getElem?_cons_succ, List.getElem?_eq_getElem hj, e]
        rw [List.getElem?_eq_getElem (by omega)] at this
        exact Option.some.inj this
      rw [e2] at h1
      simpa using h1
  · rintro ⟨h1, h2⟩ i hi
    cases i with
    | zero =>
      have e : ss[0] = rootS l root := by
        have : ss[0]? = some (rootS l root) := by rw [he]; rfl
        rw [List.getElem?_eq_getElem hi] at this
        exact Option.some.inj this
      rw [e]; exact h1
    | succ j =>
      have hlen : ss.length = (ss.flatMap (kidsD l)).length + 1 := (congrArg List.length he).trans List.length_cons
      have hj : j < (ss.flatMap (kidsD l)).length := by omega
      have e2 : ss[j + 1] = (ss.flatMap (kidsD l))[j] := by
        have : ss[j + 1]? = some (ss.flatMap (kidsD l))[j] := by
          conv => lhs; rw [he]
          rw [List.getElem?_cons_succ, List.getElem?_eq_getElem hj]
        rw [List.getElem?_eq_getElem hi] at this
        exact Option.some.inj this
      obtain ⟨x, hx, hy⟩ := List.mem_flatMap.1 (List.getElem_mem hj)
      rw [e2]
      have := h2 x hx _ hy
      simpa using this
theorem good_of (h : sound17 c root l = true) : Good17 c root l := by
  cases hs : seatsN l root with
  | none => rw [sound17_f hs] at h; cases h
  | some ss =>
    rw [sound17_t hs] at h
    obtain ⟨h1, h2⟩ := of_decide_eq_true h
    obtain ⟨f1, f2, f3⟩ := seats_fix hs
    have hf := all_found f1 f2 f3
    obtain ⟨n1, n2, n3⟩ := (once_of17 hf).1 h1
    obtain ⟨t1, t2⟩ := (top_idx f2).1 h2
    have hr : rootS l root ∈ ss := by rw [f2]; simp
    have hl := lvl_pos (f3 _ hr)
    have hl2 : 0 ≤ (findN l root).1.level := hl
    have hp := (pre_perm9 (findN l root).1.level.toNat [rootS l root] ss f2 f3 (fun x hx => by simp at hx; rw [hx]; show (findN l root).1.level = _; omega)).1
    rw [List.flatMap_cons, List.flatMap_nil, List.append_nil] at hp
    have hps := hp.map fun y : Seat => y.n.slot
    have hwf : ∀ (n : Nat) (top : Bool) (x : Seat), x ∈ ss → x.n.level = n → Seat17 c top x → wfF c l n top x := by
      intro n
      induction n with
      | zero => intro top x hx hn hq; exact ⟨hn, hq⟩
      | succ n ih =>
        intro top x hx hn hq
        refine ⟨hn, f3 x hx, hq, fun y hy => ih false y ?_ ?_ (t2 x hx y hy)⟩
        · rw [f2]; exact List.mem_cons_of_mem _ (List.mem_flatMap.2 ⟨x, hx, hy⟩)
        · have := (kid_found (f3 x hx) hy).2.1; omega
    refine ⟨f1, n1, hl2, hwf _ true _ hr (by show (findN l root).1.level = _; omega) t1, (hps.nodup_iff).1 n2, ?_⟩
    unfold preS
    rw [← hps.length_eq, List.length_map, n3]
theorem Good17.seats (h : Good17 c root l) : ∃ ss, seatsN l root = some ss ∧ Sound17 c l ss ∧ leavesS ss = dfsF l (findN l root).1.level.toNat (rootS l root) := by
  have hw := wf_all _ _ _ h.wf
  have hl : (rootS l root).n.level = (((findN l root).1.level.toNat : Nat) : Int) := by show (findN l root).1.level = _; have := h.lvl; omega
  have hP := pre_kids _ _ _ h.wf
  have hlen := h.len
  unfold preS at hlen
  rw [List.length_map] at hlen
  obtain ⟨ss, hs, R, hR⟩ := seats_some hP (fun x hx => (hw x hx).1) (by omega) (l.length + 2) 0 [rootS l root] rfl ⟨_, hP⟩ (by simp) (by omega)
  have hsN : seatsN l root = some ss := by unfold seatsN; rw [if_pos h.found]; exact hs
  obtain ⟨f1, f2, f3⟩ := seats_fix hsN
  obtain ⟨hp, hlv⟩ := pre_perm9 (findN l root).1.level.toNat [rootS l root] ss f2 f3 (fun x hx => by simp at hx; rw [hx]; exact hl)
  rw [List.flatMap_cons, List.flatMap_nil, List.append_nil] at hp hlv
  have hps := hp.map fun y : Seat => y.n.slot
  refine ⟨ss, hsN, ⟨(once_of17 (all_found f1 f2 f3)).2 ⟨h.nd, (hps.nodup_iff).2 h.pre, ?_⟩, (top_idx f2).2 ⟨(wf_top h.wf).1, fun x hx y hy => ?_⟩⟩, hlv⟩
  · rw [hp.length_eq]; exact hlen
  · exact (hw x (hp.mem_iff.1 hx)).2 y hy
theorem sound_iff17 : sound17 c root l = true ↔ Good17 c root l := by
  constructor
  · exact good_of
  · intro h
    obtain ⟨ss, h1, h2, _⟩ := h.seats
    rw [sound17_t h1]; exact decide_eq_true h2
theorem map17_good (h : Good17 c root l) : map17 c root l = rowsF l (findN l root).1.level.toNat (rootS l root) := by
  obtain ⟨ss, h1, h2, h3⟩ := h.seats
  unfold map17
  rw [if_pos (sound_iff17.2 h), h1]
  show ss.flatMap _ = _
  unfold rowsF
  rw [← h3]
  obtain ⟨f1, f2, f3⟩ := seats_fix h1
  obtain ⟨t1, t2⟩ := (top_idx f2).1 h2.2
  have hz : ∀ x ∈ ss, ¬ x.n.level = 0 → x.n.rows = [] := fun x hx h0 => by
    have key : ∀ top, Seat17 c top x → x.n.rows = [] := fun top hq => by
      unfold Seat17 at hq
      rw [if_neg h0] at hq
      exact List.eq_nil_of_length_eq_zero hq.1.1
    have hx2 := hx
    rw [f2] at hx2
    rcases List.mem_cons.1 hx2 with e | hx2
    · exact key true (e ▸ t1)
    · obtain ⟨y, hy, hxy⟩ := List.mem_flatMap.1 hx2
      exact key false (t2 y hy x hxy)
  have key : ∀ L : List Seat, (∀ x ∈ L, x ∈ ss) → (L.flatMap fun x => x.n.rows) = (leavesS L).flatMap fun x => x.n.rows := by
    intro L
    induction L with
    | nil => intro _; rfl
    | cons x L ih =>
      intro hL
      have ih := ih fun y hy => hL y (List.mem_cons_of_mem _ hy)
      unfold leavesS at ih ⊢
      rw [List.flatMap_cons, List.filter_cons, ih]
      by_cases h0 : x.n.level = 0
      · rw [if_pos (decide_eq_true h0), List.flatMap_cons]
      · rw [if_neg (by simpa using h0), hz x (hL x (by simp)) h0]; rfl
  exact key ss fun x hx => hx
theorem map17_bad (h : ¬ Good17 c root l) : map17 c root l = [] := if_neg fun e => h (sound_iff17.1 e)
/-! ## Going down with what has been met -/
structure After (l : List Nd) (n : Nat) (x : Seat) (mt mt' : List (Int × Bool)) : Prop where
  len : mt'.length = mt.length + (preS l n x).length
  get : ∀ s, getM mt' s = if s ∈ preS l n x then some true else getM mt s
def Down (c : Cfg) (l : List Nd) (n : Nat) (top : Bool) (x : Seat) (mt : List (Int × Bool)) : Prop := wfF c l n top x ∧ (preS l n x).Nodup ∧ ∀ s ∈ preS l n x, getM mt s = none
theorem preS_0 (x : Seat) : preS l 0 x = [x.n.slot] := rfl
theorem preS_succ (n : Nat) (x : Seat) : preS l (n + 1) x = x.n.slot :: (kidsD l x).flatMap (preS l n) := by
  unfold preS
  rw [preF, List.map_cons, List.map_flatMap]
noncomputable def preK (l : List Nd) (n : Nat) (x : Seat) (j : Nat) : List Int := x.n.slot :: (kidsF l x j).flatMap (preS l n)
theorem preK_0 (n : Nat) (x : Seat) : preK l n x 0 = [x.n.slot] := rfl
theorem preK_succ (n : Nat) (x : Seat) (j : Nat) : preK l n x (j + 1) = preK l n x j ++ preS l n (kidSt l x j) := by
  unfold preK
  rw [kidsF_succ, List.flatMap_append]
  simp
theorem preK_all {n : Nat} {x : Seat} (h : (kidsO l x).isSome = true) (h0 : ¬ x.n.level = 0) : preK l n x x.n.kids.length = preS l (n + 1) x := by
  unfold preK
  rw [preS_succ, (kids_all h h0).1]
theorem kidsF_take (x : Seat) {j m : Nat} (h : j ≤ m) : kidsF l x m = kidsF l x j ++ (kidsF l x m).drop j := by
  have : kidsF l x j = (kidsF l x m).take j := by
    unfold kidsF
    rw [← List.map_take, List.take_range, Nat.min_eq_left h]
  conv => lhs; rw [← List.take_append_drop j (kidsF l x m)]
  rw [this]
theorem preK_sub {n : Nat} {x : Seat} {j : Nat} (h : (kidsO l x).isSome = true) (h0 : ¬ x.n.level = 0) (hj : j ≤ x.n.kids.length) : ∃ R, preS l (n + 1) x = preK l n x j ++ R := by
  refine ⟨((kidsF l x x.n.kids.length).drop j).flatMap (preS l n), ?_⟩
  rw [← preK_all h h0]
  unfold preK
  rw [List.cons_append, ← List.flatMap_append, ← kidsF_take x hj]
theorem put_len : ∀ (m : List (Int × Bool)) (k : Int) (a : Bool), getM m k = none → (putM m k a).length = m.length + 1
  | [], _, _, _ => rfl
  | p :: m, k, a, h => by
    rw [getM_cons] at h
    rw [putM]
    by_cases e : p.1 = k
    · rw [if_pos e] at h; cases h
    · rw [if_neg e] at h
      rw [if_neg e, List.length_cons, put_len m k a h, List.length_cons]
structure InK (c : Cfg) (l : List Nd) (n : Nat) (x : Seat) (mt : List (Int × Bool)) (j : Nat) (mt' : List (Int × Bool)) : Prop where
  len : mt'.length = mt.length + (preK l n x j).length
  get : ∀ s, getM mt' s = if s ∈ preK l n x j then some true else getM mt s
  nd : (preK l n x j).Nodup
  no : ∀ s ∈ preK l n x j, getM mt s = none
  wf : ∀ i, i < j → wfF c l n false (kidSt l x i)
  ok : ∀ i, i < j → kidOk l x i = true
theorem InK.zero {n : Nat} {x : Seat} {mt : List (Int × Bool)} (h : getM mt x.n.slot = none) : InK c l n x mt 0 (putM mt x.n.slot true) := by
  refine ⟨by rw [put_len _ _ _ h]; rfl, fun s => ?_, by simp [preK_0], fun s hs => ?_, fun i hi => by omega, fun i hi => by omega⟩
  · rw [getM_put, preK_0]; simp
  · rw [preK_0] at hs; simp at hs; rw [hs]; exact h
theorem InK.succ {n : Nat} {x : Seat} {mt m1 m2 : List (Int × Bool)} {j : Nat} (h : InK c l n x mt j m1) (hd : Down c l n false (kidSt l x j) m1) (ha : After l n (kidSt l x j) m1 m2) (hok : kidOk l x j = true) : InK c l n x mt (j + 1) m2 := by
  have e := preK_succ (l := l) n x j
  have hno : ∀ s ∈ preS l n (kidSt l x j), s ∉ preK l n x j ∧ getM mt s = none := fun s hs => by
    have h1 := hd.2.2 s hs
    rw [h.get] at h1
    by_cases h2 : s ∈ preK l n x j
    · rw [if_pos h2] at h1; cases h1
    · rw [if_neg h2] at h1; exact ⟨h2, h1⟩
  refine ⟨?_, fun s => ?_, ?_, fun s hs => ?_, fun i hi => ?_, fun i hi => ?_⟩
  · rw [ha.len, h.len, e, List.length_append]; omega
  · rw [ha.get, h.get, e]
    by_cases h1 : s ∈ preS l n (kidSt l x j)
    · rw [if_pos h1, if_pos (List.mem_append_right _ h1)]
    · rw [if_neg h1]
      by_cases h2 : s ∈ preK l n x j
      · rw [if_pos h2, if_pos (List.mem_append_left _ h2)]
      · rw [if_neg h2, if_neg fun h3 => (List.mem_append.1 h3).elim h2 h1]
  · rw [e, List.nodup_append]
    exact ⟨h.nd, hd.2.1, fun a ha b hb e => (hno b hb).1 (e ▸ ha)⟩
  · rw [e] at hs
    rcases List.mem_append.1 hs with hs | hs
    · exact h.no s hs
    · exact (hno s hs).2
  · by_cases e2 : i = j
    · rw [e2]; exact hd.1
    · exact h.wf i (by omega)
  · by_cases e2 : i = j
    · rw [e2]; exact hok
    · exact h.ok i (by omega)
theorem InK.next {n : Nat} {x : Seat} {mt m1 : List (Int × Bool)} {j : Nat} {top : Bool} (h : InK c l n x mt j m1) (hj : j < x.n.kids.length) (hd : Down c l (n + 1) top x mt) : Down c l n false (kidSt l x j) m1 ∧ kidOk l x j = true := by
  obtain ⟨h1, h2, h3⟩ := hd
  have h0 : ¬ x.n.level = 0 := by have := h1.1; omega
  have hka := kids_all h1.2.1 h0
  obtain ⟨R, hR⟩ := preK_sub (n := n) h1.2.1 h0 (show j + 1 ≤ x.n.kids.length by omega)
  rw [hR, preK_succ, List.nodup_append, List.nodup_append] at h2
  refine ⟨⟨h1.2.2.2 _ (by rw [hka.1]; exact List.mem_map.2 ⟨j, List.mem_range.2 hj, rfl⟩), h2.1.2.1, fun s hs => ?_⟩, hka.2.2.2 j hj⟩
  rw [h.get, if_neg]
  · exact h3 s (by rw [hR, preK_succ]; exact List.mem_append_left _ (List.mem_append_right _ hs))
  · intro h4
    exact h2.1.2.2 s h4 s hs rfl
theorem InK.done {n : Nat} {x : Seat} {mt m1 : List (Int × Bool)} {j : Nat} {top : Bool} (h : InK c l n x mt j m1) (hj : j = x.n.kids.length) (hl : x.n.level = ((n + 1 : Nat) : Int)) (hr : rightN x.n.pivots x.n.kids.length = true) (hs : Seat17 c top x) : Down c l (n + 1) top x mt ∧ After l (n + 1) x mt m1 := by
  subst hj
  have h0 : ¬ x.n.level = 0 := by omega
  have hko := kidsO_t h0 (by omega) hr h.ok
  have hk : (kidsO l x).isSome = true := by rw [hko]; rfl
  have e := preK_all (n := n) hk h0
  have h1 := h.len
  have h2 := h.get
  have h3 := h.nd
  have h4 := h.no
  rw [e] at h1 h2 h3 h4
  refine ⟨⟨⟨hl, hk, hs, fun y hy => ?_⟩, h3, h4⟩, h1, h2⟩
  rw [(kids_all hk h0).1] at hy
  obtain ⟨i, hi, rfl⟩ := List.mem_map.1 hy
  exact h.wf i (List.mem_range.1 hi)
theorem leaf_done {x : Seat} {mt : List (Int × Bool)} {top : Bool} (h : getM mt x.n.slot = none) (hl : x.n.level = 0) (hs : Seat17 c top x) : Down c l 0 top x mt ∧ After l 0 x mt (putM mt x.n.slot true) := by
  refine ⟨⟨⟨hl, hs⟩, by simp [preS_0], fun s hs => ?_⟩, by rw [put_len _ _ _ h]; rfl, fun s => ?_⟩
  · rw [preS_0] at hs; simp at hs; rw [hs]; exact h
  · rw [getM_put, preS_0]; simp
theorem Down.self {n : Nat} {x : Seat} {mt : List (Int × Bool)} {top : Bool} (h : Down c l n top x mt) : getM mt x.n.slot = none := h.2.2 _ (by cases n <;> simp [preS, preF])
noncomputable def rowsK (l : List Nd) (n : Nat) (x : Seat) (j : Nat) : List Pair := (kidsF l x j).flatMap (rowsF l n)
theorem rowsF_0 (x : Seat) : rowsF l 0 x = x.n.rows := by simp [rowsF, dfsF]
theorem rowsK_0 (n : Nat) (x : Seat) : rowsK l n x 0 = [] := rfl
theorem rowsK_succ (n : Nat) (x : Seat) (j : Nat) : rowsK l n x (j + 1) = rowsK l n x j ++ rowsF l n (kidSt l x j) := by
  unfold rowsK; rw [kidsF_succ, List.flatMap_append]; simp
theorem rowsK_all {n : Nat} {x : Seat} (h : (kidsO l x).isSome = true) (h0 : ¬ x.n.level = 0) : rowsK l n x x.n.kids.length = rowsF l (n + 1) x := by
  unfold rowsK; rw [← (kids_all h h0).1]
  unfold rowsF
  rw [dfsF, List.flatMap_assoc]
end
end Go.Fw
