/- The walk of a removal. -/
import Derived.Test.YtemoalimclnfkaaGreatQjRq
import Derived.Test.YtemoalimclnfkaaGreatQjSi
set_option maxRecDepth 100000
set_option maxHeartbeats 1600000
set_option linter.unusedVariables false
set_option linter.unusedSimpArgs false
set_option linter.unnecessarySimpa false
namespace Go.Proofs.YtemoalimclnfkaaGreat
open Go Go.Fw Go.RowKit
attribute [local irreducible] Ok W WC
theorem bmendB0_fc {G : GH} {b_t ba : Nat} {st : List (Option Nat) × List Bool} {Ma : MH} (h_a : ArR ePt 64 4 3 114 ba G st Ma) {root fan leaf : Int} {b_n : Nat} {lv : Int} {v_Pn : Value} {Pn : List Str} {Ms_Pn : MH} (h_Pn : OwnR eStr 9 G v_Pn Pn Ms_Pn) {v_Kn : Value} {Kn : List Int} (h_Kn : SlR eInt G v_Kn Kn) {v_Rn : Value} {Rn : List Pair} (h_Rn : SlR ePair G v_Rn Rn) (i : Nat)
    {a b : BT 0} {MA MB : MH} (h_A : NsM 70 9 st.1 (nds 0 a) G MA) (h_B : NsM 70 9 st.1 (nds 0 b) G MB) (hi : i + 1 < Kn.length) (hpn : Pn.length + 1 = Kn.length) (hKa : Kn[i]'om9 = a.slot) (hKb : Kn[i + 1]'hi = b.slot) (huA : UsN st.2 (nds 0 a)) (huB : UsN st.2 (nds 0 b))
    (hne : ∀ n ∈ nds 0 a ++ ndT 0 b, n.slot.toNat ≠ b.slot.toNat) {la ha lb hb : Int} {sa sb : Span} (hA : BT.ok fan leaf 0 la ha sa a) (hB : BT.ok fan leaf 0 lb hb sb b) (hhb : ha ≤ 64 ∧ hb ≤ 64) (hf4 : 4 ≤ fan ∧ 2 ≤ leaf) :
    Fc Tryz.prog 100 [pt9 b_t, pt9 b_n, nt9 i] G ((b_t, Obj.cells (List.toArray [pt9 ba, iV root, iV fan, iV leaf]) 66 (0, 0)) :: (b_n, Obj.cells (List.toArray [iV lv, v_Pn, v_Kn, v_Rn]) 70 (0, 0)) :: (Ma ++ (Ms_Pn ++ (MA ++ MB)))) (fun v G' M' => MendQ (ArR ePt 64 4 3 114 ba) 70 9 (b_t, Obj.cells (List.toArray [pt9 ba, iV root, iV fan, iV leaf]) 66 (0, 0)) b_n lv v_Rn st Pn Kn i (joinB fan leaf 0 a (Pn[i]'om9) b) b.slot v G' M') := by
  have huA0 : hasN st.2 a.slot = true := by have h9 := huA _ nds_head; rw [ndB_slot] at h9; exact h9
  have huB0 : hasN st.2 b.slot = true := by have h9 := huB _ nds_head; rw [ndB_slot] at h9; exact h9
  have hul : st.2.length ≤ 4096 := by obtain ⟨_, _, _, h9, _⟩ := h_a; exact h9
  obtain ⟨hs0, hs1, hs2⟩ := hasN_lt huB0
  have hk1 : i64 (Kn[i + 1]'hi) := by rw [hKb]; exact ⟨om9, om9⟩
  have hF : freeA st (Kn[i + 1]'hi) (none : Option Nat) = (0, (st.1.set b.slot.toNat none, st.2.set b.slot.toNat false)) := by rw [hKb]; exact freeA_t huB0
  have hag : ∀ j : Nat, j ≠ b.slot.toNat → (st.1.set b.slot.toNat none)[j]? = st.1[j]? := fun j hj => List.getElem?_set_ne hj.symm
  obtain ⟨b_a, vpa, vka, vra, Mpa, rfl, hba, hpa, hka, hra⟩ := h_A.open0
  obtain ⟨b_b, vpb, vkb, vrb, Mpb, rfl, hbb, hpb, hkb, hrb⟩ := h_B.open0
  have hc1 := hA.cnt.2
  have hc2 := hB.cnt.2
  have hc3 : (lfR a).length + (lfR b).length ≤ 10000 := by have e1 : ((lfR a).length : Int) ≤ ha := hc1; have e2 : ((lfR b).length : Int) ≤ hb := hc2; omega
  have hna : a.slot.toNat ≠ b.slot.toNat := by have h9 := hne (ndB 0 a) (List.mem_append_left _ nds_head); rwa [ndB_slot] at h9
  refine (Fc.perm (of_mq (by simp only [mq_app, mq_cons, mq_zero]; ac_rfl)) (bmend0_fc h_a h_Pn h_Kn h_Rn i hpa hka hra hpb hkb hrb hi hpn (by rw [hKa]; exact hba) (by rw [hKb]; exact hbb) (by rw [hKa]; exact huA0) (by rw [hKb]; exact huB0) hk1 hc3)).mono ?_
  rintro v G' M' hl ⟨rfl, ⟨p, vp, vk, vr, Ma', Mp', rfl, h1, h2, h3, h4⟩ | ⟨p, vp, vr, vs, Mp', rfl, h2, h3, h4⟩⟩
  · have hE : joinB fan leaf 0 a (Pn[i]'om9) b = (mkL a.slot (lfR a ++ lfR b), none) := if_pos p
    rw [hF] at h1
    refine MendQ.of hE ⟨_, Ma', vp, vk, Mp', _, ?_, h1, h2, h3, (NsM.pack0 (hba.agree (hag _ hna)) (hpa.mono hl) (hka.mono hl) h4).bn, hag, rfl⟩
    exact of_mq (by simp only [mq_app, mq_cons, mq_zero]; ac_rfl)
  have hE : joinB fan leaf 0 a (Pn[i]'om9) b = (mkL a.slot (rhA (lfR a ++ lfR b)), some (rhK (lfR a ++ lfR b), mkL b.slot (rhB (lfR a ++ lfR b)))) := if_neg p
  have hrt := rowsN_t (l := lfR a ++ lfR b) (by rw [List.length_append] at p ⊢; have := hhb; omega)
  have g3 : SlR ePair G' vr (rhA (lfR a ++ lfR b)) := SlR.cast h3 (by rw [hrt]; rfl)
  have g4 : SlR ePair G' vs (rhB (lfR a ++ lfR b)) := SlR.cast h4 (by rw [hrt]; rfl)
  refine MendQ.of hE ⟨st.1, Ma, vp, v_Kn, Mp', _, ?_, ArR.mono hl h_a, h2, h_Kn.mono hl, (NsM.pack0 hba (hpa.mono hl) (hka.mono hl) g3).two (NsM.pack0 hbb (hpb.mono hl) (hkb.mono hl) g4), fun j _ => rfl, rfl⟩
  exact of_mq (by simp only [mq_app, mq_cons, mq_zero]; ac_rfl)
theorem bmendB1_fc {kk : Nat} {G : GH} {b_t ba : Nat} {st : List (Option Nat) × List Bool} {Ma : MH} (h_a : ArR ePt 64 4 3 114 ba G st Ma) {root fan leaf : Int} {b_n : Nat} {lv : Int} {v_Pn : Value} {Pn : List Str} {Ms_Pn : MH} (h_Pn : OwnR eStr 9 G v_Pn Pn Ms_Pn) {v_Kn : Value} {Kn : List Int} (h_Kn : SlR eInt G v_Kn Kn) {v_Rn : Value} {Rn : List Pair} (h_Rn : SlR ePair G v_Rn Rn) (i : Nat)
    {a b : BT (kk + 1)} {MA MB : MH} (h_A : NsM 70 9 st.1 (nds (kk + 1) a) G MA) (h_B : NsM 70 9 st.1 (nds (kk + 1) b) G MB) (hi : i + 1 < Kn.length) (hpn : Pn.length + 1 = Kn.length) (hKa : Kn[i]'om9 = a.slot) (hKb : Kn[i + 1]'hi = b.slot) (huA : UsN st.2 (nds (kk + 1) a)) (huB : UsN st.2 (nds (kk + 1) b))
    (hne : ∀ n ∈ nds (kk + 1) a ++ ndT (kk + 1) b, n.slot.toNat ≠ b.slot.toNat) {la ha lb hb : Int} {sa sb : Span} (hA : BT.ok fan leaf (kk + 1) la ha sa a) (hB : BT.ok fan leaf (kk + 1) lb hb sb b) (hhb : ha ≤ 64 ∧ hb ≤ 64) (hf4 : 4 ≤ fan ∧ 2 ≤ leaf) :
    Fc Tryz.prog 100 [pt9 b_t, pt9 b_n, nt9 i] G ((b_t, Obj.cells (List.toArray [pt9 ba, iV root, iV fan, iV leaf]) 66 (0, 0)) :: (b_n, Obj.cells (List.toArray [iV lv, v_Pn, v_Kn, v_Rn]) 70 (0, 0)) :: (Ma ++ (Ms_Pn ++ (MA ++ MB)))) (fun v G' M' => MendQ (ArR ePt 64 4 3 114 ba) 70 9 (b_t, Obj.cells (List.toArray [pt9 ba, iV root, iV fan, iV leaf]) 66 (0, 0)) b_n lv v_Rn st Pn Kn i (joinB fan leaf (kk + 1) a (Pn[i]'om9) b) b.slot v G' M') := by
  have huA0 : hasN st.2 a.slot = true := by have h9 := huA _ nds_head; rw [ndB_slot] at h9; exact h9
  have huB0 : hasN st.2 b.slot = true := by have h9 := huB _ nds_head; rw [ndB_slot] at h9; exact h9
  have hul : st.2.length ≤ 4096 := by obtain ⟨_, _, _, h9, _⟩ := h_a; exact h9
  obtain ⟨hs0, hs1, hs2⟩ := hasN_lt huB0
  have hk1 : i64 (Kn[i + 1]'hi) := by rw [hKb]; exact ⟨om9, om9⟩
  have hF : freeA st (Kn[i + 1]'hi) (none : Option Nat) = (0, (st.1.set b.slot.toNat none, st.2.set b.slot.toNat false)) := by rw [hKb]; exact freeA_t huB0
  have hag : ∀ j : Nat, j ≠ b.slot.toNat → (st.1.set b.slot.toNat none)[j]? = st.1[j]? := fun j hj => List.getElem?_set_ne hj.symm
  obtain ⟨b_a, vpa, vka, vra, Mpa, Ba, rfl, hba, hpa, hka, hra, hBa⟩ := h_A.open1
  obtain ⟨b_b, vpb, vkb, vrb, Mpb, Bb, rfl, hbb, hpb, hkb, hrb, hBb⟩ := h_B.open1
  have hc1 : ((ndK a).length : Int) ≤ ha := hA.cnt.2
  have hc2 : ((ndK b).length : Int) ≤ hb := hB.cnt.2
  have hl1 := hA.2.len
  have hl2 := hB.2.len
  have m1 : ((ndK a).map BT.slot).length = (ndK a).length := List.length_map ..
  have m2 : ((ndK b).map BT.slot).length = (ndK b).length := List.length_map ..
  have hna : a.slot.toNat ≠ b.slot.toNat := by have h9 := hne (ndB (kk + 1) a) (List.mem_append_left _ nds_head); rwa [ndB_slot] at h9
  have hTa : ∀ n ∈ (ndK a).flatMap (nds kk), n.slot.toNat ≠ b.slot.toNat := fun n hn => hne n (List.mem_append_left _ (List.mem_cons_of_mem _ hn))
  have hTb : ∀ n ∈ (ndK b).flatMap (nds kk), n.slot.toNat ≠ b.slot.toNat := fun n hn => hne n (List.mem_append_right _ hn)
  have hKK : (ndK a).map BT.slot ++ (ndK b).map BT.slot = (ndK a ++ ndK b).map BT.slot := List.map_append.symm
  have hlK : ((ndK a).map BT.slot ++ (ndK b).map BT.slot).length = (ndK a ++ ndK b).length := by rw [hKK, List.length_map]
  have hfl : (ndK a ++ ndK b).flatMap (nds kk) = (ndK a).flatMap (nds kk) ++ (ndK b).flatMap (nds kk) := List.flatMap_append
  refine (Fc.perm_frame (Mr := Ba ++ Bb) (bmend1_fc (la := ((kk + 1 : Nat) : Int)) (lb := ((kk + 1 : Nat) : Int)) (lv := lv) h_a h_Pn h_Kn h_Rn i hpa hka hra hpb hkb hrb hi hpn (by rw [hKa]; exact hba) (by rw [hKb]; exact hbb) (by rw [hKa]; exact huA0) (by rw [hKb]; exact huB0) hk1 om9 ⟨om9, om9, om9⟩ hf4.1) (of_mq (by simp only [mq_app, mq_cons, mq_zero]; ac_rfl))).mono ?_
  rintro v G' M' hl ⟨M2, rfl, rfl, ⟨p, vp, vk, vq, vl, Ma', Mp', Mq', rfl, h1, h2, h3, h4, h5⟩ | ⟨p, vp, va, ka, vb, kb, Mp', Mq', Mr', rfl, h1, h2, h3, h4, h5⟩⟩
  · have hE : joinB fan leaf (kk + 1) a (Pn[i]'om9) b = (mkN a.slot (ndP a ++ (Pn[i]'om9) :: ndP b) (ndK a ++ ndK b), none) := if_pos (by rw [← hlK]; exact p)
    rw [hF] at h1
    refine MendQ.of hE ⟨_, Ma', vp, vk, Mp', _, ?_, h1, h2, h3, (NsM.pack1 (hba.agree (hag _ hna)) h4 (SlR.cast h5 hKK) (hra.mono hl) ((((hBa.mono hl).ne hTa).two ((hBb.mono hl).ne hTb)).to hfl.symm)).bn, hag, rfl⟩
    exact of_mq (by simp only [mq_app, mq_cons, mq_zero]; ac_rfl)
  have hE : joinB fan leaf (kk + 1) a (Pn[i]'om9) b = (mkN a.slot ((ndP a ++ (Pn[i]'om9) :: ndP b).take (((ndK a ++ ndK b).length + 1) / 2 - 1)) ((ndK a ++ ndK b).take (((ndK a ++ ndK b).length + 1) / 2)), some ((ndP a ++ (Pn[i]'om9) :: ndP b).getD (((ndK a ++ ndK b).length + 1) / 2 - 1) Str.nil, mkN b.slot ((ndP a ++ (Pn[i]'om9) :: ndP b).drop (((ndK a ++ ndK b).length + 1) / 2)) ((ndK a ++ ndK b).drop (((ndK a ++ ndK b).length + 1) / 2)))) := if_neg (by rw [← hlK]; exact p)
  rw [hlK] at h1 h2 h3 h4 h5
  have hL9 : (ndK a ++ ndK b).flatMap (nds kk) = ((ndK a ++ ndK b).take (((ndK a ++ ndK b).length + 1) / 2)).flatMap (nds kk) ++ ((ndK a ++ ndK b).drop (((ndK a ++ ndK b).length + 1) / 2)).flatMap (nds kk) := by rw [← List.flatMap_append, List.take_append_drop]
  obtain ⟨X, Y, hXY, hx, hy⟩ := NsM.app.1 ((((hBa.mono hl).two (hBb.mono hl)).to hfl.symm).to hL9)
  rw [hXY]
  refine MendQ.of hE ⟨st.1, Ma, vp, v_Kn, Mp', _, ?_, ArR.mono hl h_a, h1, h_Kn.mono hl, (NsM.pack1 hba h2 (SlR.cast h3 (by rw [hKK, List.map_take])) (hra.mono hl) hx).two (NsM.pack1 hbb h4 (SlR.cast h5 (by rw [hKK, List.map_drop])) (hrb.mono hl) hy), fun j _ => rfl, rfl⟩
  exact of_mq (by simp only [mq_app, mq_cons, mq_zero]; ac_rfl)
theorem bmendB_fc : ∀ {kk : Nat} {G : GH} {b_t ba : Nat} {st : List (Option Nat) × List Bool} {Ma : MH} (h_a : ArR ePt 64 4 3 114 ba G st Ma) {root fan leaf : Int} {b_n : Nat} {lv : Int} {v_Pn : Value} {Pn : List Str} {Ms_Pn : MH} (h_Pn : OwnR eStr 9 G v_Pn Pn Ms_Pn) {v_Kn : Value} {Kn : List Int} (h_Kn : SlR eInt G v_Kn Kn) {v_Rn : Value} {Rn : List Pair} (h_Rn : SlR ePair G v_Rn Rn) (i : Nat)
    {a b : BT kk} {MA MB : MH} (h_A : NsM 70 9 st.1 (nds kk a) G MA) (h_B : NsM 70 9 st.1 (nds kk b) G MB) (hi : i + 1 < Kn.length) (hpn : Pn.length + 1 = Kn.length) (hKa : Kn[i]'om9 = a.slot) (hKb : Kn[i + 1]'hi = b.slot) (huA : UsN st.2 (nds kk a)) (huB : UsN st.2 (nds kk b))
    (hne : ∀ n ∈ nds kk a ++ ndT kk b, n.slot.toNat ≠ b.slot.toNat) {la ha lb hb : Int} {sa sb : Span} (hA : BT.ok fan leaf kk la ha sa a) (hB : BT.ok fan leaf kk lb hb sb b) (hhb : ha ≤ 64 ∧ hb ≤ 64) (hf4 : 4 ≤ fan ∧ 2 ≤ leaf),
    Fc Tryz.prog 100 [pt9 b_t, pt9 b_n, nt9 i] G ((b_t, Obj.cells (List.toArray [pt9 ba, iV root, iV fan, iV leaf]) 66 (0, 0)) :: (b_n, Obj.cells (List.toArray [iV lv, v_Pn, v_Kn, v_Rn]) 70 (0, 0)) :: (Ma ++ (Ms_Pn ++ (MA ++ MB)))) (fun v G' M' => MendQ (ArR ePt 64 4 3 114 ba) 70 9 (b_t, Obj.cells (List.toArray [pt9 ba, iV root, iV fan, iV leaf]) 66 (0, 0)) b_n lv v_Rn st Pn Kn i (joinB fan leaf kk a (Pn[i]'om9) b) b.slot v G' M')
  | 0, _, _, _, _, _, h_a, _, _, _, _, _, _, _, _, h_Pn, _, _, h_Kn, _, _, h_Rn, i, _, _, _, _, h_A, h_B, hi, hpn, hKa, hKb, huA, huB, hne, _, _, _, _, _, _, hA, hB, hhb, hf4 => bmendB0_fc h_a h_Pn h_Kn h_Rn i h_A h_B hi hpn hKa hKb huA huB hne hA hB hhb hf4
  | _ + 1, _, _, _, _, _, h_a, _, _, _, _, _, _, _, _, h_Pn, _, _, h_Kn, _, _, h_Rn, i, _, _, _, _, h_A, h_B, hi, hpn, hKa, hKb, huA, huB, hne, _, _, _, _, _, _, hA, hB, hhb, hf4 => bmendB1_fc h_a h_Pn h_Kn h_Rn i h_A h_B hi hpn hKa hKb huA huB hne hA hB hhb hf4
def RemC (kk : Nat) : Prop := ∀ {G : GH} {b_t ba : Nat} {st : List (Option Nat) × List Bool} {Ma : MH} (h_a : ArR ePt 64 4 3 114 ba G st Ma) {root fan leaf : Int} (i : Int) (k : Str) {y : BT kk} {Mn : MH} (h_n : NsM 70 9 st.1 (nds kk y) G Mn) (lo : Int) (sp : Span) (hs : sp.norm = sp) (hk : sp.has k = true) (hok : BT.ok fan leaf kk lo (mxB fan leaf kk) sp y) (hlo : kk = 0 ∨ 2 ≤ lo) (hus : UsN st.2 (nds kk y)) (hnd : ((nds kk y).map BNd.slot).Nodup) (hi9 : i = y.slot) (hb9 : 4 ≤ fan ∧ fan ≤ 64 ∧ 2 ≤ leaf ∧ leaf ≤ 64) (hk16 : k.b.size ≤ 16),
    Fc Tryz.prog 71 [pt9 b_t, iV i, sV k.b] G ((b_t, Obj.cells (List.toArray [pt9 ba, iV root, iV fan, iV leaf]) 66 (0, 0)) :: (Ma ++ Mn)) (fun v G' M' => RemQ (ArR ePt 64 4 3 114 ba) 70 9 (b_t, Obj.cells (List.toArray [pt9 ba, iV root, iV fan, iV leaf]) 66 (0, 0)) fan leaf st y (remB fan leaf k kk y st.2) v G' M')
theorem bremove0_fc {G : GH} {b_t : Nat} {ba : Nat} {st : List (Option Nat) × List Bool} {Ma : MH} (h_a : ArR ePt 64 4 3 114 ba G st Ma) {root : Int} {fan : Int} {leaf : Int} (i : Int) (k : Str) {y : BT 0} {Mn : MH} (h_n : NsM 70 9 st.1 (nds 0 y) G Mn) (lo : Int) (sp : Span) (hs : sp.norm = sp) (hk : sp.has k = true) (hok : BT.ok fan leaf 0 lo (mxB fan leaf 0) sp y) (hlo : 0 = 0 ∨ 2 ≤ lo) (hus : UsN st.2 (nds 0 y)) (hnd : ((nds 0 y).map BNd.slot).Nodup) (hi9 : i = y.slot) (hb9 : 4 ≤ fan ∧ fan ≤ 64 ∧ 2 ≤ leaf ∧ leaf ≤ 64) (hk16 : k.b.size ≤ 16) :
    Fc Tryz.prog 71 [pt9 b_t, iV i, sV k.b] G ((b_t, ce9 66 [pt9 ba, iV root, iV fan, iV leaf]) :: (Ma ++ (Mn))) (fun v G' M' => RemQ (ArR ePt 64 4 3 114 ba) 70 9 (b_t, Obj.cells (List.toArray [pt9 ba, iV root, iV fan, iV leaf]) 66 (0, 0)) fan leaf st y (remB fan leaf k 0 y st.2) v G' M') := by
 have hlr9 : (lfR y).length ≤ 64 := by have h9 : ((lfR y).length : Int) ≤ leaf := hok.1.2; omega
 refine Fc.go [.tmp 6] Tryz.func71 Tryz.ntmps71 rfl (fun w0 => (WC.perm (M' := ((b_t, ce9 66 [pt9 ba, iV root, iV fan, iV leaf]) :: (Ma ++ (Mn ++ [])))) (by simp) (WC.seq ?_)))
 refine match (NsM.open0 h_n) with | ⟨b_n, vp_n, vk_n, vr_n, Mp_n, eM_, hb_n, hp_n, hk_n, hr_n⟩ => ?_
 subst eM_
 refine WC.perm (M' := ((b_n, ce9 70 [iV 0, vp_n, vk_n, vr_n]) :: ((b_t, ce9 66 [pt9 ba, iV root, iV fan, iV leaf]) :: (Ma ++ (Mp_n ++ []))))) (pmD (pmB pr9)).symm ?_
 refine match hp_n.form with | ⟨pa_n, pc_n, eV_⟩ => ?_
 subst eV_
 refine match hk_n.form with | ⟨ka_n, kc_n, eV_⟩ => ?_
 subst eV_
 refine match hr_n.form with | ⟨_, _, eV_⟩ => ?_
 subst eV_
 have hbi : Blk st.1 i b_n := by rw [hi9]; exact hb_n
 have hu9 : hasN st.2 y.slot = true := by have h9 := hus _ nds_head; rw [ndB_slot] at h9; exact h9
 have hui : hasN st.2 i = true := by rw [hi9]; exact hu9
 refine g9 8 ?_
 refine W.lendQ (fun G1 hl1 hn1 => bat_fc (ArR.lent h_a hl1 (sub_of (((List.sublist_append_left _ _).cons _).cons _) hn1) (in_of (i := 1) hn1 rfl)) _ b_n hbi hui) cl43 rfl (g9 22 ?_)
 refine W.ok (ok_build (L := [iV _, sV _]) pl90 zr90 rfl rfl rfl) (W.cS (mwith_fc hr_n k 3 Str.nil hok.2.1 om9 (by decide)) rfl (fun sa_hv2 sc_hv2 G1 hG1 hv2 => (g9 9 ?_)))
 refine W.lendQ (fun G1 hl1 hn1 => bfew_fc (ArR.lent (ArR.mono hG1 h_a) hl1 (sub_of (((List.sublist_append_left _ _).cons _).cons _) hn1) (in_of (i := 1) hn1 rfl)) (n := (⟨0, 0, [], [], (withN (lfR y) k delE)⟩ : BNd)) ⟨_, _, _, cellsG_at (in_of (i := 0) hn1 rfl), (hp_n.mono hG1).lent hl1 (sub_of ((((List.sublist_append_left _ _).trans (List.sublist_append_right _ _)).cons _).cons _) hn1), (SlR.mono hl1 (hk_n.mono hG1)), (SlR.mono hl1 hv2)⟩ om9) cl99 rfl (g9 3 ?_)
 refine WC.perm (M' := ((b_t, ce9 66 [pt9 ba, iV root, iV fan, iV leaf]) :: ((b_n, ce9 70 [iV 0, lV pa_n ([]).length pc_n, lV ka_n ([]).length kc_n, lV sa_hv2 ((withN (lfR y) k delE)).length sc_hv2]) :: (Ma ++ (Mp_n ++ []))))) ((((pr9.cons _).trans pr9).cons _).trans ((List.Perm.swap _ _ _).trans (pr9.cons _))) (g9 2 ?_)
 refine ⟨.inr rfl, [_], ⟨rfl, trivial⟩, ((b_t, ce9 66 [pt9 ba, iV root, iV fan, iV leaf]) :: ((b_n, ce9 70 [iV 0, lV pa_n ([]).length pc_n, lV ka_n ([]).length kc_n, lV sa_hv2 ((withN (lfR y) k delE)).length sc_hv2]) :: (Ma ++ Mp_n))), ((List.Sublist.append_left (List.sublist_append_left _ _) _).k9).k9, ?_⟩
 exact ⟨_, _, _, pmN0, (ArR.mono hG1 h_a), NsM.pack0 hb_n (hp_n.mono hG1) (hk_n.mono hG1) hv2, fun j _ => rfl, rfl⟩

theorem bremove1_fc {G : GH} {b_t : Nat} {ba : Nat} {st : List (Option Nat) × List Bool} {Ma : MH} (h_a : ArR ePt 64 4 3 114 ba G st Ma) {root : Int} {fan : Int} {leaf : Int} (i : Int) (k : Str) {kk : Nat} {y : BT (kk + 1)} {Mn : MH} (h_n : NsM 70 9 st.1 (nds (kk + 1) y) G Mn) (lo : Int) (sp : Span) (hs : sp.norm = sp) (hk : sp.has k = true) (hok : BT.ok fan leaf (kk + 1) lo (mxB fan leaf (kk + 1)) sp y) (hlo : (kk + 1) = 0 ∨ 2 ≤ lo) (hus : UsN st.2 (nds (kk + 1) y)) (hnd : ((nds (kk + 1) y).map BNd.slot).Nodup) (hi9 : i = y.slot) (hb9 : 4 ≤ fan ∧ fan ≤ 64 ∧ 2 ≤ leaf ∧ leaf ≤ 64) (hk16 : k.b.size ≤ 16) (ih : RemC kk) :
    Fc Tryz.prog 71 [pt9 b_t, iV i, sV k.b] G ((b_t, ce9 66 [pt9 ba, iV root, iV fan, iV leaf]) :: (Ma ++ (Mn))) (fun v G' M' => RemQ (ArR ePt 64 4 3 114 ba) 70 9 (b_t, Obj.cells (List.toArray [pt9 ba, iV root, iV fan, iV leaf]) 66 (0, 0)) fan leaf st y (remB fan leaf k (kk + 1) y st.2) v G' M') := by
 have hl9 := kid_at hs hok k
 have hch9 := hok.2
 obtain ⟨v9, hv8, v1, v2, v3, v4⟩ := hch9.at hs (i := routeN (ndP y) k) (List.length_filter_le _ _)
 have hvk : v9.has k = true := by rw [v2, hk, decide_eq_true rfl]; rfl
 have hpl9 := hch9.len
 have hK64 : ((ndK y).length : Int) ≤ 64 := by have h9 : ((ndK y).length : Int) ≤ fan := hok.1.2; omega
 have hrs9 := (hch9.piv hs).1
 have hKsl : ((ndK y).map BT.slot).length = (ndK y).length := List.length_map ..
 have hcl9 : st.1.length = st.2.length := by obtain ⟨_, _, h9, _⟩ := h_a; exact h9
 have hul9 : st.2.length ≤ 4096 := by obtain ⟨_, _, _, h9, _⟩ := h_a; exact h9
 have hlo2 : 2 ≤ lo := by omega
 have hcl2 : lo ≤ ((ndK y).length : Int) := hok.1.1
 have hmn9 : kk = 0 ∨ 2 ≤ mnB fan leaf kk := by
   by_cases e : kk = 0
   · exact .inl e
   right; unfold mnB; rw [if_neg e]; omega
 obtain ⟨nd1, nd2, nd3, nd4⟩ := nodup_sib hnd hl9
 have hro := rem_ok (fan := fan) (leaf := leaf) (key := k) hb9.1 hb9.2.2.1 hk16 kk st.2 hmn9 v1 hvk v3
 have hrd := rem_del (fan := fan) (leaf := leaf) (key := k) hb9.1 hb9.2.2.1 hk16 kk st.2 hmn9 v1 hvk v3 (us_kid hus (List.getElem_mem hl9)) nd1
 have hIt := remB_t (fan := fan) (leaf := leaf) (key := k) (u := st.2) hl9
 have hIf := remB_f (fan := fan) (leaf := leaf) (key := k) (u := st.2) hl9
 generalize hR9 : remB fan leaf k kk ((ndK y)[routeN (ndP y) k]'hl9) st.2 = R9 at hro hrd hIt hIf
 obtain ⟨g1, g2, g3⟩ := hro
 obtain ⟨gone9, d1, p1⟩ := hrd
 obtain ⟨k1, k2, k3, k4, k5⟩ := rem_kids hnd hus hl9 d1 p1
 have hset9 : ((ndK y).set (routeN (ndP y) k) R9.1).length = (ndK y).length := List.length_set
 have hm9 : ((routeN (ndP y) k) - 1) + 1 < ((ndK y).set (routeN (ndP y) k) R9.1).length := by omega
 have hKS9 : ((ndK y).set (routeN (ndP y) k) R9.1).map BT.slot = (ndK y).map BT.slot := K_set hl9 g3
 obtain ⟨ne1, ne2, ne3⟩ := mend_ne hm9 k1 k2
 have hok1 : ∀ q (hq : q < ((ndK y).set (routeN (ndP y) k) R9.1).length), ∃ la sa, BT.ok fan leaf kk la (mxB fan leaf kk) sa (((ndK y).set (routeN (ndP y) k) R9.1)[q]'hq) := fun q hq => by
   by_cases e : (routeN (ndP y) k) = q
   · subst e; rw [List.getElem_set_self]; exact ⟨_, _, g1⟩
   rw [List.getElem_set_ne e]
   obtain ⟨_, _, _, _, h9, _⟩ := hch9.at hs (i := q) om9
   exact ⟨_, _, h9⟩
 have hmx9 : mxB fan leaf kk ≤ 64 := by unfold mxB; split <;> omega
 have hus1 : ∀ q (hq : q < ((ndK y).set (routeN (ndP y) k) R9.1).length), UsN R9.2 (nds kk (((ndK y).set (routeN (ndP y) k) R9.1)[q]'hq)) := fun q hq n hn => k1 n (List.mem_flatMap.2 ⟨_, List.getElem_mem hq, hn⟩)
 have hKg : ∀ q (hq : q < ((ndK y).map BT.slot).length), ((ndK y).map BT.slot)[q]'hq = (((ndK y).set (routeN (ndP y) k) R9.1)[q]'om9).slot := fun q hq => (List.getElem_of_eq hKS9.symm hq).trans (List.getElem_map ..)
 have hJs := join_slot (fan := fan) (leaf := leaf) (a := ((ndK y).set (routeN (ndP y) k) R9.1)[((routeN (ndP y) k) - 1)]'om9) (b := ((ndK y).set (routeN (ndP y) k) R9.1)[((routeN (ndP y) k) - 1) + 1]'hm9) (p := (ndP y)[((routeN (ndP y) k) - 1)]'om9)
 have hMe := mendB_eq (fan := fan) (leaf := leaf) (s := y.slot) (P := ndP y) (u := R9.2) hm9 om9
 generalize hJ9 : joinB fan leaf kk (((ndK y).set (routeN (ndP y) k) R9.1)[((routeN (ndP y) k) - 1)]'om9) ((ndP y)[((routeN (ndP y) k) - 1)]'om9) (((ndK y).set (routeN (ndP y) k) R9.1)[((routeN (ndP y) k) - 1) + 1]'hm9) = J9 at hJs hMe
 have hmT := mT_slots (r := J9) hm9 hJs.1 hJs.2
 rw [hKS9] at hmT
 obtain ⟨sl1, sl2, _⟩ := hasN_lt k4
 have hbs : hasN R9.2 (((ndK y).set (routeN (ndP y) k) R9.1)[((routeN (ndP y) k) - 1) + 1]'hm9).slot = true := by have h9 := hus1 (((routeN (ndP y) k) - 1) + 1) hm9 _ nds_head; rw [ndB_slot] at h9; exact h9
 obtain ⟨bs1, bs2, _⟩ := hasN_lt hbs
 have hbm : (((ndK y).set (routeN (ndP y) k) R9.1)[((routeN (ndP y) k) - 1) + 1]'hm9).slot ∈ (((ndK y).set (routeN (ndP y) k) R9.1).flatMap (nds kk)).map BNd.slot := by
   have h9 := List.mem_map_of_mem (f := BNd.slot) (List.mem_flatMap.2 ⟨_, List.getElem_mem hm9, nds_head⟩ : ndB kk (((ndK y).set (routeN (ndP y) k) R9.1)[((routeN (ndP y) k) - 1) + 1]'hm9) ∈ ((ndK y).set (routeN (ndP y) k) R9.1).flatMap (nds kk))
   rw [ndB_slot] at h9; exact h9
 have hys : y.slot.toNat ≠ (((ndK y).set (routeN (ndP y) k) R9.1)[((routeN (ndP y) k) - 1) + 1]'hm9).slot.toNat := fun e => k5 (by rw [show y.slot = (((ndK y).set (routeN (ndP y) k) R9.1)[((routeN (ndP y) k) - 1) + 1]'hm9).slot by omega]; exact hbm)
 refine Fc.go [.tmp 6] Tryz.func71 Tryz.ntmps71 rfl (fun w0 => (WC.perm (M' := ((b_t, ce9 66 [pt9 ba, iV root, iV fan, iV leaf]) :: (Ma ++ (Mn ++ [])))) (by simp) (WC.seq ?_)))
 refine match (NsM.open1 h_n) with | ⟨b_n, vp_n, vk_n, vr_n, Mp_n, B_n, eM_, hb_n, hp_n, hk_n, hr_n, hB_n⟩ => ?_
 subst eM_
 refine WC.perm (M' := ((b_n, ce9 70 [nt9 (kk + 1), vp_n, vk_n, vr_n]) :: ((b_t, ce9 66 [pt9 ba, iV root, iV fan, iV leaf]) :: (Ma ++ (Mp_n ++ (B_n ++ [])))))) (pmD (pmB ((pmF pr9).cons _))).symm ?_
 refine match hp_n.form with | ⟨pa_n, pc_n, eV_⟩ => ?_
 subst eV_
 refine match hk_n.form with | ⟨ka_n, kc_n, eV_⟩ => ?_
 subst eV_
 refine match hr_n.form with | ⟨ra_n, rc_n, eV_⟩ => ?_
 subst eV_
 have hbi : Blk st.1 i b_n := by rw [hi9]; exact hb_n
 have hu9 : hasN st.2 y.slot = true := by have h9 := hus _ nds_head; rw [ndB_slot] at h9; exact h9
 have hui : hasN st.2 i = true := by rw [hi9]; exact hu9
 refine match NsM.kid hl9 hB_n with | ⟨A_n, D_n, C_n, eB_n, hA_n, hD_n, hC_n⟩ => ?_
 subst eB_n
 refine WC.perm (M' := ((b_n, ce9 70 [nt9 (kk + 1), lV pa_n ((ndP y)).length pc_n, lV ka_n (((ndK y).map BT.slot)).length kc_n, lV ra_n ([]).length rc_n]) :: ((b_t, ce9 66 [pt9 ba, iV root, iV fan, iV leaf]) :: (Ma ++ (Mp_n ++ (A_n ++ (D_n ++ (C_n ++ [])))))))) (List.Perm.of_eq (by first | (simp only [List.append_assoc]; done) | (simp only [List.append_assoc]; rfl))) (WC.region (W.as (W.ns (W.mv (W.mv (W.lendQ (fun G1 hl1 hn1 => bat_fc (ArR.lent h_a hl1 (sub_of (((List.sublist_append_left _ _).cons _).cons _) hn1) (in_of (i := 1) hn1 rfl)) _ b_n hbi hui) cl43 rfl (W.an (WC.seq (WC.sr (W.mv (W.ok (ok_nilP rfl) (W.fb fd70_0 rfl (W.ok (ok_ld 0 ic9 ty3 rfl) ?_)))))))))))))
 refine W.ok (ok_eql rfl rfl) (W.nt ?_)
 refine WC.cd (fun h16 p16 => ?_) (fun h16 p16 => ?_)
 ·exact absurd p16 om9
 refine WC.sk (WC.seq (WC.sr (W.mv (W.ok (ok_nilP rfl) (W.fb fd70_1 rfl (W.ok (ok_ld 0 lc9 ty54 rfl) (W.mv (W.lendQ (fun G1 hl1 hn1 => broute_fc (hp_n.lent hl1 (sub_of ((((List.sublist_append_left _ _).trans (List.sublist_append_right _ _)).cons _).cons _) hn1)) k hrs9) cl65 rfl (W.as (W.ns (W.mv (W.mv (W.ok (ok_nilP rfl) ?_)))))))))))))
 refine W.fb fd70_2 rfl (W.ok (ok_ld 0 lc9 ty55 rfl) (W.mv (hk_n.a2 (i := (routeN (ndP y) k)) om9 (fun he8 hi9 => (W.ok (ok_indexAddr (i := (routeN (ndP y) k)) sl55 ty3 hk_n rfl rfl ⟨om9, om9⟩) (W.ok (ok_loadE (vs := ic9) ty3 he8 rfl rfl rfl (by simp)) (W.mv (W.call (Mp := ((b_t, ce9 66 [pt9 ba, iV root, iV fan, iV leaf]) :: (Ma ++ D_n))) (Mr := ((b_n, ce9 70 [nt9 (kk + 1), lV pa_n ((ndP y)).length pc_n, lV ka_n (((ndK y).map BT.slot)).length kc_n, lV ra_n ([]).length rc_n]) :: (Mp_n ++ (A_n ++ (C_n ++ []))))) (ih h_a _ k hD_n _ v9 v1 hvk v3 hmn9 (us_kid hus (List.getElem_mem hl9)) nd1 (List.getElem_map ..) hb9 hk16) rfl (((pmC ((pmF (pmA (pmA pr9))).trans pr9)).cons _).trans ((List.Perm.swap _ _ _).trans (pr9.cons _))) ?_))))))))
 intro v16 G13 Ms15 hG13 q14
 rw [hR9] at q14
 refine match q14 with | ⟨cells_r12, Ma_r12, Mn_r12, hP_r12, ha_r12, hn_r12, hag_r12, e_17⟩ => ?_
 subst e_17
 refine W.perm (M' := ((b_t, ce9 66 [pt9 ba, iV root, iV fan, iV leaf]) :: (Ma_r12 ++ Mn_r12)) ++ ((b_n, ce9 70 [nt9 (kk + 1), lV pa_n ((ndP y)).length pc_n, lV ka_n (((ndK y).map BT.slot)).length kc_n, lV ra_n ([]).length rc_n]) :: (Mp_n ++ (A_n ++ (C_n ++ []))))) (List.Perm.append_right _ hP_r12.symm) ?_
 have hbn_u : Blk cells_r12 y.slot b_n := hb_n.agree (hag_r12 _ fun s hs => fun e => nd4 (by have h9 := hasN_lt (us_slot.1 (us_kid hus (List.getElem_mem hl9)) s hs); rw [show y.slot = s by omega]; exact hs))
 refine W.perm (M' := ((b_n, ce9 70 [nt9 (kk + 1), lV pa_n ((ndP y)).length pc_n, lV ka_n (((ndK y).map BT.slot)).length kc_n, lV ra_n ([]).length rc_n]) :: ((b_t, ce9 66 [pt9 ba, iV root, iV fan, iV leaf]) :: (Ma_r12 ++ (Mn_r12 ++ (Mp_n ++ (A_n ++ (C_n ++ [])))))))) (((pmC ((pmF pr9).trans pr9)).cons _).trans ((List.Perm.swap _ _ _).trans (pr9.cons _))).symm (W.nt ?_)
 refine WC.cond rfl (fun h45 => ?_) (fun h45 => ?_)
 ·refine WC.region (W.mv (W.mv (W.mv (W.ok (ok_sub rfl rfl om9) (W.ok (Ok.int (n := ((((routeN (ndP y) k) - 1) : Nat) : Int)) (ok_maxi rfl rfl) om9) ?_)))))
  have hZ9 := (NsM.set_kid hl9 (((NsM.mono hG13 hA_n)).sib (us_take hus _) (us_kid hus (List.getElem_mem hl9)) nd2 hag_r12) hn_r12 (((NsM.mono hG13 hC_n)).sib (us_drop hus _) (us_kid hus (List.getElem_mem hl9)) nd3 hag_r12)).to (flat_two hm9)
  have q19 := NsM.app.1 hZ9
  refine match q19 with | ⟨X9, Z1, eX9, hX9, hZ1⟩ => ?_
  have q21 := NsM.app.1 hZ1
  refine match q21 with | ⟨YA, Z2, e_20, hYA, hZ2⟩ => ?_
  subst e_20
  have q23 := NsM.app.1 hZ2
  refine match q23 with | ⟨YB, W9, e_22, hYB, hW9⟩ => ?_
  subst e_22
  refine W.perm (M' := ((b_n, ce9 70 [nt9 (kk + 1), lV pa_n ((ndP y)).length pc_n, lV ka_n (((ndK y).map BT.slot)).length kc_n, lV ra_n ([]).length rc_n]) :: ((b_t, ce9 66 [pt9 ba, iV root, iV fan, iV leaf]) :: (Ma_r12 ++ (Mp_n ++ (X9 ++ (YA ++ (YB ++ (W9 ++ []))))))))) (of_mq ((show mq ((b_n, ce9 70 [nt9 (kk + 1), lV pa_n ((ndP y)).length pc_n, lV ka_n (((ndK y).map BT.slot)).length kc_n, lV ra_n ([]).length rc_n]) :: ((b_t, ce9 66 [pt9 ba, iV root, iV fan, iV leaf]) :: (Ma_r12 ++ (Mp_n ++ (X9 ++ (YA ++ (YB ++ (W9 ++ [])))))))) = mqA (mq ((b_n, ce9 70 [nt9 (kk + 1), lV pa_n ((ndP y)).length pc_n, lV ka_n (((ndK y).map BT.slot)).length kc_n, lV ra_n ([]).length rc_n]) :: ((b_t, ce9 66 [pt9 ba, iV root, iV fan, iV leaf]) :: (Ma_r12 ++ (Mp_n ++ []))))) (mq (X9 ++ (YA ++ (YB ++ W9)))) by simp only [mq_app, mq_cons, mq_zero]; ac_rfl).trans ((congrArg (mqA (mq ((b_n, ce9 70 [nt9 (kk + 1), lV pa_n ((ndP y)).length pc_n, lV ka_n (((ndK y).map BT.slot)).length kc_n, lV ra_n ([]).length rc_n]) :: ((b_t, ce9 66 [pt9 ba, iV root, iV fan, iV leaf]) :: (Ma_r12 ++ (Mp_n ++ [])))))) (congrArg mq eX9.symm)).trans (show mqA (mq ((b_n, ce9 70 [nt9 (kk + 1), lV pa_n ((ndP y)).length pc_n, lV ka_n (((ndK y).map BT.slot)).length kc_n, lV ra_n ([]).length rc_n]) :: ((b_t, ce9 66 [pt9 ba, iV root, iV fan, iV leaf]) :: (Ma_r12 ++ (Mp_n ++ []))))) (mq (A_n ++ (Mn_r12 ++ C_n))) = mq ((b_n, ce9 70 [nt9 (kk + 1), lV pa_n ((ndP y)).length pc_n, lV ka_n (((ndK y).map BT.slot)).length kc_n, lV ra_n ([]).length rc_n]) :: ((b_t, ce9 66 [pt9 ba, iV root, iV fan, iV leaf]) :: (Ma_r12 ++ (Mn_r12 ++ (Mp_n ++ (A_n ++ (C_n ++ []))))))) by simp only [mq_app, mq_cons, mq_zero]; ac_rfl)))) ?_
  obtain ⟨la9, sa9, ok9⟩ := hok1 ((routeN (ndP y) k) - 1) om9
  obtain ⟨lb9, sb9, ok8⟩ := hok1 (((routeN (ndP y) k) - 1) + 1) hm9
  refine W.call (Mp := ((b_t, ce9 66 [pt9 ba, iV root, iV fan, iV leaf]) :: ((b_n, ce9 70 [nt9 (kk + 1), lV pa_n ((ndP y)).length pc_n, lV ka_n (((ndK y).map BT.slot)).length kc_n, lV ra_n ([]).length rc_n]) :: (Ma_r12 ++ (Mp_n ++ (YA ++ YB)))))) (Mr := (X9 ++ (W9 ++ []))) (bmendB_fc ha_r12 (hp_n.mono hG13) (hk_n.mono hG13) (hr_n.mono hG13) ((routeN (ndP y) k) - 1) hYA hYB om9 om9 (hKg _ _) (hKg _ _) (hus1 _ _) (hus1 _ _) ne1 ok9 ok8 ⟨hmx9, hmx9⟩ ⟨hb9.1, hb9.2.2.1⟩) rfl ((((((pmF ((pmF ((pmF (pmA pr9)).trans (pmA pr9))).trans pr9)).trans pr9).cons _).trans pr9).cons _).trans ((List.Perm.swap _ _ _).trans (pr9.cons _))) ?_
  intro v27 G24 Ms26 hG24 q25
  rw [hJ9] at q25
  refine match q25 with | ⟨cells_m18, Ma_m18, vp_m18, vk_m18, Mp_m18, Mx_m18, hP_m18, ha_m18, hp_m18, hk_m18, hn_m18, hag_m18, e_28⟩ => ?_
  subst e_28
  have q32 := hp_m18.form
  refine match q32 with | ⟨sa29, sc30, e_31⟩ => ?_
  subst e_31
  have q36 := hk_m18.form
  refine match q36 with | ⟨sa33, sc34, e_35⟩ => ?_
  subst e_35
  refine W.perm (M' := ((b_t, ce9 66 [pt9 ba, iV root, iV fan, iV leaf]) :: ((b_n, ce9 70 [nt9 (kk + 1), lV sa29 ((mP (ndP y) ((routeN (ndP y) k) - 1) J9.2)).length sc30, lV sa33 ((mK ((ndK y).map BT.slot) ((routeN (ndP y) k) - 1) J9.2)).length sc34, lV ra_n ([]).length rc_n]) :: (Ma_m18 ++ (Mp_m18 ++ Mx_m18)))) ++ (X9 ++ (W9 ++ []))) (List.Perm.append_right _ hP_m18.symm) ?_
  have hbn_m := hbn_u.agree (hag_m18 _ hys)
  refine W.perm (M' := ((b_n, ce9 70 [nt9 (kk + 1), lV sa29 ((mP (ndP y) ((routeN (ndP y) k) - 1) J9.2)).length sc30, lV sa33 ((mK ((ndK y).map BT.slot) ((routeN (ndP y) k) - 1) J9.2)).length sc34, lV ra_n ([]).length rc_n]) :: ((b_t, ce9 66 [pt9 ba, iV root, iV fan, iV leaf]) :: (Ma_m18 ++ (Mp_m18 ++ (Mx_m18 ++ (X9 ++ (W9 ++ [])))))))) ((((((pmF ((pmF pr9).trans pr9)).trans pr9).cons _).trans pr9).cons _).trans ((List.Perm.swap _ _ _).trans (pr9.cons _))).symm (W.ns (W.mv (W.mv (W.lendQ (fun G1 hl1 hn1 => bfew_fc (ArR.lent ha_m18 hl1 (sub_of (((List.sublist_append_left _ _).cons _).cons _) hn1) (in_of (i := 1) hn1 rfl)) (n := (⟨0, ((kk + 1 : Nat) : Int), (mP (ndP y) ((routeN (ndP y) k) - 1) J9.2), (mK ((ndK y).map BT.slot) ((routeN (ndP y) k) - 1) J9.2), []⟩ : BNd)) ⟨_, _, _, cellsG_at (in_of (i := 0) hn1 rfl), hp_m18.lent hl1 (sub_of ((((List.sublist_append_left _ _).trans (List.sublist_append_right _ _)).cons _).cons _) hn1), (SlR.mono hl1 hk_m18), (SlR.mono hl1 (hr_n.mono lec))⟩ om9) cl99 rfl (W.an (WC.perm (M' := ((b_t, ce9 66 [pt9 ba, iV root, iV fan, iV leaf]) :: ((b_n, ce9 70 [nt9 (kk + 1), lV sa29 ((mP (ndP y) ((routeN (ndP y) k) - 1) J9.2)).length sc30, lV sa33 ((mK ((ndK y).map BT.slot) ((routeN (ndP y) k) - 1) J9.2)).length sc34, lV ra_n ([]).length rc_n]) :: (Ma_m18 ++ (Mp_m18 ++ (Mx_m18 ++ (X9 ++ (W9 ++ [])))))))) ((((pr9.cons _).trans pr9).cons _).trans ((List.Perm.swap _ _ _).trans (pr9.cons _))) (WC.perm (M' := ((b_t, ce9 66 [pt9 ba, iV root, iV fan, iV leaf]) :: ((b_n, ce9 70 [nt9 (kk + 1), lV sa29 ((mP (ndP y) ((routeN (ndP y) k) - 1) J9.2)).length sc30, lV sa33 ((mK ((ndK y).map BT.slot) ((routeN (ndP y) k) - 1) J9.2)).length sc34, lV ra_n ([]).length rc_n]) :: (Ma_m18 ++ (Mp_m18 ++ (X9 ++ (Mx_m18 ++ (W9 ++ [])))))))) ((((List.Perm.append_left _ ((List.Perm.append_left _ ((List.Perm.append_left _ ((List.Perm.append_left _ ((List.Perm.append_left _ pr9).trans pr9)).trans pr9)).trans (pmA pr9))).trans pr9)).trans pr9).cons _).cons _) (WC.ret ?_))))))))
  refine ⟨.inr rfl, [_], ⟨rfl, trivial⟩, ((b_t, ce9 66 [pt9 ba, iV root, iV fan, iV leaf]) :: ((b_n, ce9 70 [nt9 (kk + 1), lV sa29 ((mP (ndP y) ((routeN (ndP y) k) - 1) J9.2)).length sc30, lV sa33 ((mK ((ndK y).map BT.slot) ((routeN (ndP y) k) - 1) J9.2)).length sc34, lV ra_n ([]).length rc_n]) :: (Ma_m18 ++ (Mp_m18 ++ (X9 ++ (Mx_m18 ++ W9)))))), ((List.Sublist.append_left (List.Sublist.append_left (List.Sublist.append_left (List.Sublist.append_left (List.sublist_append_left _ _) _) _) _) _).k9).k9, ?_⟩
  have hX := (((NsM.mono hG24 hX9)).agree fun n hn => hag_m18 _ (ne2 n hn)).two ((hn_m18).two (((NsM.mono hG24 hW9)).agree fun n hn => hag_m18 _ (ne3 n hn)))
  have hk8 := SlR.cast hk_m18 hmT.symm
  exact RemQ.of ((hIt h45).trans hMe) ⟨_, _, _, pmN1, ha_m18, NsM.pack1 hbn_m hp_m18 hk8 (hr_n.mono lec) (hX.to mT_flat.symm), fun j hj => (hag_m18 j fun e => hj _ (k3.mem_iff.2 (List.mem_cons_of_mem _ (List.mem_append_left _ hbm))) e.symm).trans (hag_r12 j fun s hs => hj s (List.mem_map.2 (by obtain ⟨n9, h9, e9⟩ := List.mem_map.1 hs; exact ⟨n9, nds_kid (List.getElem_mem hl9) h9, e9⟩))), congrArg Value.bool (few_kk (by rw [← hmT, List.length_map]))⟩
 refine WC.sk (WC.sr (W.mv (W.mv (W.lendQ (fun G1 hl1 hn1 => bfew_fc (ArR.lent ha_r12 hl1 (sub_of (((List.sublist_append_left _ _).cons _).cons _) hn1) (in_of (i := 1) hn1 rfl)) (n := (⟨0, ((kk + 1 : Nat) : Int), (ndP y), ((ndK y).map BT.slot), []⟩ : BNd)) ⟨_, _, _, cellsG_at (in_of (i := 0) hn1 rfl), (hp_n.mono hG13).lent hl1 (sub_of (((((List.sublist_append_left _ _).trans (List.sublist_append_right _ _)).trans (List.sublist_append_right _ _)).cons _).cons _) hn1), (SlR.mono hl1 (hk_n.mono hG13)), (SlR.mono hl1 (hr_n.mono hG13))⟩ om9) cl99 rfl (W.an (WC.perm (M' := ((b_t, ce9 66 [pt9 ba, iV root, iV fan, iV leaf]) :: ((b_n, ce9 70 [nt9 (kk + 1), lV pa_n ((ndP y)).length pc_n, lV ka_n (((ndK y).map BT.slot)).length kc_n, lV ra_n ([]).length rc_n]) :: (Ma_r12 ++ (Mn_r12 ++ (Mp_n ++ (A_n ++ (C_n ++ [])))))))) ((((pr9.cons _).trans pr9).cons _).trans ((List.Perm.swap _ _ _).trans (pr9.cons _))) (WC.perm (M' := ((b_t, ce9 66 [pt9 ba, iV root, iV fan, iV leaf]) :: ((b_n, ce9 70 [nt9 (kk + 1), lV pa_n ((ndP y)).length pc_n, lV ka_n (((ndK y).map BT.slot)).length kc_n, lV ra_n ([]).length rc_n]) :: (Ma_r12 ++ (Mp_n ++ (A_n ++ (Mn_r12 ++ (C_n ++ [])))))))) ((((List.Perm.append_left _ ((List.Perm.append_left _ ((List.Perm.append_left _ ((List.Perm.append_left _ ((List.Perm.append_left _ pr9).trans pr9)).trans pr9)).trans (pmA pr9))).trans (pmA pr9))).trans pr9).cons _).cons _) (WC.ret ?_))))))))
 refine ⟨.inr rfl, [_], ⟨rfl, trivial⟩, ((b_t, ce9 66 [pt9 ba, iV root, iV fan, iV leaf]) :: ((b_n, ce9 70 [nt9 (kk + 1), lV pa_n ((ndP y)).length pc_n, lV ka_n (((ndK y).map BT.slot)).length kc_n, lV ra_n ([]).length rc_n]) :: (Ma_r12 ++ (Mp_n ++ (A_n ++ (Mn_r12 ++ C_n)))))), ((List.Sublist.append_left (List.Sublist.append_left (List.Sublist.append_left (List.Sublist.append_left (List.sublist_append_left _ _) _) _) _) _).k9).k9, ?_⟩
 have hX := NsM.set_kid hl9 (((NsM.mono hG13 hA_n)).sib (us_take hus _) (us_kid hus (List.getElem_mem hl9)) nd2 hag_r12) hn_r12 (((NsM.mono hG13 hC_n)).sib (us_drop hus _) (us_kid hus (List.getElem_mem hl9)) nd3 hag_r12)
 have hk8 := SlR.cast (hk_n.mono hG13) hKS9.symm
 exact RemQ.of (hIf h45) ⟨_, _, _, pmN1, ha_r12, NsM.pack1 hbn_u (hp_n.mono hG13) hk8 (hr_n.mono hG13) hX, fun j hj => hag_r12 j fun s hs => hj s (List.mem_map.2 (by obtain ⟨n9, h9, e9⟩ := List.mem_map.1 hs; exact ⟨n9, nds_kid (List.getElem_mem hl9) h9, e9⟩)), congrArg Value.bool (few_kk (by rw [hKsl, hset9]))⟩

theorem bremove_all : ∀ kk, RemC kk
  | 0 => fun h_a _ _ _ i k _ _ h_n lo sp hs hk hok hlo hus hnd hi9 hb9 hk16 => bremove0_fc h_a i k h_n lo sp hs hk hok hlo hus hnd hi9 hb9 hk16
  | kk + 1 => fun h_a _ _ _ i k _ _ h_n lo sp hs hk hok hlo hus hnd hi9 hb9 hk16 => bremove1_fc h_a i k h_n lo sp hs hk hok hlo hus hnd hi9 hb9 hk16 (bremove_all kk)
end Go.Proofs.YtemoalimclnfkaaGreat
