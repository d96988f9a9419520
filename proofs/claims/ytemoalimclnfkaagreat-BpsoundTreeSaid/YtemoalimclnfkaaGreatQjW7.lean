/- Walks of functions that look through rows. -/
import Derived.Test.YtemoalimclnfkaaGreatQjW3
import Derived.Test.YtemoalimclnfkaaGreatQjU1
set_option maxRecDepth 100000
set_option maxHeartbeats 1600000
set_option linter.unusedVariables false
set_option linter.unusedSimpArgs false
set_option linter.unnecessarySimpa false
namespace Go.Proofs.YtemoalimclnfkaaGreat
open Go Go.Fw Go.RowKit
attribute [local irreducible] Ok W WC
theorem within_fc {G : GH} {v_l : Value} {l : List Pair} (h_l : SlR ePair G v_l l) (slo : Str) (shi : Str) (so : Bool) (hn : l.length ≤ 1000000) :
    Fc Tryz.prog 67 [v_l, .agg #[sV slo.b, sV shi.b, .bool so]] G [] (fun v G' M' => M' = [] ∧ ∃ u0, v = u0 ∧ SlR ePair G' u0 (l.filter (fun p : Pair => Span.has ⟨slo, shi, so⟩ p.key))) := by
 obtain ⟨sa_l, sc_l, rfl⟩ := h_l.form
 have hl := h_l.len47
 refine Fc.go [.tmp 4] Tryz.func67 Tryz.ntmps67 rfl (fun w0 => (g9 2 ?_))
 refine W.box (L := [sV _, sV _, .bool _]) rfl rfl (fun b14 => (g9 17 ?_))
 refine WC.loop (X := (Nat) × Value × MH) (fun i => [(10, nt9 i.1), (3, pt9 b14), (8, lV sa_l l.length sc_l), (9, nt9 ((l).length)), (5, i.2.1)]) (fun i G Ml => Ml = ((b14, ce9 74 [sV slo.b, sV shi.b, .bool so]) :: (i.2.2 ++ [])) ∧ OwnR ePair 84 G i.2.1 (List.filter (fun p : Pair => Span.has ⟨slo, shi, so⟩ p.key) (l.take i.1)) i.2.2 ∧ i.1 ≤ l.length) (fun i => l.length - i.1) (0, lV none 0 0, ([] : MH)) hs9 ?_ ?_
 ·exact ⟨rfl, (by simpa using OwnR.nil), om9⟩
 rintro ⟨i, v_5, M_5⟩ gG15 G15 _ hG15 ⟨rfl, ho_5, hi⟩
 try dsimp only at ho_5 hi
 have hfl := filt_le (fun p : Pair => Span.has ⟨slo, shi, so⟩ p.key) l i
 refine WC.fr (f := setL gG15 [(10, nt9 i), (3, pt9 b14), (8, lV sa_l l.length sc_l), (9, nt9 ((l).length)), (5, v_5)]) rfl (g9 6 ?_)
 refine WC.cd (fun h11 p11 => ?_) (fun h11 p11 => ?_)
 ·refine g9 6 ?_
  refine (h_l.mono hG15).a1 (i := i) om9 (fun he16 => (g9 2 ?_))
  refine W.alloc zr84 (fun b19 => (g9 8 ?_))
  refine W.qcall (spanhas_fc _ _ _ _) rfl (g9 2 ?_)
  refine WC.cond rfl (fun h17 => ?_) (fun h17 => ?_)
  ·refine g9 3 ?_
   refine W.lit (e := ePair) (l := [⟨((l)[i]).key, ((l)[i]).val⟩]) (css := [[sV _, sV _]]) sl31 ty84 zr84 rfl rfl rfl rfl rfl rfl ⟨rfl, trivial⟩ (fun bl20 G20 hG20 hv20 => (W.app (e := ePair) sl31 ty84 zr84 rfl by84 rfl rfl ((ho_5.mono hG20)) (hv20) (pmC (pmC pr9)) (by show (_ + 1) * 32 ≤ _; (try simp only [List.length_append] at *); omega) (fun v21 Ms22 ho23 => (W.perm (pmC (pmC pr9)).symm (g9 7 ?_)))))
   refine W.sub (sr9.cons _) (g9 2 ?_)
   exact ⟨hG20, (i + 1, v21, Ms22), hs9, ⟨rfl, (by have h := ho23; rw [filt_t (p := (fun p : Pair => Span.has ⟨slo, shi, so⟩ p.key)) om9 (by simpa using h17)]; exact h), om9⟩, om9⟩
  refine g9 6 ?_
  refine W.sub (sr9.cons _) (g9 2 ?_)
  exact ⟨Le.rfl, (i + 1, v_5, M_5), hs9, ⟨rfl, (by have h := ho_5; rw [filt_f (p := (fun p : Pair => Span.has ⟨slo, shi, so⟩ p.key)) om9 (by simpa using h17)]; exact h), om9⟩, om9⟩
 refine g9 11 ?_
 refine WC.giveO ho_5 (pmC pr9) (fun G24 hG24 hv24 => (g9 2 ?_))
 refine ⟨rfl, _, rfl, ?_⟩
 · have h := hv24; rw [List.take_of_length_le om9] at h; exact h

theorem mright9_fc {G : GH} {v_l : Value} {l : List Pair} (h_l : SlR ePair G v_l l) :
    Fc Tryz.prog 128 [v_l] G [] (fun v _ _ => v = .bool (decide (PairsR l))) := by
 obtain ⟨sa_l, sc_l, rfl⟩ := h_l.form
 have hl := h_l.len47
 refine Fc.go [.tmp 2] Tryz.func128 Tryz.ntmps128 rfl (fun w0 => (g9 14 ?_))
 refine WC.loop (X := Nat) (fun k => [(7, nt9 k), (0, lV sa_l l.length sc_l), (5, lV sa_l l.length sc_l), (6, nt9 ((l).length))]) (fun k _ Ml => Ml = [] ∧ ∀ i (h : i < l.length), i < k → (l[i].key.b.size ≤ 16 ∧ l[i].val.b.size ≤ 16) ∧ (0 < i → (l[i - 1]'om9).key.lt l[i].key = true)) (fun k => l.length - k) 0 hs9 ?_ ?_
 ·exact ⟨rfl, fun i _ h => by omega⟩
 rintro k gG25 G25 _ hG25 ⟨rfl, hk⟩
 refine g9 6 ?_
 refine WC.cd (fun h8 p8 => ?_) (fun h8 p8 => ?_)
 ·refine g9 7 ?_
  refine (h_l.mono hG25).a1 (i := k) om9 (fun he26 => (g9 2 ?_))
  refine W.alloc zr84 (fun b29 => (g9 8 ?_))
  refine W.qcall (kright_fc _) rfl (g9 2 ?_)
  refine W.sp 16 rfl (fun h15 => ?_) (fun h15 => ?_)
  ·refine g9 35 ?_
   refine congrArg Value.bool ?_
   exact (decide_eq_false fun h => by have := h k om9; simp_all).symm
  refine g9 5 ?_
  refine W.qcall (vright_fc _) rfl (g9 4 ?_)
  refine W.sp 22 rfl (fun h20 => ?_) (fun h20 => ?_)
  ·refine g9 29 ?_
   refine congrArg Value.bool ?_
   exact (decide_eq_false fun h => by have := h k om9; simp_all).symm
  refine g9 6 ?_
  refine W.sd 25 (fun h24 p24 => ?_) (fun h24 p24 => ?_)
  ·refine g9 7 ?_
   refine (h_l.mono hG25).a1 (i := k - 1) om9 (fun he30 => (W.ok (ok_indexAddr (i := k - 1) sl31 ty84 (h_l.mono hG25) rfl rfl ⟨om9, om9⟩) (g9 9 ?_)))
   refine W.ok (ok_geqS rfl rfl) (g9 5 ?_)
   refine WC.cond rfl (fun h34 => ?_) (fun h34 => ?_)
   ·refine g9 12 ?_
    refine congrArg Value.bool ?_
    exact (decide_eq_false fun h => by have := h k om9; have h1 := this.2 om9; simp [Str.lt] at h1; simp [h1] at h34).symm
   refine g9 6 ?_
   refine W.sub (sr9.cons _) (g9 2 ?_)
   exact ⟨Le.rfl, k + 1, hs9, ⟨rfl, fun i h hi => by
      by_cases e : i = k
      · subst e; exact ⟨⟨by simpa using h15, by simpa using h20⟩, fun h0 => by simpa [Str.lt] using h34⟩
      · exact hk i h om9⟩, om9⟩
  refine g9 21 ?_
  refine W.sub (sr9.cons _) (g9 2 ?_)
  exact ⟨Le.rfl, k + 1, hs9, ⟨rfl, fun i h hi => by
      by_cases e : i = k
      · subst e; exact ⟨⟨by simpa using h15, by simpa using h20⟩, fun h0 => by omega⟩
      · exact hk i h om9⟩, om9⟩
 refine g9 12 ?_
 refine congrArg Value.bool ?_
 exact (decide_eq_true fun i h => hk i h om9).symm

theorem ghasp_fc {G : GH} {ba : Nat} {vc vu vf : Value} {cells : List (Option Nat)} {u : List Bool} (hA : CellsG G ba 0 [vc, vu, vf]) (hc : SlR ePt G vc cells) (hu : SlR eBool G vu u) (i : Int) :
    Fc Tryz.prog 101 [pt9 ba, iV i] G [] (fun v _ _ => v = .bool (hasN u i)) := by
 obtain ⟨sa_hc, sc_hc, rfl⟩ := hc.form
 obtain ⟨sa_hu, sc_hu, rfl⟩ := hu.form
 have hl := hu.len47
 refine Fc.go [.tmp 4] Tryz.func101 Tryz.ntmps101 rfl (fun w0 => (g9 8 ?_))
 refine W.ok (ok_neqPN pp61 rfl rfl) (g9 7 ?_)
 refine W.sd 11 (fun h9 p9 => ?_) (fun h9 p9 => ?_)
 ·refine g9 9 ?_
  refine W.ok (ok_loadG (vs := lc9) ty111 (hA.drop 1) rfl rfl rfl (by simp)) (g9 6 ?_)
  refine W.sd 20 (fun h18 p18 => ?_) (fun h18 p18 => ?_)
  ·refine g9 7 ?_
   refine W.ok (ok_loadG (vs := lc9) ty111 (hA.drop 1) rfl rfl rfl (by simp)) (g9 3 ?_)
   refine hu.a1 (i := i.toNat) om9 (fun he1 => (W.ok (ok_indexAddr (i := i.toNat) sl111 ty4 hu rfl rfl ⟨om9, om9⟩) (g9 8 ?_)))
   exact congrArg Value.bool (hasN_get om9 om9)
  refine g9 13 ?_
  exact congrArg Value.bool (hasN_big om9)
 refine g9 22 ?_
 exact congrArg Value.bool (hasN_neg om9)

theorem ggetp_fc {G : GH} {ba : Nat} {vc vu vf : Value} {cells : List (Option Nat)} {u : List Bool} (hA : CellsG G ba 0 [vc, vu, vf]) (hc : SlR ePt G vc cells) (hu : SlR eBool G vu u) (i : Int) (b : Nat) (hb : Blk cells i b) (hh : hasN u i = true) (hcu : cells.length = u.length) :
    Fc Tryz.prog 80 [pt9 ba, iV i] G [] (fun v _ _ => v = .tuple #[pt9 b, .bool true]) := by
 obtain ⟨sa_hc, sc_hc, rfl⟩ := hc.form
 obtain ⟨sa_hu, sc_hu, rfl⟩ := hu.form
 have hl := hu.len47
 obtain ⟨hi0, hi1, hi2⟩ := hasN_lt hh
 have hci : cells[i.toNat]'om9 = some b := by have h9 := hb.2; rw [List.getElem?_eq_getElem om9] at h9; simpa using h9
 refine Fc.go [.tmp 4, .tmp 5] Tryz.func80 Tryz.ntmps80 rfl (fun w0 => (g9 11 ?_))
 refine W.qcall (ghasp_fc hA hc hu _) rfl (g9 3 ?_)
 refine WC.cond rfl (fun h9 => ?_) (fun h9 => ?_)
 ·exact absurd h9 (by rw [hh]; simp)
 refine g9 7 ?_
 refine W.ok (ok_loadG (vs := lc9) ty80 hA rfl rfl rfl (by simp)) (W.mv (hc.a1 (i := i.toNat) om9 (fun he5 => (W.ok (ok_indexAddr (i := i.toNat) sl80 ty64 hc rfl rfl ⟨om9, om9⟩) (g9 7 ?_)))))
 exact by rw [hci]; rfl

theorem groom9_fc {G : GH} {ba : Nat} {vc vu vf : Value} {f : List Int} {u : List Bool} (hA : CellsG G ba 0 [vc, vu, vf]) (hu : SlR eBool G vu u) (hf : SlR eInt G vf f) :
    Fc Tryz.prog 75 [pt9 ba] G [] (fun v _ _ => v = iV ((f.length : Int))) := by
 obtain ⟨sa_hu, sc_hu, rfl⟩ := hu.form
 obtain ⟨sa_hf, sc_hf, rfl⟩ := hf.form
 have hl := hf.len47
 refine Fc.go [.tmp 2] Tryz.func75 Tryz.ntmps75 rfl (fun w0 => (g9 9 ?_))
 refine W.ok (ok_eqlPN pp61 rfl rfl) (g9 10 ?_)
 refine W.ok (ok_loadG (vs := lc9) ty112 (hA.drop 2) rfl rfl rfl (by simp)) (g9 6 ?_)
 rfl

theorem groomp_fc {G : GH} {bt ba : Nat} {root fan leaf : Int} {cells : List (Option Nat)} {u : List Bool} (h_t : TrG bt ba root fan leaf cells u G) : Fc Tryz.prog 75 [pt9 ba] G [] (fun v _ _ => v = iV ((freeN u).length : Int)) := by
  obtain ⟨hT, vc, vu, vf, hA, hc, hu, hcu, hn, f, hf, hfl⟩ := h_t
  rw [← hfl]; exact groom9_fc hA hu hf
theorem bat_fc {G : GH} {bt ba : Nat} {root fan leaf : Int} {cells : List (Option Nat)} {u : List Bool} (h_t : TrG bt ba root fan leaf cells u G) (i : Int) (b : Nat) (hb : Blk cells i b) (hh : hasN u i = true) :
    Fc Tryz.prog 43 [pt9 bt, iV i] G [] (fun v _ _ => v = pt9 b) := by
 obtain ⟨hT, vc, vu, vf, hA, hc, hu, hcu, hn, hf9⟩ := h_t
 have h_t : TrG bt ba root fan leaf cells u G := ⟨hT, vc, vu, vf, hA, hc, hu, hcu, hn, hf9⟩
 obtain ⟨sa_hc, sc_hc, rfl⟩ := hc.form
 obtain ⟨sa_hu, sc_hu, rfl⟩ := hu.form
 refine Fc.go [.tmp 4] Tryz.func43 Tryz.ntmps43 rfl (fun w0 => (g9 10 ?_))
 refine W.ok (ok_loadG (vs := [.pointer _]) ty61 hT rfl rfl rfl (by simp)) (W.mv (W.qcall (ggetp_fc hA hc hu i b hb hh hcu) rfl (g9 15 ?_)))
 rfl

theorem bfull_fc {G : GH} {bt ba : Nat} {root fan leaf : Int} {cells : List (Option Nat)} {u : List Bool} (h_t : TrG bt ba root fan leaf cells u G) {b_n : Nat} {n : BNd} (h_n : BoxG b_n n G) :
    Fc Tryz.prog 105 [pt9 bt, pt9 b_n] G [] (fun v _ _ => v = .bool (fulN fan leaf n)) := by
 obtain ⟨hT, vc, vu, vf, hA, hc, hu, hcu, hn, hf9⟩ := h_t
 have h_t : TrG bt ba root fan leaf cells u G := ⟨hT, vc, vu, vf, hA, hc, hu, hcu, hn, hf9⟩
 obtain ⟨sa_hc, sc_hc, rfl⟩ := hc.form
 obtain ⟨sa_hu, sc_hu, rfl⟩ := hu.form
 refine match h_n with | ⟨vp_n, vk_n, vr_n, hN_n, hp_n, hk_n, hr_n⟩ => ?_
 refine match hp_n.form with | ⟨_, _, eV_⟩ => ?_
 subst eV_
 refine match hk_n.form with | ⟨_, _, eV_⟩ => ?_
 subst eV_
 refine match hr_n.form with | ⟨_, _, eV_⟩ => ?_
 subst eV_
 have hl1 := hk_n.len47
 have hl2 := hr_n.len47
 refine Fc.go [.tmp 4] Tryz.func105 Tryz.ntmps105 rfl (fun w0 => (g9 11 ?_))
 refine W.ok (ok_loadG (vs := ic9) ty3 hN_n rfl rfl rfl (by simp)) (g9 3 ?_)
 refine WC.cd (fun h9 p9 => ?_) (fun h9 p9 => ?_)
 ·refine g9 5 ?_
  refine W.ok (ok_loadG (vs := lc9) ty31 (hN_n.drop 3) rfl rfl rfl (by simp)) (g9 4 ?_)
  refine W.ok (ok_loadG (vs := ic9) ty3 (hT.drop 3) rfl rfl rfl (by simp)) (g9 7 ?_)
  refine congrArg Value.bool ?_
  unfold fulN
  rw [if_pos p9]
 refine g9 7 ?_
 refine W.ok (ok_loadG (vs := lc9) ty55 (hN_n.drop 2) rfl rfl rfl (by simp)) (g9 4 ?_)
 refine W.ok (ok_loadG (vs := ic9) ty3 (hT.drop 2) rfl rfl rfl (by simp)) (g9 6 ?_)
 refine congrArg Value.bool ?_
 unfold fulN
 rw [if_neg p9]

theorem bfew_fc {G : GH} {bt ba : Nat} {root fan leaf : Int} {cells : List (Option Nat)} {u : List Bool} (h_t : TrG bt ba root fan leaf cells u G) {b_n : Nat} {n : BNd} (h_n : BoxG b_n n G) (hfl : 0 ≤ fan ∧ fan ≤ 4096 ∧ 0 ≤ leaf ∧ leaf ≤ 4096) :
    Fc Tryz.prog 99 [pt9 bt, pt9 b_n] G [] (fun v _ _ => v = .bool (fewN fan leaf n)) := by
 obtain ⟨hT, vc, vu, vf, hA, hc, hu, hcu, hn, hf9⟩ := h_t
 have h_t : TrG bt ba root fan leaf cells u G := ⟨hT, vc, vu, vf, hA, hc, hu, hcu, hn, hf9⟩
 obtain ⟨sa_hc, sc_hc, rfl⟩ := hc.form
 obtain ⟨sa_hu, sc_hu, rfl⟩ := hu.form
 refine match h_n with | ⟨vp_n, vk_n, vr_n, hN_n, hp_n, hk_n, hr_n⟩ => ?_
 refine match hp_n.form with | ⟨_, _, eV_⟩ => ?_
 subst eV_
 refine match hk_n.form with | ⟨_, _, eV_⟩ => ?_
 subst eV_
 refine match hr_n.form with | ⟨_, _, eV_⟩ => ?_
 subst eV_
 have hl1 := hk_n.len47
 have hl2 := hr_n.len47
 refine Fc.go [.tmp 4] Tryz.func99 Tryz.ntmps99 rfl (fun w0 => (g9 11 ?_))
 refine W.ok (ok_loadG (vs := ic9) ty3 hN_n rfl rfl rfl (by simp)) (g9 3 ?_)
 refine WC.cd (fun h9 p9 => ?_) (fun h9 p9 => ?_)
 ·refine g9 5 ?_
  refine W.ok (ok_loadG (vs := lc9) ty31 (hN_n.drop 3) rfl rfl rfl (by simp)) (g9 4 ?_)
  refine W.ok (ok_loadG (vs := ic9) ty3 (hT.drop 3) rfl rfl rfl (by simp)) (W.ok (ok_quo' rfl rfl om9 om9 om9) (g9 7 ?_))
  refine congrArg Value.bool ?_
  unfold fewN
  rw [if_pos p9]
 refine g9 7 ?_
 refine W.ok (ok_loadG (vs := lc9) ty55 (hN_n.drop 2) rfl rfl rfl (by simp)) (g9 4 ?_)
 refine W.ok (ok_loadG (vs := ic9) ty3 (hT.drop 2) rfl rfl rfl (by simp)) (W.ok (ok_quo' rfl rfl om9 om9 om9) (g9 6 ?_))
 refine congrArg Value.bool ?_
 unfold fewN
 rw [if_neg p9]

theorem bneeds_fc {G : GH} {bt ba : Nat} {root fan leaf : Int} {cells : List (Option Nat)} {u : List Bool} (h_t : TrG bt ba root fan leaf cells u G) {v_p : Value} {p : List (Option Nat)} (h_p : SlR ePt G v_p p) (L : List BNd) (hpL : p = (L.map (ptB cells))) (hL : NsG cells L G) :
    Fc Tryz.prog 76 [pt9 bt, v_p] G [] (fun v _ _ => v = nt9 (needN (L.map (fulN fan leaf)))) := by
 obtain ⟨hT, vc, vu, vf, hA, hc, hu, hcu, hn, hf9⟩ := h_t
 have h_t : TrG bt ba root fan leaf cells u G := ⟨hT, vc, vu, vf, hA, hc, hu, hcu, hn, hf9⟩
 obtain ⟨sa_hc, sc_hc, rfl⟩ := hc.form
 obtain ⟨sa_hu, sc_hu, rfl⟩ := hu.form
 obtain ⟨sa_p, sc_p, rfl⟩ := h_p.form
 have hl0 := h_p.len47
 have hlm : p.length = L.length := by rw [hpL]; exact List.length_map ..
 refine Fc.go [.tmp 4] Tryz.func76 Tryz.ntmps76 rfl (fun w0 => (g9 20 ?_))
 refine WC.loop (X := Nat) (fun j => [(5, nt9 j), (6, iV ((L.length : Int) - 1 - (j : Int))), (0, pt9 bt), (1, lV sa_p p.length sc_p)]) (fun j _ Ml => Ml = [] ∧ j ≤ L.length ∧ ∀ i (h : i < (L.map (fulN fan leaf)).length), L.length - j ≤ i → (L.map (fulN fan leaf))[i] = true) (fun j => L.length - j) 0 hs9 ?_ ?_
 ·exact ⟨rfl, om9, fun i h hi => by rw [List.length_map] at h; omega⟩
 rintro j gG1 G1 _ hG1 ⟨rfl, hj, hfj⟩
 refine g9 7 ?_
 refine WC.cd (fun h11 p11 => ?_) (fun h11 p11 => ?_)
 ·refine g9 10 ?_
  refine (h_p.mono hG1).a1 (i := L.length - 1 - j) om9 (fun he2 => (W.ok (ok_indexAddr (i := L.length - 1 - j) sl80 ty64 (h_p.mono hG1) rfl rfl ⟨om9, om9⟩) (g9 1 ?_)))
  have q5 := hL _ (List.getElem_mem (by omega : L.length - 1 - j < L.length))
  refine match q5 with | ⟨b9, hb9, hB9⟩ => ?_
  have hpt9 : p[L.length - 1 - j]'om9 = some b9 := by subst hpL; rw [List.getElem_map]; exact hb9.pt
  refine W.qcall (show Fc _ _ [_, .pointer ((p[L.length - 1 - j]'om9).map fun b => ⟨b, 0, none⟩)] _ _ _ from (by rw [hpt9]; exact bfull_fc (h_t.mono hG1) (hB9.mono hG1))) rfl (g9 3 ?_)
  refine WC.cond rfl (fun h20 => ?_) (fun h20 => ?_)
  ·refine g9 14 ?_
   refine congrArg (Value.int .i64) ?_
   rw [need_stop (j := j) (by rw [List.length_map]; omega) (fun i h hi => hfj i h (by rw [List.length_map] at hi; omega)) (by rw [List.getElem_map]; simp only [List.length_map]; simpa using h20)]
  refine g9 15 ?_
  exact ⟨Le.rfl, j + 1, hs9, ⟨rfl, om9, fun i h hi => by
      by_cases e : i = L.length - 1 - j
      · subst e; rw [List.getElem_map]; simpa using h20
      · exact hfj i h om9⟩, om9⟩
 refine g9 14 ?_
 refine congrArg (Value.int .i64) ?_
 rw [need_all fun i h => hfj i h om9, List.length_map]; omega

theorem bpath_fc {G : GH} {bt ba : Nat} {root fan leaf : Int} {cells : List (Option Nat)} {u : List Bool} (h_t : TrG bt ba root fan leaf cells u G) (k : Str) (kk : Nat) (y : BT kk) (lo : Int) (hi : Int) (sp : Span) (hs : sp.norm = sp) (hok : BT.ok fan leaf kk lo hi sp y) (hNs : NsG cells (nds kk y) G) (hus : UsN u (nds kk y)) (hroot : root = y.slot) (hkk : kk ≤ 4096) :
    Fc Tryz.prog 33 [pt9 bt, sV k.b] G [] (fun v G' M' => OwnR ePt 64 G' v (((pathB k kk y).map (ptB cells))) M') := by
 obtain ⟨hT, vc, vu, vf, hA, hc, hu, hcu, hn, hf9⟩ := h_t
 have h_t : TrG bt ba root fan leaf cells u G := ⟨hT, vc, vu, vf, hA, hc, hu, hcu, hn, hf9⟩
 obtain ⟨sa_hc, sc_hc, rfl⟩ := hc.form
 obtain ⟨sa_hu, sc_hu, rfl⟩ := hu.form
 refine Fc.go [.tmp 4] Tryz.func33 Tryz.ntmps33 rfl (fun w0 => (g9 11 ?_))
 refine W.ok (ok_loadG (vs := ic9) ty3 (hT.drop 1) rfl rfl rfl (by simp)) ?_
 have hu9 := hus _ nds_head
 rw [ndB_slot] at hu9
 have q6 := hNs _ nds_head
 refine match q6 with | ⟨b0, hb0, hB0⟩ => ?_
 rw [ndB_slot] at hb0
 rw [← hroot] at hb0 hu9
 refine W.qcall (bat_fc h_t root b0 hb0 hu9) rfl (W.litO (e := ePt) (l := [(some b0)]) (css := [[.pointer _]]) sl80 ty64 zr64 rfl rfl rfl rfl rfl rfl ⟨rfl, trivial⟩ (fun v7 Ms8 ho9 => (g9 7 ?_)))
 refine ho9.a1 (i := 0) (by simp) (fun he10 => (W.ok (ok_indexAddrO (i := 0) sl80 ty64 ho9 rfl rfl ⟨om9, by simp⟩) (W.ok (ok_loadO (vs := [.pointer _]) ty64 he10 pr9 rfl rfl rfl (by simp)) (g9 4 ?_))))
 refine WC.loop (X := (List (Option Nat) × Nat × Nat) × Value × MH) (fun x => [(6, .pointer (some ⟨x.1.2.1, 0, none⟩)), (0, pt9 bt), (1, sV k.b), (5, x.2.1)]) (fun x G Ml => Ml = (x.2.2 ++ []) ∧ OwnR ePt 64 G x.2.1 (x.1.1) x.2.2 ∧ ∃ c : BT x.1.2.2, Blk cells c.slot x.1.2.1 ∧ x.1.1 ++ ((pathB k x.1.2.2 c).drop 1).map (ptB cells) = ((pathB k kk y).map (ptB cells)) ∧ NsG cells (nds x.1.2.2 c) G ∧ UsN u (nds x.1.2.2 c) ∧ (∃ lo hi sp, Span.norm sp = sp ∧ BT.ok fan leaf x.1.2.2 lo hi sp c) ∧ x.1.1.length + x.1.2.2 = kk + 1) (fun x => x.1.2.2) ((([some b0], b0, kk) : List (Option Nat) × Nat × Nat), v7, Ms8) hs9 ?_ ?_
 ·exact ⟨rfl, (by exact ho9), y, hroot ▸ hb0, by dsimp only; obtain ⟨l9, hl9⟩ := pathB_head (key := k) (k := kk) (y := y); rw [hl9, List.map_cons, (show ptB cells (ndB kk y) = some b0 from Blk.pt (by rw [ndB_slot, ← hroot]; exact hb0))]; rfl, hNs, hus, ⟨lo, hi, sp, hs, hok⟩, by simp; omega⟩
 rintro ⟨⟨out, b, j⟩, v_5, M_5⟩ gG13 G13 _ hG13 ⟨rfl, ho_5, ⟨c, hbc, hout, hNs2, hus2, ⟨lo2, hi2, sp2, hs2, hok2⟩, hlen2⟩⟩
 try dsimp only at ho_5 c hbc hout hNs2 hus2 lo2 hi2 sp2 hs2 hok2 hlen2
 have q9 := hNs2 _ nds_head
 refine match q9 with | ⟨b8, hb8, hBc⟩ => ?_
 rw [ndB_slot] at hb8
 have e8 := hbc.one hb8
 subst e8
 refine match hBc with | ⟨vp_c, vk_c, vr_c, hN_c, hp_c, hk_c, hr_c⟩ => ?_
 refine match hp_c.form with | ⟨_, _, eV_⟩ => ?_
 subst eV_
 refine match hk_c.form with | ⟨_, _, eV_⟩ => ?_
 subst eV_
 refine match hr_c.form with | ⟨_, _, eV_⟩ => ?_
 subst eV_
 refine WC.fr (f := setL gG13 [(6, pt9 b), (0, pt9 bt), (1, sV k.b), (5, v_5)]) rfl (g9 6 ?_)
 refine W.ok (ok_loadG (vs := ic9) ty3 hN_c rfl rfl rfl (by simp)) (g9 3 ?_)
 refine WC.cd (fun h21 p21 => ?_) (fun h21 p21 => ?_)
 ·try dsimp only at p21
  rw [ndB_lvl] at p21
  obtain ⟨j2, ej2⟩ : ∃ j2, j = j2 + 1 := ⟨j - 1, om9⟩
  subst ej2
  refine g9 9 ?_
  refine W.ok (ok_loadG (vs := lc9) ty55 (hN_c.drop 2) rfl rfl rfl (by simp)) (g9 3 ?_)
  refine W.ok (ok_loadG (vs := lc9) ty54 (hN_c.drop 1) rfl rfl rfl (by simp)) (W.mv (W.qcall (broute_fc hp_c _ (hok2.2.piv hs2).1) rfl (hk_c.a2 (i := routeN (ndP c) k) (by show _ < (List.map _ _).length; rw [List.length_map]; exact kid_at hs2 hok2 k) (fun he14 hi15 => (W.ok (ok_indexAddr (i := routeN (ndP c) k) sl55 ty3 hk_c rfl rfl ⟨rfl, by show _ < (List.map _ _).length; rw [List.length_map]; exact kid_at hs2 hok2 k⟩) (g9 1 ?_))))))
  have hkm9 : ndB j2 ((ndK c)[routeN (ndP c) k]'(kid_at hs2 hok2 k)) ∈ nds (j2 + 1) c := nds_kid (List.getElem_mem _) nds_head
  have q18 := hNs2 _ hkm9
  refine match q18 with | ⟨b9, hb9, hB9⟩ => ?_
  have hu9 := hus2 _ hkm9
  have hsl9 : (ndB (j2 + 1) c).K[routeN (ndP c) k]'(by show _ < (List.map _ _).length; rw [List.length_map]; exact kid_at hs2 hok2 k) = (ndB j2 ((ndK c)[routeN (ndP c) k]'(kid_at hs2 hok2 k))).slot := by rw [ndB_slot]; exact List.getElem_map ..
  refine W.qcall (bat_fc (h_t.mono hG13) _ b9 (by rw [← hsl9] at hb9; exact hb9) (by rw [← hsl9] at hu9; exact hu9)) rfl (g9 7 ?_)
  refine W.lit (e := ePt) (l := [(some b9)]) (css := [[.pointer _]]) sl80 ty64 zr64 rfl rfl rfl rfl rfl rfl ⟨rfl, trivial⟩ (fun bl19 G19 hG19 hv19 => (W.app (e := ePt) sl80 ty64 zr64 rfl by64 rfl rfl ((ho_5.mono hG19)) (hv19) pr9 (by show (_ + 1) * 8 ≤ _; omega) (fun v20 Ms21 ho22 => (g9 3 ?_))))
  exact ⟨hG19, (((out ++ [some b9], b9, j2) : List (Option Nat) × Nat × Nat), v20, Ms21), hs9, ⟨rfl, (by exact ho22), ⟨(ndK c)[routeN (ndP c) k]'(kid_at hs2 hok2 k), by rw [ndB_slot] at hb9; exact hb9, by dsimp only at hout ⊢; rw [← hout]; show _ = out ++ List.map _ (pathB k j2 ((ndK c).getD (routeN (ndP c) k) default)); rw [getD_lt (kid_at hs2 hok2 k)]; obtain ⟨l9, hl9⟩ := pathB_head (key := k) (k := j2) (y := (ndK c)[routeN (ndP c) k]'(kid_at hs2 hok2 k)); rw [hl9, List.map_cons, Blk.pt hb9]; simp, fun n hn => (hNs2.mono hG19) n (nds_kid (List.getElem_mem _) hn), fun n hn => hus2 n (nds_kid (List.getElem_mem _) hn), (by obtain ⟨u9, h9, v1, _, v3, _⟩ := hok2.2.at hs2 (i := routeN (ndP c) k) (List.length_filter_le _ _); exact ⟨_, _, u9, v1, v3⟩), by dsimp only at hlen2 ⊢; simp; omega⟩⟩, by dsimp only; omega⟩
 try dsimp only at p21
 rw [ndB_lvl] at p21
 obtain ej2 : j = 0 := by omega
 subst ej2
 have hout2 : out = ((pathB k kk y).map (ptB cells)) := by simpa [pathB] using hout
 refine g9 12 ?_
 refine ⟨.inr rfl, [_], ⟨rfl, trivial⟩, M_5, List.sublist_append_left _ _, ?_⟩
 rw [← hout2]
 exact ho_5

def ScanC (kk : Nat) : Prop := ∀ {G : GH} {bt ba : Nat} {root fan leaf : Int} {cells : List (Option Nat)} {u : List Bool} (h_t : TrG bt ba root fan leaf cells u G) (i : Int) (slo shi : Str) (so : Bool) (lim : Int) {v_out : Value} {out : List Pair} {Ms_out : MH} (h_out : OwnR ePair 84 G v_out out Ms_out)
    (y : BT kk) (lo hi : Int) (sp : Span) (hs : sp.norm = sp) (hok : BT.ok fan leaf kk lo hi sp y) (hNs : NsG cells (nds kk y) G) (hus : UsN u (nds kk y)) (hi9 : i = y.slot) (hb9 : fan ≤ 4096 ∧ leaf ≤ 4096 ∧ hi ≤ 4096) (hlim : lim ≤ 1000000),
    Fc Tryz.prog 35 [pt9 bt, iV i, .agg (List.toArray [sV slo.b, sV shi.b, .bool so]), iV lim, v_out] G Ms_out (fun v G' M' => OwnR ePair 84 G' v (scB ⟨slo, shi, so⟩ lim out (BT.rows kk y)) M')
theorem bscan0_fc {G : GH} {bt ba : Nat} {root fan leaf : Int} {cells : List (Option Nat)} {u : List Bool} (h_t : TrG bt ba root fan leaf cells u G) (i : Int) (slo : Str) (shi : Str) (so : Bool) (lim : Int) {v_out : Value} {out : List Pair} {Ms_out : MH} (h_out : OwnR ePair 84 G v_out out Ms_out) (y : BT 0) (lo : Int) (hi : Int) (sp : Span) (hs : sp.norm = sp) (hok : BT.ok fan leaf 0 lo hi sp y) (hNs : NsG cells (nds 0 y) G) (hus : UsN u (nds 0 y)) (hi9 : i = y.slot) (hb9 : fan ≤ 4096 ∧ leaf ≤ 4096 ∧ hi ≤ 4096) (hlim : lim ≤ 1000000) :
    Fc Tryz.prog 35 [pt9 bt, iV i, .agg #[sV slo.b, sV shi.b, .bool so], iV lim, v_out] G Ms_out (fun v G' M' => OwnR ePair 84 G' v (scB ⟨slo, shi, so⟩ lim out (BT.rows 0 y)) M') := by
 obtain ⟨hT, vc, vu, vf, hA, hc, hu, hcu, hn, hf9⟩ := h_t
 have h_t : TrG bt ba root fan leaf cells u G := ⟨hT, vc, vu, vf, hA, hc, hu, hcu, hn, hf9⟩
 obtain ⟨sa_hc, sc_hc, rfl⟩ := hc.form
 obtain ⟨sa_hu, sc_hu, rfl⟩ := hu.form
 have hlo9 := h_out.len47
 have hlr9 : (ndB 0 y).R.length ≤ 4096 := by have h9 := hok.1.2; show (lfR y).length ≤ 4096; omega
 have hF9 : ((ndB 0 y).R.filter (fun p : Pair => Span.has (⟨slo, shi, so⟩ : Span) p.key)).length ≤ 4096 := Nat.le_trans (List.length_filter_le _ _) hlr9
 refine Fc.go [.tmp 10] Tryz.func35 Tryz.ntmps35 rfl (fun w0 => (WC.perm (M' := (Ms_out ++ [])) (by simp) (WC.sr (W.box (L := [sV _, sV _, .bool _]) rfl rfl (fun b1 => (W.as (W.ns (W.mv (W.mv ?_)))))))))
 have hu9 := hus _ nds_head
 rw [ndB_slot] at hu9
 have q2 := hNs _ nds_head
 refine match q2 with | ⟨b0, hb0, hB0⟩ => ?_
 rw [ndB_slot] at hb0
 rw [← hi9] at hb0 hu9
 refine W.qcall (bat_fc h_t i b0 hb0 hu9) rfl ?_
 refine match hB0 with | ⟨vp_c, vk_c, vr_c, hN_c, hp_c, hk_c, hr_c⟩ => ?_
 refine match hp_c.form with | ⟨_, _, eV_⟩ => ?_
 subst eV_
 refine match hk_c.form with | ⟨_, _, eV_⟩ => ?_
 subst eV_
 refine match hr_c.form with | ⟨_, _, eV_⟩ => ?_
 subst eV_
 refine W.an (WC.seq (WC.sr (W.mv (W.ok (ok_nilP rfl) (W.fb fd70_0 rfl (W.ok (ok_loadG (vs := ic9) ty3 hN_c rfl rfl rfl (by simp)) (W.ok (ok_eql rfl rfl) (W.nt (WC.cond_t rfl rfl (WC.seq (WC.seq (WC.dw sn9.k9 (WD.tk 0 rfl (ok_mv) ?_)))))))))))))
 refine WD.tk 1 rfl (ok_nilP rfl) (WD.tk 2 rfl (ok_fieldB fd70_3 rfl) (WD.tk 3 rfl (ok_loadG (vs := lc9) ty31 (hN_c.drop 3) rfl rfl rfl (by simp)) (WD.tk 4 rfl (ok_ld 0 sp9 ty74 rfl) (WD.tk 7 rfl (ok_mv) (WD.a1 5 rfl (W.cS (within_fc hr_c slo shi so om9) rfl (fun sa_hv4 sc_hv4 G3 hG3 hv4 => (W.nn (WD.tk 6 rfl (ok_len sl31 hv4 rfl) (WD.dn (WC.block ?_)))))))))))
 refine WC.loop (X := (Nat × List Pair) × Value × MH) (fun x => [(31, nt9 x.1.1), (3, iV lim), (29, lV sa_hv4 ((ndB 0 y).R.filter (fun p : Pair => Span.has (⟨slo, shi, so⟩ : Span) p.key)).length sc_hv4), (30, nt9 (((ndB 0 y).R.filter (fun p : Pair => Span.has (⟨slo, shi, so⟩ : Span) p.key)).length)), (4, x.2.1)]) (fun x G Ml => Ml = ((b1, ce9 74 [sV slo.b, sV shi.b, .bool so]) :: (x.2.2 ++ [])) ∧ OwnR ePair 84 G x.2.1 (x.1.2) x.2.2 ∧ x.1.1 ≤ ((ndB 0 y).R.filter (fun p : Pair => Span.has (⟨slo, shi, so⟩ : Span) p.key)).length ∧ x.1.2 = scB ⟨slo, shi, so⟩ lim out (((ndB 0 y).R.filter (fun p : Pair => Span.has (⟨slo, shi, so⟩ : Span) p.key)).take x.1.1)) (fun x => ((ndB 0 y).R.filter (fun p : Pair => Span.has (⟨slo, shi, so⟩ : Span) p.key)).length - x.1.1) (((0, out) : Nat × List Pair), v_out, Ms_out) hs9 ?_ ?_
 ·exact ⟨rfl, (by exact (h_out.mono hG3)), Nat.zero_le _, scB_nil.symm⟩
 rintro ⟨⟨k, o⟩, v_4, M_4⟩ gG10 G10 _ hG10 ⟨rfl, ho_4, hk, hoe⟩
 try dsimp only at ho_4 hk hoe
 refine WC.fr (f := setL gG10 [(31, nt9 k), (3, iV lim), (29, lV sa_hv4 ((ndB 0 y).R.filter (fun p : Pair => Span.has (⟨slo, shi, so⟩ : Span) p.key)).length sc_hv4), (30, nt9 (((ndB 0 y).R.filter (fun p : Pair => Span.has (⟨slo, shi, so⟩ : Span) p.key)).length)), (4, v_4)]) rfl (WC.sr (W.ok (ok_lss rfl rfl) (W.nt (WC.seq ?_))))
 refine WC.cd (fun h32 p32 => ?_) (fun h32 p32 => ?_)
 ·try dsimp only at p32
  refine WC.sk (WC.seq (WC.block (WC.sr ((hv4.mono hG10).a1 (i := k) om9 (fun he11 => (W.ok (ok_indexAddr (i := k) sl31 ty84 (hv4.mono hG10) rfl rfl ⟨om9, om9⟩) (W.ok (ok_loadE (vs := pr29) ty84 he11 rfl rfl rfl (by simp)) (W.alloc zr84 (fun b14 => (W.st 0 pr29 pr29 ty84 rfl (W.ns (W.mv (W.ok (ok_lenO sl31 ho_4 rfl) (W.mv (W.ok (ok_lss rfl rfl) ?_)))))))))))))))
  refine W.nt ?_
  refine WC.cd (fun h38 p38 => ?_) (fun h38 p38 => ?_)
  ·try dsimp only at p38
   refine WC.region (W.mv (W.ok (ok_ld 0 pr29 ty84 rfl) (W.lit (e := ePair) (l := [⟨(((ndB 0 y).R.filter (fun p : Pair => Span.has (⟨slo, shi, so⟩ : Span) p.key))[k]).key, (((ndB 0 y).R.filter (fun p : Pair => Span.has (⟨slo, shi, so⟩ : Span) p.key))[k]).val⟩]) (css := [[sV _, sV _]]) sl31 ty84 zr84 rfl rfl rfl rfl rfl rfl ⟨rfl, trivial⟩ (fun bl15 G15 hG15 hv15 => (W.app (e := ePair) sl31 ty84 zr84 rfl by84 rfl rfl ((ho_4.mono hG15)) (hv15) (pmC (pmC pr9)) (by show (_ + 1) * 32 ≤ _; omega) (fun v16 Ms17 ho18 => (W.perm (pmC (pmC pr9)).symm (W.as (W.nil (blk_n (thn_n (WC.region (W.ok (ok_add rfl rfl om9) (W.mv (W.sub (sr9.cons _) (W.nt ?_))))))))))))))))
   exact ⟨hG15, (((k + 1, o ++ [((ndB 0 y).R.filter (fun p : Pair => Span.has (⟨slo, shi, so⟩ : Span) p.key))[k]'om9]) : Nat × List Pair), v16, Ms17), hs9, ⟨rfl, (by exact ho18), by dsimp only; omega, by dsimp only; rw [scB_step om9, ← hoe, if_pos p38]⟩, by dsimp only; omega⟩
  try dsimp only at p38
  refine WC.skip (blk_n (thn_n (WC.region (W.ok (ok_add rfl rfl om9) (W.mv (W.sub (sr9.cons _) (W.nt ?_)))))))
  exact ⟨Le.rfl, (((k + 1, o) : Nat × List Pair), v_4, M_4), hs9, ⟨rfl, (by exact ho_4), by dsimp only; omega, by dsimp only; rw [scB_step om9, ← hoe, if_neg p38]⟩, by dsimp only; omega⟩
 try dsimp only at p32
 refine WC.exit (thn_x (thn_x (blk_h (thn_n (WC.sr (W.mv (W.an (WC.rt ?_))))))))
 refine ⟨.inr rfl, [_], ⟨rfl, trivial⟩, M_4, (List.sublist_append_left _ _).cons _, ?_⟩
 have hk9 : k = ((ndB 0 y).R.filter (fun p : Pair => Span.has (⟨slo, shi, so⟩ : Span) p.key)).length := by omega
 rw [hk9, List.take_length, scB_all] at hoe
 rw [show BT.rows 0 y = (ndB 0 y).R from rfl, ← hoe]
 exact ho_4

theorem bscan1_fc {G : GH} {bt ba : Nat} {root fan leaf : Int} {cells : List (Option Nat)} {u : List Bool} (h_t : TrG bt ba root fan leaf cells u G) (i : Int) (slo : Str) (shi : Str) (so : Bool) (lim : Int) {v_out : Value} {out : List Pair} {Ms_out : MH} (h_out : OwnR ePair 84 G v_out out Ms_out) (kk : Nat) (ih : ScanC kk) (y : BT (kk + 1)) (lo : Int) (hi : Int) (sp : Span) (hs : sp.norm = sp) (hok : BT.ok fan leaf (kk + 1) lo hi sp y) (hNs : NsG cells (nds (kk + 1) y) G) (hus : UsN u (nds (kk + 1) y)) (hi9 : i = y.slot) (hb9 : fan ≤ 4096 ∧ leaf ≤ 4096 ∧ hi ≤ 4096) (hlim : lim ≤ 1000000) :
    Fc Tryz.prog 35 [pt9 bt, iV i, .agg #[sV slo.b, sV shi.b, .bool so], iV lim, v_out] G Ms_out (fun v G' M' => OwnR ePair 84 G' v (scB ⟨slo, shi, so⟩ lim out (BT.rows (kk + 1) y)) M') := by
 obtain ⟨hT, vc, vu, vf, hA, hc, hu, hcu, hn, hf9⟩ := h_t
 have h_t : TrG bt ba root fan leaf cells u G := ⟨hT, vc, vu, vf, hA, hc, hu, hcu, hn, hf9⟩
 obtain ⟨sa_hc, sc_hc, rfl⟩ := hc.form
 obtain ⟨sa_hu, sc_hu, rfl⟩ := hu.form
 have hlo9 := h_out.len47
 have hK9 : (ndB (kk + 1) y).K.length = (ndK y).length := List.length_map ..
 have hK8 : (ndK y).length ≤ 4096 := by have h9 := hok.1.2; omega
 refine Fc.go [.tmp 10] Tryz.func35 Tryz.ntmps35 rfl (fun w0 => (WC.perm (M' := (Ms_out ++ [])) (by simp) (g9 2 ?_)))
 refine W.box (L := [sV _, sV _, .bool _]) rfl rfl (fun b19 => (g9 7 ?_))
 have hu9 := hus _ nds_head
 rw [ndB_slot] at hu9
 have q20 := hNs _ nds_head
 refine match q20 with | ⟨b0, hb0, hB0⟩ => ?_
 rw [ndB_slot] at hb0
 rw [← hi9] at hb0 hu9
 refine W.qcall (bat_fc h_t i b0 hb0 hu9) rfl ?_
 refine match hB0 with | ⟨vp_c, vk_c, vr_c, hN_c, hp_c, hk_c, hr_c⟩ => ?_
 refine match hp_c.form with | ⟨_, _, eV_⟩ => ?_
 subst eV_
 refine match hk_c.form with | ⟨ka_c, kc_c, eV_⟩ => ?_
 subst eV_
 refine match hr_c.form with | ⟨_, _, eV_⟩ => ?_
 subst eV_
 refine g9 9 ?_
 refine W.ok (ok_loadG (vs := ic9) ty3 hN_c rfl rfl rfl (by simp)) (g9 3 ?_)
 refine WC.cd (fun h23 p23 => ?_) (fun h23 p23 => ?_)
 ·try dsimp only at p23
  exact absurd p23 (by rw [ndB_lvl]; omega)
 try dsimp only at p23
 refine g9 8 ?_
 refine W.ok (ok_loadG (vs := lc9) ty55 (hN_c.drop 2) rfl rfl rfl (by simp)) (g9 5 ?_)
 refine WC.loop (X := (Nat × List Pair) × Value × MH) (fun x => [(50, nt9 x.1.1), (7, pt9 b19), (0, pt9 bt), (3, iV lim), (11, pt9 b0), (48, lV ka_c ((ndB (kk + 1) y).K).length kc_c), (49, nt9 (((ndB (kk + 1) y).K).length)), (4, x.2.1)]) (fun x G Ml => Ml = ((b19, ce9 74 [sV slo.b, sV shi.b, .bool so]) :: (x.2.2 ++ [])) ∧ OwnR ePair 84 G x.2.1 (x.1.2) x.2.2 ∧ x.1.1 ≤ (ndK y).length ∧ x.1.2 = scB ⟨slo, shi, so⟩ lim out (((ndK y).take x.1.1).flatMap (BT.rows kk))) (fun x => (ndK y).length - x.1.1) (((0, out) : Nat × List Pair), v_out, Ms_out) hs9 ?_ ?_
 ·exact ⟨rfl, (by exact h_out), Nat.zero_le _, scB_nil.symm⟩
 rintro ⟨⟨j, o⟩, v_4, M_4⟩ gG21 G21 _ hG21 ⟨rfl, ho_4, hk, hoe⟩
 try dsimp only at ho_4 hk hoe
 refine WC.fr (f := setL gG21 [(50, nt9 j), (7, pt9 b19), (0, pt9 bt), (3, iV lim), (11, pt9 b0), (48, lV ka_c ((ndB (kk + 1) y).K).length kc_c), (49, nt9 (((ndB (kk + 1) y).K).length)), (4, v_4)]) rfl (g9 6 ?_)
 refine WC.cd (fun h51 p51 => ?_) (fun h51 p51 => ?_)
 ·try dsimp only at p51
  refine g9 7 ?_
  refine (hk_c.mono hG21).a2 (i := j) om9 (fun he22 hi23 => (g9 13 ?_))
  refine W.sd 59 (fun h58 p58 => ?_) (fun h58 p58 => ?_)
  ·try dsimp only at p58
   refine g9 7 ?_
   refine W.ok (ok_loadG (vs := lc9) ty54 ((hN_c.mono hG21).drop 1) rfl rfl rfl (by simp)) (g9 3 ?_)
   refine W.qcall (brange_fc (hp_c.mono hG21) _ ⟨om9, by have h9 := hok.1.2; omega⟩) rfl (g9 3 ?_)
   refine W.qcall (touch_fc _ _ _ _ _ _) rfl (g9 3 ?_)
   refine WC.cond rfl (fun h67 => ?_) (fun h67 => ?_)
   ·refine g9 6 ?_
    have hj9 : j < (ndK y).length := by simpa [ndB] using p51
    have q26 := hok.2.at hs (i := j) (by have := hok.2.len; omega)
    refine match q26 with | ⟨u9, hj8, v1, v2, v3, v4⟩ => ?_
    refine W.call (Mp := M_4) (ih (h_t.mono hG21) _ slo shi so lim ho_4 ((ndK y)[j]'hj9) _ _ u9 v1 v3 (fun n hn => (hNs.mono hG21) n (nds_kid (List.getElem_mem _) hn)) (fun n hn => hus n (nds_kid (List.getElem_mem _) hn)) (List.getElem_map ..) ⟨hb9.1, hb9.2.1, by unfold mxB; split <;> omega⟩ hlim) rfl (pmC pr9) ?_
    rintro v28 G27 Ms29 hG27 ho30
    refine W.perm (pmC pr9).symm (g9 9 ?_)
    exact ⟨hG27, (((j + 1, scB ⟨slo, shi, so⟩ lim o (BT.rows kk ((ndK y)[j]'hj9))) : Nat × List Pair), v28, Ms29), hs9, ⟨rfl, (by exact ho30), by dsimp only; omega, by dsimp only; rw [rows_take hj9, ← scB_app, ← hoe]⟩, by dsimp only; omega⟩
   refine g9 8 ?_
   exact ⟨Le.rfl, (((j + 1, o) : Nat × List Pair), v_4, M_4), hs9, ⟨rfl, (by exact ho_4), by dsimp only; omega, by dsimp only; rw [rows_take om9, ← scB_app, ← hoe]; exact (scB_none (scB_skip hs hok om9 (by have h9 : (!(Span.meet (rangeN (ndP y) (j : Int)) ⟨slo, shi, so⟩).empty) = false := h67; simpa using h9))).symm⟩, by dsimp only; omega⟩
  try dsimp only at p58
  refine g9 20 ?_
  exact ⟨Le.rfl, (((j + 1, o) : Nat × List Pair), v_4, M_4), hs9, ⟨rfl, (by exact ho_4), by dsimp only; omega, by dsimp only; rw [rows_take om9, ← scB_app, ← hoe]; exact (scB_full p58).symm⟩, by dsimp only; omega⟩
 try dsimp only at p51
 refine g9 12 ?_
 refine ⟨.inr rfl, [_], ⟨rfl, trivial⟩, M_4, (List.sublist_append_left _ _).cons _, ?_⟩
 have hk9 : j = (ndK y).length := by omega
 rw [hk9, List.take_length] at hoe
 rw [show BT.rows (kk + 1) y = (ndK y).flatMap (BT.rows kk) from rfl, ← hoe]
 exact ho_4

theorem bscan_all : ∀ kk, ScanC kk
  | 0 => fun h_t i slo shi so lim _ _ _ h_out y lo hi sp hs hok hNs hus hi9 hb9 hlim => bscan0_fc h_t i slo shi so lim h_out y lo hi sp hs hok hNs hus hi9 hb9 hlim
  | kk + 1 => fun h_t i slo shi so lim _ _ _ h_out y lo hi sp hs hok hNs hus hi9 hb9 hlim => bscan1_fc h_t i slo shi so lim h_out kk (bscan_all kk) y lo hi sp hs hok hNs hus hi9 hb9 hlim
end Go.Proofs.YtemoalimclnfkaaGreat
