/- A tree with buffers in memory, and what its writes do. Plain Lean; nothing of the program is named here. No condition. -/
import Derived.Test.YtbbemibbmbmamaaGreatQhOw
set_option linter.unusedVariables false
set_option linter.unusedSimpArgs false
set_option linter.unnecessarySimpa false
set_option maxRecDepth 100000
set_option maxHeartbeats 1600000
namespace Go.Fw
open Go Go.RowKit
def BtR (te tB ti tb TS TT bt bs : Nat) (c : Cfg) (G : GH) (X : List Nd × Str) (M : MH) : Prop := ∃ Ms, M = (bt, .cells (List.toArray [.pointer (some ⟨bs, 0, none⟩), .string X.2.b]) TT (0, 0)) :: Ms ∧ StR te tB ti tb TS bs c G X.1 Ms
theorem BtR.mono {te tB ti tb TS TT bt bs : Nat} {c : Cfg} {G G' : GH} {X : List Nd × Str} {M : MH} (hl : Le G G') (h : BtR te tB ti tb TS TT bt bs c G X M) : BtR te tB ti tb TS TT bt bs c G' X M := by
  obtain ⟨Ms, h1, h2⟩ := h; exact ⟨Ms, h1, h2.mono hl⟩
section
variable {c : Cfg} {l l' : List Nd} {ss : List Seat} {o : Opr} {k : Int} {q : Str} {e : Int}
def isM (n : Nd) : Bool := decide ((0 : Int) < (n.msgs.length : Int))
def Xg (l : List Nd) : Bool := l.all fun n => !isM n
theorem ZqB (l : List Nd) : (!decide ((0 : Int) ≤ Yv isM l)) = Xg l := by
  rcases ZcO isM l with ⟨h, h2⟩ | ⟨k, hk, h, h2, _⟩
  · rw [h]
    have : Xg l = true := List.all_eq_true.2 fun x hx => by rw [h2 x hx]; rfl
    rw [this]; rfl
  · rw [h]
    have : Xg l = false := Bool.eq_false_iff.2 fun hq => by
      have := List.all_eq_true.1 hq l[k] (List.getElem_mem hk)
      rw [h2] at this; cases this
    rw [this]; simp
theorem ZqC {l : List Nd} (h : ∀ j (h : j < l.length), (l[j]).msgs.length = 0) : Xg l = true := List.all_eq_true.2 fun x hx => by
  obtain ⟨j, hj, rfl⟩ := List.getElem_of_mem hx
  unfold isM
  rw [h j hj]; rfl
def RoomP (c : Cfg) (l : List Nd) (q : Str) (e : Int) (l' : List Nd) : Prop :=
  ((Za l 0).level = 0 ∧ e = (ZS c l).1 ∧ l' = (ZS c l).2) ∨
  (¬ (Za l 0).level = 0 ∧ ∃ N r, Yq c q N l 0 0 = some r ∧ l' = r.2.2 ∧ e = (if 0 < r.1 then 0 else if r.2.1 = 0 then 4 else r.2.1))
theorem ZjB (h : (ZS c l).1 = 0) : l.length < (ZS c l).2.length := by
  unfold ZS at h ⊢
  split at h
  · cases h
  · rename_i h4
    rw [if_neg h4]
    split at h
    · cases h
    · rename_i h5
      rw [if_neg h5]
      unfold YV
      simp
theorem ZjC (t : Tree c l ss) (ho : o.R) (h4 : o.kind ≤ 4) (hg : Grown k l) (hf : ¬ (Zv c l o).2.1 = 0) (h : RoomP c l q e l') :
    (∃ T, Tree c l' T) ∧ Zh l' = Zh l ∧ Grown k l' ∧ (e = 0 → muL c l' < muL c l) ∧ (¬ e = 0 → e = 4 ∧ c.slots - (l'.length : Int) < 2) := by
  obtain ⟨_, hl, hi⟩ := Zqa t ho h4 hg hf
  rcases h with ⟨h0, rfl, rfl⟩ | ⟨h0, N, r, hr, rfl, rfl⟩
  · obtain ⟨T, hT, hm⟩ := Zka t
    refine ⟨⟨T, hT⟩, hm, hg.lift t, fun h1 => ZfI hT (ZjB h1), fun h1 => ?_⟩
    rcases Zjr t (Zjq (k := q) t (.inr ⟨h0, hl h0⟩)) with h2 | ⟨h2, h3⟩
    · exact absurd h2 h1
    · rw [h2]; exact ⟨rfl, h3⟩
  · have ha : (0 : Int) ≤ 0 ∧ (0 : Int) < l.length := ⟨Int.le_refl _, by have := t.pos; omega⟩
    obtain ⟨T, hT, hm⟩ := Zb0 N t ha hr
    have hmu := ZdB N t ha hr
    have her := ZcE N t ha hr
    refine ⟨⟨T, hT⟩, hm, hg.cyc t hr, fun h1 => ?_, fun h1 => ?_⟩
    · by_cases h2 : 0 < r.1
      · exact hmu.1 h2
      · rw [if_neg h2] at h1
        split at h1
        · cases h1
        · rename_i h3; exact absurd h1 h3
    · by_cases h2 : 0 < r.1
      · rw [if_pos h2] at h1; exact absurd rfl h1
      · rw [if_neg h2]
        rcases Zjm t (hi h0) hr with h3 | h3
        · exact absurd h3 h2
        · rw [if_neg (by omega)]
          rcases her with h5 | ⟨h5, h6⟩
          · omega
          · exact ⟨h5, h6⟩
structure WrP (c : Cfg) (k : Int) (o : Opr) (l : List Nd) (e : Int) (l' : List Nd) : Prop where
  t : ∃ T, Tree c l' T
  g : Grown (k + 1) l'
  r : (e = 0 ∧ Zh l' = takeN (Zh l) (o.msg 1)) ∨ (e = 4 ∧ Zh l' = Zh l ∧ c.slots - (l'.length : Int) < 2)
  x : (Zv c l o).2.1 = 0 → l' = (Zv c l o).2.2 ∧ e = 0
theorem Grown.up {k' : Int} (h : Grown k l) (hk : k ≤ k') : Grown k' l := ⟨h.all, by have := h.le; omega, h.pos⟩
theorem WrP.ok {l0 : List Nd} (t : Tree c l ss) (ho : o.R) (h4 : o.kind ≤ 4) (hg : Grown k l) (hk : k < 1099511627776) (hm : Zh l = Zh l0) (hx : l = l0 ∨ ¬ (Zv c l0 o).2.1 = 0) (h : (Zv c l o).2.1 = 0) : WrP c k o l0 0 (Zv c l o).2.2 := by
  obtain ⟨h1, h2, h3, _, _⟩ := Zp9 t ho h4 hg hk h
  exact ⟨h1, h3, .inl ⟨rfl, by rw [h2, hm]⟩, fun h0 => hx.elim (fun e => by subst e; exact ⟨rfl, rfl⟩) fun hn => absurd h0 hn⟩
theorem WrP.no {l0 : List Nd} (t : Tree c l ss) (ho : o.R) (h4 : o.kind ≤ 4) (hg : Grown k l) (hm : Zh l = Zh l0) (hx : l = l0 ∨ ¬ (Zv c l0 o).2.1 = 0) (hf : ¬ (Zv c l o).2.1 = 0) (h : RoomP c l q e l') (he : ¬ e = 0) : WrP c k o l0 e l' := by
  obtain ⟨h1, h2, h3, _, h5⟩ := ZjC t ho h4 hg hf h
  exact ⟨h1, h3.up (by omega), .inr ⟨(h5 he).1, by rw [h2, hm], (h5 he).2⟩, fun h0 => hx.elim (fun e => absurd (e ▸ h0) hf) fun hn => absurd h0 hn⟩
structure DoP (c : Cfg) (k : Int) (o : Opr) (l : List Nd) (a : Ans) (l' : List Nd) : Prop where
  t : ∃ T, Tree c l' T
  g : Grown (k + 1) l'
  r : (a = (doN (Zh l) o).2 ∧ Zh l' = (doN (Zh l) o).1) ∨ (a = ⟨4, false, Str.nil, []⟩ ∧ Zh l' = Zh l ∧ o.kind ≤ 4 ∧ (doN (Zh l) o).2.err = 0 ∧ c.slots - (l'.length : Int) < 2)
  x : o.R → o.kind ≤ 4 → (Zv c l o).2.1 = 0 → l' = (Zv c l o).2.2 ∧ a = ⟨0, false, Str.nil, []⟩
  z : 4 < o.kind → l' = l
theorem DoP.bad (t : Tree c l ss) (hg : Grown k l) (h : ¬ o.R) : DoP c k o l ⟨3, false, Str.nil, []⟩ l := ⟨⟨_, t⟩, hg.up (by omega), .inl (by rw [Zsi h]; exact ⟨rfl, rfl⟩), fun hR => absurd hR h, fun _ => rfl⟩
theorem DoP.get (t : Tree c l ss) (hg : Grown k l) (h : o.R) (h5 : o.kind = 5) : DoP c k o l ⟨0, (Zi (Zh l) o.key).isSome, (Zi (Zh l) o.key).getD Str.nil, []⟩ l := ⟨⟨_, t⟩, hg.up (by omega), .inl (by rw [Zsj h h5]; exact ⟨rfl, rfl⟩), fun _ h4 => absurd h4 (by omega), fun _ => rfl⟩
theorem DoP.scan (t : Tree c l ss) (hg : Grown k l) (h : o.R) (h6 : o.kind = 6) : DoP c k o l ⟨0, false, Str.nil, X1 (Zh l) o.span o.lim⟩ l := ⟨⟨_, t⟩, hg.up (by omega), .inl (by rw [Zsk h h6]; exact ⟨rfl, rfl⟩), fun _ h4 => absurd h4 (by omega), fun _ => rfl⟩
theorem DoP.wr {l' : List Nd} (h : o.R) (h5 : ¬ o.kind = 5) (h6 : ¬ o.kind = 6) (hw : WrP c k o l e l') : DoP c k o l ⟨e, false, Str.nil, []⟩ l' := by
  have h7 : o.kind ≤ 4 := by have h8 := h.1.1; have h9 := h.1.2.1; omega
  refine ⟨hw.t, hw.g, ?_, fun _ _ h0 => ⟨(hw.x h0).1, by rw [(hw.x h0).2]⟩, fun h8 => absurd h8 (by omega)⟩
  rw [Zsl h h5 h6]
  rcases hw.r with ⟨rfl, h1⟩ | ⟨rfl, h1, h2⟩
  · exact .inl ⟨rfl, h1⟩
  · exact .inr ⟨rfl, h1, h7, rfl, h2⟩
end
end Go.Fw
namespace Go.Proofs.YtbbemibbmbmamaaGreat
open Go Go.Fw Go.RowKit
attribute [local irreducible] Ok W WC
theorem ZqD {G : GH} (slo : Str) (shi : Str) (so : Bool) {v_ls : Value} {ls : List (List Msg)} (h_ls : SlR (eSl Zp) G v_ls ls) (ht : YI ls ≤ 100000000) (hln : ls.length ≤ 100000) (hks : ∀ i (h : i < ls.length), ∀ m ∈ ls[i], m.key.b.size < 140737488355328) :
    Fc Tryz.prog 144 [.agg #[sV slo.b, sV shi.b, .bool so], v_ls] G [] (fun v G' M' => M' = [] ∧ ∃ u0, v = u0 ∧ SlR Zp G' u0 (ZO (ls.map (Zc ⟨slo, shi, so⟩)))) := by
 obtain ⟨sa_ls, sc_ls, rfl⟩ := h_ls.form
 have hl := h_ls.len47
 have htm := Zld (f := (Zc ⟨slo, shi, so⟩)) (fun l => ZaA) ls
 refine Fc.go [.tmp 4] Tryz.func144 Tryz.ntmps144 rfl (fun w0 => (g9 2 ?_))
 refine W.box (L := [sV _, sV _, .bool _]) rfl rfl (fun b1 => (g9 17 ?_))
 refine WC.loop (X := (Nat) × Value × MH) (fun k => [(10, nt9 k.1), (2, pt9 b1), (8, lV sa_ls ls.length sc_ls), (9, nt9 ((ls).length)), (5, k.2.1)]) (fun k G Ml => Ml = ((b1, ce9 62 [sV slo.b, sV shi.b, .bool so]) :: (k.2.2 ++ [])) ∧ OwnR (eSl Zp) 58 G k.2.1 ((ls.take k.1).map (Zc ⟨slo, shi, so⟩)) k.2.2 ∧ k.1 ≤ ls.length) (fun k => ls.length - k.1) (0, lV none 0 0, ([] : MH)) hs9 ?_ ?_
 ·exact ⟨rfl, (by simpa using OwnR.nil), om9⟩
 rintro ⟨k, v_5, M_5⟩ gG2 G2 _ hG2 ⟨rfl, ho_5, hk⟩
 try dsimp only at ho_5 hk
 refine WC.fr (f := ZX gG2 [(10, nt9 k), (2, pt9 b1), (8, lV sa_ls ls.length sc_ls), (9, nt9 ((ls).length)), (5, v_5)]) rfl (g9 6 ?_)
 refine WC.cd (fun h11 p11 => ?_) (fun h11 p11 => ?_)
 ·refine g9 6 ?_
  have q6 := (h_ls.mono hG2).at (i := k) om9
  refine match q6 with | ⟨_, he3, ⟨_, e_5, hs4⟩⟩ => ?_
  subst e_5
  obtain ⟨sa_hs4, sc_hs4, rfl⟩ := hs4.form
  refine g9 9 ?_
  refine W.cS (Zdx hs4 slo shi so (hks k om9)) rfl (fun sa_hv8 sc_hv8 G7 hG7 hv8 => (W.lit (e := (eSl Zp)) (l := [Zc ⟨slo, shi, so⟩ (ls[k])]) (css := [[lV _ _ _]]) Za3 Za2 Zcv rfl rfl rfl rfl rfl rfl ⟨⟨_, rfl, hv8⟩, trivial⟩ (fun bl14 G14 hG14 hv14 => (W.app (e := (eSl Zp)) Za3 Za2 Zcv rfl Zh7 rfl rfl ((ho_5.mono lec)) (hv14) (pmC pr9) (by show (List.length _ + 1) * 24 ≤ _; rw [List.length_map, List.length_take]; omega) (fun v15 Ms16 ho17 => (W.perm (pmC pr9).symm (g9 9 ?_)))))))
  exact ⟨lec, (k + 1, v15, Ms16), hs9, ⟨rfl, (by have h := ho17; rw [List.take_succ_eq_append_getElem om9, List.map_append]; exact h), om9⟩, om9⟩
 refine g9 8 ?_
 refine W.giveO ho_5 (pmC pr9) (fun G18 hG18 hv18 => ?_)
 have hc19 := SlR.cast hv18 (l' := ls.map (Zc ⟨slo, shi, so⟩)) (by rw [List.take_of_length_le om9])
 have q21 := hc19.form
 refine match q21 with | ⟨_, _, e_20⟩ => ?_
 subst e_20
 refine W.cS (Zp1 hc19 om9 (by rw [List.length_map]; omega)) rfl (fun sa_hv23 sc_hv23 G22 hG22 hv23 => (g9 5 ?_))
 refine ⟨rfl, _, rfl, ?_⟩
 · exact hv23

theorem ZfO {G : GH} {b_s : Nat} {c c2 : Cfg} {l : List Nd} {ss : List Seat} {Ms_s : MH} (h_s : StR 60 4 3 189 139 b_s c G l Ms_s) (t : Tree c2 l ss) (k : Str) :
    Fc Tryz.prog 96 [pt9 b_s, sV k.b] G Ms_s (fun v G' M' => M' = Ms_s ∧ ∃ u0, v = .tuple #[.agg (List.toArray u0), .agg (List.toArray ((Zn l k).s.cells)), .bool (true)] ∧ NodeC G' u0 ((Zn l k).n)) := by
 have hwp := t.way_pos k
 have hwl := t.way_len k
 have hwn : ((ZC l k).map fun y : Seat => y.n).length = (ZC l k).length := List.length_map ..
 have hws : ((ZC l k).map fun y : Seat => y.s).length = (ZC l k).length := List.length_map ..
 refine Fc.go [.cell 4 60, .cell 5 62, .tmp 6] Tryz.func96 Tryz.ntmps96 rfl (fun w0 => (WC.perm (M' := (Ms_s ++ [])) (by simp) (g9 2 ?_)))
 refine W.alloc Zo (fun b24 => (W.alloc Zy (fun b25 => (g9 7 ?_))))
 refine W.call (Mp := Ms_s) (Zkn h_s t _) rfl (pmC (pmC pr9)) ?_
 intro v31 G28 Ms30 hG28 q29
 refine match q29 with | ⟨eeq29, _, _, e_33, hv26, hv27⟩ => ?_
 subst e_33
 have eeq29 := eeq29.symm
 subst eeq29
 refine W.perm (pmC (pmC pr9)).symm ?_
 have q35 := hv26.form
 refine match q35 with | ⟨sa_hv26, sc_hv26, e_34⟩ => ?_
 subst e_34
 have q37 := hv27.form
 refine match q37 with | ⟨sa_hv27, sc_hv27, e_36⟩ => ?_
 subst e_36
 refine g9 15 ?_
 refine WC.cd (fun h17 p17 => ?_) (fun h17 p17 => ?_)
 ·exfalso; omega
 refine g9 3 ?_
 refine WC.dw ((sr9.cons _).cons _) (d9 [0, 1, 2, 3] ?_)
 refine hv26.aN (i := ((ZC l k).length - 1)) om9 (fun _ _ _ _ _ _ _ _ he38 hp_n39 hk_n39 hm_n39 hr_n39 hok_n39 => (WD.tk 4 rfl (Z1 (i := ((ZC l k).length - 1)) Xm Yn hv26 rfl rfl ⟨om9, om9⟩) (d9 [5, 6, 7, 8, 9] ?_)))
 refine hv27.a1 (i := ((ZC l k).length - 1)) om9 (fun he42 => (WD.tk 10 rfl (Z1 (i := ((ZC l k).length - 1)) XR Yo hv27 rfl rfl ⟨om9, om9⟩) (d9 [11, 12, 13, 14] ?_)))
 refine g9 3 ?_
 refine ⟨.inr rfl, [_, _, _], ⟨⟨_, _, _, _, _, rfl, YE (i := 1) rfl, Yn, (by simp), rfl, rfl⟩, ⟨_, _, _, _, _, rfl, YE (i := 0) rfl, Yo, (by simp), rfl, rfl⟩, rfl, trivial⟩, Ms_s, ((List.sublist_append_left _ _).cons _).cons _, ?_⟩
 exact ⟨rfl, _, congrArg (fun s : Span => Value.tuple #[.agg (List.toArray _), .agg (List.toArray s.cells), .bool true]) (t.last_s k om9 om9), NodeC.of (nk9 hp_n39 hk_n39 hm_n39 hr_n39 hok_n39) (t.last_n k om9 om9)⟩

theorem ZjD {G : GH} {b_s : Nat} {c c2 : Cfg} {l : List Nd} {ss : List Seat} {Ms_s : MH} (h_s : StR 60 4 3 189 139 b_s c G l Ms_s) (t : Tree c2 l ss) (k : Str) :
    Fc Tryz.prog 98 [pt9 b_s, sV k.b] G Ms_s (fun v G' M' => M' = Ms_s ∧ ∃ u0, v = u0 ∧ SlR Zp G' u0 ((Zn l k).ms)) := by
 have hwp := t.way_pos k
 have hwl := t.way_len k
 have hwn : ((ZC l k).map fun y : Seat => y.n).length = (ZC l k).length := List.length_map ..
 have hws : ((ZC l k).map fun y : Seat => y.s).length = (ZC l k).length := List.length_map ..
 have hmt := t.path_tot k
 refine Fc.go [.tmp 4] Tryz.func98 Tryz.ntmps98 rfl (fun w0 => (WC.perm (M' := (Ms_s ++ [])) (by simp) (g9 9 ?_)))
 refine W.call (Mp := Ms_s) (Zkn h_s t _) rfl pr9 ?_
 intro v51 G48 Ms50 hG48 q49
 refine match q49 with | ⟨eeq49, _, _, e_53, hv46, hv47⟩ => ?_
 subst e_53
 have eeq49 := eeq49.symm
 subst eeq49
 have q55 := hv46.form
 refine match q55 with | ⟨sa_hv46, sc_hv46, e_54⟩ => ?_
 subst e_54
 have q57 := hv47.form
 refine match q57 with | ⟨sa_hv47, sc_hv47, e_56⟩ => ?_
 subst e_56
 refine g9 21 ?_
 refine WC.loop (X := (Nat) × Value × MH) (fun i => [(18, nt9 i.1), (5, lV sa_hv46 (((ZC (l) (k)).map fun y : Seat => y.n)).length sc_hv46), (6, lV sa_hv47 (((ZC (l) (k)).map fun y : Seat => y.s)).length sc_hv47), (16, lV sa_hv46 (((ZC (l) (k)).map fun y : Seat => y.n)).length sc_hv46), (17, nt9 ((((ZC (l) (k)).map fun y : Seat => y.n)).length)), (7, i.2.1)]) (fun i G Ml => Ml = (i.2.2 ++ (Ms_s ++ [])) ∧ OwnR (eSl Zp) 58 G i.2.1 ((((ZC l k).map fun y : Seat => y.n).map fun n : Nd => n.msgs).take i.1) i.2.2 ∧ i.1 ≤ (ZC l k).length) (fun i => (ZC l k).length - i.1) (0, lV none 0 0, ([] : MH)) hs9 ?_ ?_
 ·exact ⟨rfl, (by simpa using OwnR.nil), om9⟩
 rintro ⟨i, v_7, M_7⟩ gG58 G58 _ hG58 ⟨rfl, ho_7, hi⟩
 try dsimp only at ho_7 hi
 refine WC.fr (f := ZX gG58 [(18, nt9 i), (5, lV sa_hv46 (((ZC (l) (k)).map fun y : Seat => y.n)).length sc_hv46), (6, lV sa_hv47 (((ZC (l) (k)).map fun y : Seat => y.s)).length sc_hv47), (16, lV sa_hv46 (((ZC (l) (k)).map fun y : Seat => y.n)).length sc_hv46), (17, nt9 ((((ZC (l) (k)).map fun y : Seat => y.n)).length)), (7, v_7)]) rfl (g9 6 ?_)
 refine WC.cd (fun h19 p19 => ?_) (fun h19 p19 => ?_)
 ·refine g9 6 ?_
  refine (hv46.mono hG58).aN (i := i) om9 (fun _ _ _ _ _ _ _ _ he59 hp_n60 hk_n60 hm_n60 hr_n60 hok_n60 => (g9 2 ?_))
  refine W.alloc Zo (fun b63 => (g9 7 ?_))
  refine W.lit (e := (eSl Zp)) (l := [((((ZC (l) (k)).map fun y : Seat => y.n))[i]).msgs]) (css := [[lV _ _ _]]) Za3 Za2 Zcv rfl rfl rfl rfl rfl rfl ⟨⟨_, rfl, hm_n60⟩, trivial⟩ (fun bl64 G64 hG64 hv64 => (W.app (e := (eSl Zp)) Za3 Za2 Zcv rfl Zh7 rfl rfl ((ho_7.mono hG64)) (hv64) (pmC pr9) (by show (List.length _ + 1) * 24 ≤ _; rw [List.length_take, List.length_map, List.length_map]; omega) (fun v65 Ms66 ho67 => (W.perm (pmC pr9).symm (g9 7 ?_)))))
  refine W.sub (sr9.cons _) (g9 2 ?_)
  exact ⟨hG64, (i + 1, v65, Ms66), hs9, ⟨rfl, (by have h := ho67; rw [List.take_succ_eq_append_getElem (by simp; omega), List.getElem_map]; exact h), om9⟩, om9⟩
 refine g9 13 ?_
 refine WC.cd (fun h30 p30 => ?_) (fun h30 p30 => ?_)
 ·exfalso; omega
 refine g9 8 ?_
 refine (hv47.mono hG58).a1 (i := ((ZC l k).length - 1)) om9 (fun he68 => (W.ok (Z1 (i := ((ZC l k).length - 1)) XR Yo (hv47.mono hG58) rfl rfl ⟨om9, om9⟩) (g9 2 ?_)))
 refine W.giveO ho_7 pr9 (fun G72 hG72 hv72 => ?_)
 have hc73 := SlR.cast hv72 (l' := (((ZC l k).map fun y : Seat => y.n).map fun n : Nd => n.msgs)) (by rw [List.take_of_length_le (by simp; omega)])
 have q75 := hc73.form
 refine match q75 with | ⟨_, _, e_74⟩ => ?_
 subst e_74
 refine W.cS (ZqD _ _ _ hc73 om9 (by rw [List.length_map, List.length_map]; omega) (t.path_key k)) rfl (fun sa_hv77 sc_hv77 G76 hG76 hv77 => (g9 4 ?_))
 refine ⟨.inr rfl, [_], ⟨rfl, trivial⟩, Ms_s, List.sublist_append_left _ _, ?_⟩
 refine ⟨rfl, _, rfl, ?_⟩
 · exact SlR.cast hv77 (t.path_msgs k (t.last_s k om9 om9))

theorem ZqE {G : GH} {v_l : Value} {l : List Pair} (h_l : SlR Zs G v_l l) (slo : Str) (shi : Str) (so : Bool) {v_ms : Value} {ms : List Msg} (h_ms : SlR Zp G v_ms ms) (hP : PairsR l) (hn : l.length + ms.length ≤ 1000000) (hm : ∀ m ∈ ms, m.key.b.size ≤ 16 ∧ m.val.b.size ≤ 16) (hs : slo.b.size ≤ 300) :
    Fc Tryz.prog 145 [v_l, .agg #[sV slo.b, sV shi.b, .bool so], v_ms] G [] (fun v G' M' => M' = [] ∧ ∃ u0, v = u0 ∧ SlR Zs G' u0 (Zu (l.filter fun p => Span.has ⟨slo, shi, so⟩ p.key) (Zc ⟨slo, shi, so⟩ ms))) := by
 obtain ⟨sa_l, sc_l, rfl⟩ := h_l.form
 obtain ⟨sa_ms, sc_ms, rfl⟩ := h_ms.form
 have hPf : PairsR (l.filter fun p => Span.has ⟨slo, shi, so⟩ p.key) := hP.filter _
 have hcm := ZkS (s := ⟨slo, shi, so⟩) hs hm
 have hcl : (Zc ⟨slo, shi, so⟩ ms).length ≤ ms.length := ZaA
 have hfl := List.length_filter_le (fun p : Pair => Span.has ⟨slo, shi, so⟩ p.key) l
 have hks : ∀ m ∈ ms, m.key.b.size < 140737488355328 := fun m h => by have := (hm m h).1; omega
 refine Fc.go [.tmp 6] Tryz.func145 Tryz.ntmps145 rfl (fun w0 => (g9 2 ?_))
 refine W.box (L := [sV _, sV _, .bool _]) rfl rfl (fun b1 => (g9 4 ?_))
 refine WC.dw sr9.k9 (d9 [0, 1, 3, 4] ?_)
 refine WD.a1 2 rfl (W.cS (Zsw h_l _ _ _ (by first | assumption | omega | (simp; omega) | (exact PairsR.fold (by assumption) (by assumption)))) rfl (fun sa_hv3 sc_hv3 G2 hG2 hv3 => (W.nn (WD.a1 5 rfl (W.cS (Zdx (h_ms.mono hG2) slo shi so hks) rfl (fun sa_hv10 sc_hv10 G9 hG9 hv10 => (W.nn (WD.a1 6 rfl (W.cS (ZsM (hv3.mono hG9) hv10 hPf om9 hcm) rfl (fun sa_hv17 sc_hv17 G16 hG16 hv17 => (W.nn (d9 [7] ?_))))))))))))
 refine g9 4 ?_
 refine ⟨rfl, _, rfl, ?_⟩
 · exact hv17

theorem ZjE {G : GH} {b_s : Nat} {c c2 : Cfg} {l : List Nd} {ss : List Seat} {Ms_s : MH} (h_s : StR 60 4 3 189 139 b_s c G l Ms_s) (t : Tree c2 l ss) (k : Str) :
    Fc Tryz.prog 50 [pt9 b_s, sV k.b] G Ms_s (fun v G' M' => M' = Ms_s ∧ v = sV (Str.b ((if (Zn l k).s.opn = true then Str.nil else (Zn l k).s.hi)))) := by
 refine Fc.go [.tmp 4] Tryz.func50 Tryz.ntmps50 rfl (fun w0 => (WC.perm (M' := (Ms_s ++ [])) (by simp) (g9 9 ?_)))
 refine W.call (Mp := Ms_s) (ZfO h_s t _) rfl pr9 ?_
 intro v13 G10 Ms12 hG10 q11
 refine match q11 with | ⟨eeq11, _, e_15, hv9⟩ => ?_
 subst e_15
 have eeq11 := eeq11.symm
 subst eeq11
 refine match hv9 with | ⟨_, _, _, _, _, _, _, _, e_16, hp_hv9, hk_hv9, hm_hv9, hr_hv9, hok_hv9⟩ => ?_
 subst e_16
 refine g9 4 ?_
 refine W.alloc Zo (fun b17 => (W.alloc Zy (fun b18 => (g9 12 ?_))))
 refine WC.cond rfl (fun h11_1_2 => ?_) (fun h11_1_2 => ?_)
 ·refine g9 7 ?_
  refine ⟨.inr rfl, [_], ⟨rfl, trivial⟩, Ms_s, ((List.sublist_append_left _ _).cons _).cons _, ?_⟩
  exact ⟨rfl, congrArg (fun s : Str => Value.string s.b) (if_pos h11_1_2 : (if (Zn l k).s.opn = true then Str.nil else (Zn l k).s.hi) = Str.nil).symm⟩
 refine g9 10 ?_
 refine ⟨.inr rfl, [_], ⟨rfl, trivial⟩, Ms_s, ((List.sublist_append_left _ _).cons _).cons _, ?_⟩
 exact ⟨rfl, congrArg (fun s : Str => Value.string s.b) (if_neg (by rw [h11_1_2]; simp) : (if (Zn l k).s.opn = true then Str.nil else (Zn l k).s.hi) = (Zn l k).s.hi).symm⟩

theorem ZqF {G : GH} {b_t : Nat} {b_s : Nat} {c : Cfg} {l : List Nd} {ss : List Seat} {Ms_s : MH} (h_s : StR 60 4 3 189 139 b_s c G l Ms_s) (t : Tree c l ss) {cur : Str} :
    Fc Tryz.prog 19 [pt9 b_t] G ((b_t, ce9 79 [pt9 b_s, sV cur.b]) :: (Ms_s)) (fun v G' M' => SlR ZA G' v l ∧ M' = (b_t, ce9 79 [pt9 b_s, sV cur.b]) :: Ms_s) := by
 refine Fc.go [.tmp 2] Tryz.func19 Tryz.ntmps19 rfl (fun w0 => (WC.perm (M' := ((b_t, ce9 79 [pt9 b_s, sV cur.b]) :: (Ms_s ++ []))) (by simp) (g9 9 ?_)))
 refine W.ok (Xa Za1 rfl rfl) (g9 11 ?_)
 refine W.call (Mp := Ms_s) (ZpV h_s) rfl (pmC pr9) ?_
 intro v4 G1 Ms3 hG1 q2
 refine match q2 with | ⟨hR5, eeq2⟩ => ?_
 have eeq2 := eeq2.symm
 subst eeq2
 refine W.perm (pmC pr9).symm (g9 4 ?_)
 refine ⟨.inr rfl, [_], ⟨rfl, trivial⟩, ((b_t, ce9 79 [pt9 b_s, sV cur.b]) :: (Ms_s ++ [])), sr9.k9, ?_⟩
 exact ⟨hR5, congrArg _ (List.append_nil _)⟩

theorem ZqG {G : GH} {b_t : Nat} {b_s : Nat} {c : Cfg} {l : List Nd} {ss : List Seat} {Ms_s : MH} (h_s : StR 60 4 3 189 139 b_s c G l Ms_s) (t : Tree c l ss) {cur : Str} :
    Fc Tryz.prog 22 [pt9 b_t] G ((b_t, ce9 79 [pt9 b_s, sV cur.b]) :: (Ms_s)) (fun v G' M' => v = iV (l.length : Int) ∧ M' = (b_t, ce9 79 [pt9 b_s, sV cur.b]) :: Ms_s) := by
 refine Fc.go [.tmp 2] Tryz.func22 Tryz.ntmps22 rfl (fun w0 => (WC.perm (M' := ((b_t, ce9 79 [pt9 b_s, sV cur.b]) :: (Ms_s ++ []))) (by simp) (g9 9 ?_)))
 refine W.ok (Xa Za1 rfl rfl) (g9 11 ?_)
 refine W.call (Mp := Ms_s) (ZpW h_s) rfl (pmC pr9) ?_
 intro v9 G6 Ms8 hG6 q7
 refine match q7 with | ⟨e_11, eeq7⟩ => ?_
 subst e_11
 have eeq7 := eeq7.symm
 subst eeq7
 refine W.perm (pmC pr9).symm (g9 4 ?_)
 refine ⟨.inr rfl, [_], ⟨rfl, trivial⟩, ((b_t, ce9 79 [pt9 b_s, sV cur.b]) :: (Ms_s ++ [])), sr9.k9, ?_⟩
 exact ⟨rfl, congrArg _ (List.append_nil _)⟩

theorem ZqH {G : GH} {b_t b_s : Nat} {c : Cfg} {l : List Nd} {ss : List Seat} {cur : Str} {Ms_t : MH} (h_t : BtR 60 4 3 189 139 79 b_t b_s c G (l, cur) Ms_t) (t : Tree c l ss) (k : Str) :
    Fc Tryz.prog 105 [pt9 b_t, sV k.b] G Ms_t (fun v G' M' => ∃ e l', RoomP c l k e l' ∧ v = iV e ∧ BtR 60 4 3 189 139 79 b_t b_s c G' (l', cur) M') := by
 have hp9 := t.pos
 obtain ⟨N9, r9, hN9, hr9⟩ := ZfF t k
 refine Fc.go [.tmp 4] Tryz.func105 Tryz.ntmps105 rfl (fun w0 => (WC.perm (M' := (Ms_t ++ [])) (by simp) (g9 7 ?_)))
 obtain ⟨Msbt1, eMbt1, hBbt1⟩ := h_t
 subst eMbt1
 have hSbt1 : StR 60 4 3 189 139 b_s c G l Msbt1 := hBbt1
 refine WC.perm (M' := ((b_t, ce9 79 [pt9 b_s, sV cur.b]) :: (Msbt1 ++ []))) pr9.symm (g9 5 ?_)
 refine W.call (Mp := Msbt1) (Zai hSbt1 0) rfl (pmC pr9) ?_
 intro v5 G2 Ms4 hG2 q3
 refine match q3 with | ⟨⟨_, e_7, ⟨pa_hR6, pc_hR6, ka_hR6, kc_hR6, ma_hR6, mc_hR6, ra_hR6, rc_hR6, e_8, hp_hR6, hk_hR6, hm_hR6, hr_hR6, hok_hR6⟩⟩, eeq3⟩ => ?_
 subst e_7
 subst e_8
 have eeq3 := eeq3.symm
 subst eeq3
 refine W.perm (pmC pr9).symm (g9 3 ?_)
 refine W.alloc Zo (fun b9 => (g9 11 ?_))
 refine WC.cd (fun h19 p19 => ?_) (fun h19 p19 => ?_)
 ·try dsimp only at p19
  refine g9 6 ?_
  refine W.call (Mp := Msbt1) (Zkp (StR.mono hG2 hSbt1) t) rfl (pmC (pmC pr9)) ?_
  intro v13 G10 Ms12 hG10 q11
  refine match q11 with | ⟨e_15, hR14⟩ => ?_
  subst e_15
  refine W.perm (pmC (pmC pr9)).symm (g9 3 ?_)
  have hB16 : BtR 60 4 3 189 139 79 b_t b_s c G10 ((ZS c l).2, cur) ((b_t, ce9 79 [pt9 b_s, sV cur.b]) :: Ms12) := ⟨_, rfl, hR14⟩
  refine WC.perm (M' := ((b9, ce9 60 (ndl (Za l 0) pa_hR6 pc_hR6 ka_hR6 kc_hR6 ma_hR6 mc_hR6 ra_hR6 rc_hR6)) :: (((b_t, ce9 79 [pt9 b_s, sV cur.b]) :: Ms12) ++ []))) ((pmC pr9).symm.trans (((pmC pr9).cons _).trans ((List.Perm.swap _ _ _).trans (pr9.cons _)))) (g9 2 ?_)
  refine ⟨.inr rfl, [_], ⟨rfl, trivial⟩, ((b_t, ce9 79 [pt9 b_s, sV cur.b]) :: Ms12), (List.sublist_append_left _ _).cons _, ?_⟩
  exact ⟨_, _, .inl ⟨p19, rfl, rfl⟩, rfl, hB16⟩
 try dsimp only at p19
 refine g9 10 ?_
 refine W.call (Mp := Msbt1) (Zkt (StR.mono hG2 hSbt1) t k rfl N9 r9 hr9 om9) rfl (pmC (pmC pr9)) ?_
 intro v20 G17 Ms19 hG17 q18
 refine match q18 with | ⟨e_22, hR21⟩ => ?_
 subst e_22
 refine W.perm (pmC (pmC pr9)).symm (g9 15 ?_)
 refine WC.cd (fun h36 p36 => ?_) (fun h36 p36 => ?_)
 ·try dsimp only at p36
  refine g9 5 ?_
  have hB23 : BtR 60 4 3 189 139 79 b_t b_s c G17 (r9.2.2, cur) ((b_t, ce9 79 [pt9 b_s, sV cur.b]) :: Ms19) := ⟨_, rfl, hR21⟩
  refine WC.perm (M' := ((b9, ce9 60 (ndl (Za l 0) pa_hR6 pc_hR6 ka_hR6 kc_hR6 ma_hR6 mc_hR6 ra_hR6 rc_hR6)) :: (((b_t, ce9 79 [pt9 b_s, sV cur.b]) :: Ms19) ++ []))) ((pmC pr9).symm.trans (((pmC pr9).cons _).trans ((List.Perm.swap _ _ _).trans (pr9.cons _)))) (g9 3 ?_)
  refine ⟨.inr rfl, [_], ⟨rfl, trivial⟩, ((b_t, ce9 79 [pt9 b_s, sV cur.b]) :: Ms19), (List.sublist_append_left _ _).cons _, ?_⟩
  exact ⟨_, _, .inr ⟨p19, N9, r9, hr9, rfl, (if_pos p36).symm⟩, rfl, hB23⟩
 try dsimp only at p36
 refine g9 7 ?_
 refine WC.cn (fun h39 p39 => ?_) (fun h39 p39 => ?_)
 ·try dsimp only at p39
  refine g9 6 ?_
  have hB24 : BtR 60 4 3 189 139 79 b_t b_s c G17 (r9.2.2, cur) ((b_t, ce9 79 [pt9 b_s, sV cur.b]) :: Ms19) := ⟨_, rfl, hR21⟩
  refine WC.perm (M' := ((b9, ce9 60 (ndl (Za l 0) pa_hR6 pc_hR6 ka_hR6 kc_hR6 ma_hR6 mc_hR6 ra_hR6 rc_hR6)) :: (((b_t, ce9 79 [pt9 b_s, sV cur.b]) :: Ms19) ++ []))) ((pmC pr9).symm.trans (((pmC pr9).cons _).trans ((List.Perm.swap _ _ _).trans (pr9.cons _)))) (g9 3 ?_)
  refine ⟨.inr rfl, [_], ⟨rfl, trivial⟩, ((b_t, ce9 79 [pt9 b_s, sV cur.b]) :: Ms19), (List.sublist_append_left _ _).cons _, ?_⟩
  exact ⟨_, _, .inr ⟨p19, N9, r9, hr9, rfl, by rw [if_neg p36, if_neg p39]⟩, rfl, hB24⟩
 try dsimp only at p39
 refine g9 8 ?_
 have hB25 : BtR 60 4 3 189 139 79 b_t b_s c G17 (r9.2.2, cur) ((b_t, ce9 79 [pt9 b_s, sV cur.b]) :: Ms19) := ⟨_, rfl, hR21⟩
 refine WC.perm (M' := ((b9, ce9 60 (ndl (Za l 0) pa_hR6 pc_hR6 ka_hR6 kc_hR6 ma_hR6 mc_hR6 ra_hR6 rc_hR6)) :: (((b_t, ce9 79 [pt9 b_s, sV cur.b]) :: Ms19) ++ []))) ((pmC pr9).symm.trans (((pmC pr9).cons _).trans ((List.Perm.swap _ _ _).trans (pr9.cons _)))) (WC.ret ?_)
 refine ⟨.inr rfl, [_], ⟨rfl, trivial⟩, ((b_t, ce9 79 [pt9 b_s, sV cur.b]) :: Ms19), (List.sublist_append_left _ _).cons _, ?_⟩
 exact ⟨_, _, .inr ⟨p19, N9, r9, hr9, rfl, by rw [if_neg p36, if_pos om9]⟩, rfl, hB25⟩

theorem ZqI {G : GH} {b_t b_s : Nat} {c : Cfg} {l : List Nd} {ss : List Seat} {cur : Str} {Ms_t : MH} (h_t : BtR 60 4 3 189 139 79 b_t b_s c G (l, cur) Ms_t) (t : Tree c l ss) (pk : Int) (pkey : Str) (phi : Str) (po : Bool) (pv : Str) (pl : Int) (k : Int) (hR : Opr.R (⟨pk, pkey, phi, po, pv, pl⟩ : Opr)) (hk4 : pk ≤ 4) (hgr : Grown k l) (hk9 : k ≤ 1000000000) :
    Fc Tryz.prog 48 [pt9 b_t, .agg #[iV pk, sV pkey.b, sV phi.b, .bool po, sV pv.b, iV pl]] G Ms_t (fun v G' M' => ∃ e l', WrP c k (⟨pk, pkey, phi, po, pv, pl⟩ : Opr) l e l' ∧ v = iV e ∧ BtR 60 4 3 189 139 79 b_t b_s c G' (l', cur) M') := by
 refine Fc.go [.tmp 4] Tryz.func48 Tryz.ntmps48 rfl (fun w0 => (WC.perm (M' := (Ms_t ++ [])) (by simp) (g9 2 ?_)))
 refine W.box (L := [iV _, sV _, sV _, .bool _, sV _, iV _]) rfl rfl (fun b26 => (g9 4 ?_))
 refine WC.loop (X := (List Nd) × MH) (fun x => [(3, pt9 b26), (0, pt9 b_t)]) (fun x G Ml => Ml = ((b26, ce9 34 [iV pk, sV pkey.b, sV phi.b, .bool po, sV pv.b, iV pl]) :: (x.2 ++ [])) ∧ BtR 60 4 3 189 139 79 b_t b_s c G ((x.1, cur)) x.2 ∧ (∃ T, Tree c x.1 T) ∧ Zh x.1 = Zh l ∧ Grown k x.1 ∧ (x.1 = l ∨ ¬ (Zv c l (⟨pk, pkey, phi, po, pv, pl⟩ : Opr)).2.1 = 0)) (fun x => muL c x.1) (l, Ms_t) hs9 ?_ ?_
 ·exact ⟨rfl, (by exact h_t), ⟨ss, t⟩, rfl, hgr, .inl rfl⟩
 rintro ⟨L, M_0⟩ gG27 G27 _ hG27 ⟨rfl, ho_0, hTr, hmp, hg, hx9⟩
 try dsimp only at ho_0 hTr hmp hg hx9
 obtain ⟨T8, t9⟩ := hTr
 have hsn9 : 0 ≤ (Za L 0).seen ∧ (Za L 0).seen ≤ 1000000000000 := ⟨hg.pos, by have := hg.le; omega⟩
 refine WC.fr (f := ZX gG27 [(3, pt9 b26), (0, pt9 b_t)]) rfl (g9 2 ?_)
 obtain ⟨Msbt28, eMbt28, hBbt28⟩ := ho_0
 subst eMbt28
 have hSbt28 : StR 60 4 3 189 139 b_s c G27 L Msbt28 := hBbt28
 refine WC.perm (M' := ((b_t, ce9 79 [pt9 b_s, sV cur.b]) :: ((b26, ce9 34 [iV pk, sV pkey.b, sV phi.b, .bool po, sV pv.b, iV pl]) :: (Msbt28 ++ [])))) (pmD pr9).symm (WC.dw (sn9.k9.k9) (d9 [0, 1, 2, 3, 4] ?_))
 refine WD.a1 5 rfl (W.call (Mp := Msbt28) (ZqA hSbt28 t9 pk pkey phi po pv pl rfl hR hk4 hsn9) rfl (pmC (pmC pr9)) ?_)
 intro v32 G29 Ms31 hG29 q30
 refine match q30 with | ⟨e_34, hR33⟩ => ?_
 subst e_34
 refine W.perm (pmC (pmC pr9)).symm (W.nn (d9 [6, 7, 8, 9, 10] ?_))
 refine g9 9 ?_
 refine WC.cn (fun h17 p17 => ?_) (fun h17 p17 => ?_)
 ·try dsimp only at p17
  refine g9 6 ?_
  have hB35 : BtR 60 4 3 189 139 79 b_t b_s c G29 ((Zv c L (⟨pk, pkey, phi, po, pv, pl⟩ : Opr)).2.2, cur) ((b_t, ce9 79 [pt9 b_s, sV cur.b]) :: Ms31) := ⟨_, rfl, hR33⟩
  refine WC.perm (M' := ((b26, ce9 34 [iV pk, sV pkey.b, sV phi.b, .bool po, sV pv.b, iV pl]) :: (((b_t, ce9 79 [pt9 b_s, sV cur.b]) :: Ms31) ++ []))) ((pmC pr9).symm.trans (((pmC pr9).cons _).trans pr9)) (g9 5 ?_)
  refine ⟨.inr rfl, [_], ⟨rfl, trivial⟩, ((b_t, ce9 79 [pt9 b_s, sV cur.b]) :: Ms31), (List.sublist_append_left _ _).cons _, ?_⟩
  have hE : (Zv c L (⟨pk, pkey, phi, po, pv, pl⟩ : Opr)).2.1 = 0 := by
    by_cases h : (Zv c L (⟨pk, pkey, phi, po, pv, pl⟩ : Opr)).2.1 = 0
    · exact h
    exact absurd (by rw [ZfE h]) p17
  exact ⟨(Zv c L (⟨pk, pkey, phi, po, pv, pl⟩ : Opr)).2.1, (Zv c L (⟨pk, pkey, phi, po, pv, pl⟩ : Opr)).2.2, by rw [hE]; exact WrP.ok t9 hR hk4 hg om9 hmp hx9 hE, rfl, hB35⟩
 try dsimp only at p17
 refine g9 3 ?_
 have hf9 : ¬ (Zv c L (⟨pk, pkey, phi, po, pv, pl⟩ : Opr)).2.1 = 0 := by rw [p17]; decide
 have hS36 := StR.to hR33 (show (Zv c L (⟨pk, pkey, phi, po, pv, pl⟩ : Opr)).2.2 = L by rw [ZfE hf9])
 have hB37 : BtR 60 4 3 189 139 79 b_t b_s c G29 (L, cur) ((b_t, ce9 79 [pt9 b_s, sV cur.b]) :: Ms31) := ⟨_, rfl, hS36⟩
 refine WC.perm (M' := ((b26, ce9 34 [iV pk, sV pkey.b, sV phi.b, .bool po, sV pv.b, iV pl]) :: (((b_t, ce9 79 [pt9 b_s, sV cur.b]) :: Ms31) ++ []))) ((pmC pr9).symm.trans (((pmC pr9).cons _).trans pr9)) (g9 4 ?_)
 refine W.call (Mp := ((b_t, ce9 79 [pt9 b_s, sV cur.b]) :: Ms31)) (ZqH hB37 t9 pkey) rfl (pmC pr9) ?_
 intro v44 G41 Ms43 hG41 q42
 refine match q42 with | ⟨e38, l39, hRm40, e_46, hR45⟩ => ?_
 subst e_46
 refine W.perm (pmC pr9).symm ?_
 have hra9 := ZjC t9 hR hk4 hg hf9 hRm40
 refine g9 9 ?_
 refine WC.cn (fun h24 p24 => ?_) (fun h24 p24 => ?_)
 ·try dsimp only at p24
  refine g9 10 ?_
  refine ⟨.inr rfl, [_], ⟨rfl, trivial⟩, Ms43, (List.sublist_append_left _ _).cons _, ?_⟩
  exact ⟨e38, l39, WrP.no t9 hR hk4 hg hmp hx9 hf9 hRm40 p24, rfl, hR45⟩
 try dsimp only at p24
 refine g9 3 ?_
 exact ⟨lec, (l39, Ms43), hs9, ⟨rfl, (by exact hR45), hra9.1, hra9.2.1.trans hmp, hra9.2.2.1, .inr (hx9.elim (fun e => e ▸ hf9) id)⟩, hra9.2.2.2.1 p24⟩

theorem ZqJ {G : GH} {b_s : Nat} {c c2 : Cfg} {l : List Nd} {ss : List Seat} {Ms_s : MH} (h_s : StR 60 4 3 189 139 b_s c G l Ms_s) (t : Tree c2 l ss) (k : Str) :
    Fc Tryz.prog 45 [pt9 b_s, sV k.b] G Ms_s (fun v G' M' => M' = Ms_s ∧ v = .tuple #[sV (Str.b (((Zi (Zh l) k)).getD Str.nil)), .bool (((Zi (Zh l) k)).isSome)]) := by
 have hlo := t.leafOk k
 have hft := t.fits _ hlo.mem
 have hfm : ∀ m ∈ (Zn l k).ms, m.key.b.size < 140737488355328 ∧ m.val.b.size ≤ 16 := fun m hm => ⟨by have := (Y5 (hft.2 m hm)).1; omega, (Y5 (hft.2 m hm)).2⟩
 refine Fc.go [.tmp 4, .tmp 5] Tryz.func45 Tryz.ntmps45 rfl (fun w0 => (WC.perm (M' := (Ms_s ++ [])) (by simp) (g9 10 ?_)))
 refine W.call (Mp := Ms_s) (ZfO h_s t _) rfl pr9 ?_
 intro v13 G10 Ms12 hG10 q11
 refine match q11 with | ⟨eeq11, _, e_15, hv9⟩ => ?_
 subst e_15
 have eeq11 := eeq11.symm
 subst eeq11
 refine match hv9 with | ⟨_, _, _, _, _, _, _, _, e_16, hp_hv9, hk_hv9, hm_hv9, hr_hv9, hok_hv9⟩ => ?_
 subst e_16
 refine g9 4 ?_
 refine W.alloc Zo (fun b17 => (W.alloc Zy (fun b18 => (g9 16 ?_))))
 refine WC.dw (sn9.k9.k9) (d9 [0, 1, 2, 3, 4] ?_)
 refine WD.a1 5 rfl (W.call (Mp := Ms_s) (ZjD (StR.mono hG10 h_s) t _) rfl (pmC (pmC pr9)) ?_)
 intro v23 G20 Ms22 hG20 q21
 refine match q21 with | ⟨eeq21, _, e_25, hv19⟩ => ?_
 subst e_25
 have eeq21 := eeq21.symm
 subst eeq21
 refine W.perm (pmC (pmC pr9)).symm ?_
 have q27 := hv19.form
 refine match q27 with | ⟨sa_hv19, sc_hv19, e_26⟩ => ?_
 subst e_26
 refine W.nn (WD.a1 6 rfl (W.qcall (Zqu (hr_hv9.mono hG20) k hv19 (t.rows hlo.mem) hfm) rfl (W.nn (d9 [7, 8, 9, 10] ?_))))
 refine g9 3 ?_
 refine ⟨.inr rfl, [_, _], ⟨rfl, rfl, trivial⟩, Ms_s, ((List.sublist_append_left _ _).cons _).cons _, ?_⟩
 exact ⟨rfl, congrArg (fun o : Option Str => Value.tuple #[sV (o.getD Str.nil).b, .bool o.isSome]) (t.lookup k)⟩

theorem ZqK {G : GH} {v_l : Value} {l : List Pair} (h_l : SlR Zs G v_l l) (slo : Str) (shi : Str) (so : Bool) {v_ms : Value} {ms : List Msg} (h_ms : SlR Zp G v_ms ms) (c : Str) (n : Int) (hP : PairsR l) (hn : l.length + ms.length ≤ 1000000) (hm : ∀ m ∈ ms, m.key.b.size ≤ 16 ∧ m.val.b.size ≤ 16) (hs : slo.b.size ≤ 300) :
    Fc Tryz.prog 100 [v_l, .agg #[sV slo.b, sV shi.b, .bool so], v_ms, sV c.b, iV n] G [] (fun v G' M' => M' = [] ∧ ∃ r : List Pair × Str × Bool, r = Zbi l ⟨slo, shi, so⟩ ms c n ∧ ∃ u0, v = .tuple #[u0, sV (Str.b (r.2.1)), .bool (r.2.2)] ∧ SlR Zs G' u0 (r.1)) := by
 obtain ⟨sa_l, sc_l, rfl⟩ := h_l.form
 obtain ⟨sa_ms, sc_ms, rfl⟩ := h_ms.form
 have hcl := Zua (Zu (l.filter fun p => Span.has ⟨slo, shi, so⟩ p.key) (Zc ⟨slo, shi, so⟩ ms)) n
 refine Fc.go [.tmp 10, .tmp 11, .tmp 12] Tryz.func100 Tryz.ntmps100 rfl (fun w0 => (g9 2 ?_))
 refine W.box (L := [sV _, sV _, .bool _]) rfl rfl (fun b1 => (g9 9 ?_))
 refine W.qcall (Zcx _ _ _) rfl (g9 2 ?_)
 refine WC.cond rfl (fun h16 => ?_) (fun h16 => ?_)
 ·refine g9 11 ?_
  refine ⟨rfl, _, (Zub h16).symm, _, rfl, ?_⟩
  · exact SlR.nil
 refine g9 7 ?_
 refine W.cS (ZqE h_l slo shi so h_ms hP hn hm hs) rfl (fun sa_hv3 sc_hv3 G2 hG2 hv3 => (g9 8 ?_))
 refine W.sp 24 rfl (fun ha_so => ?_) (fun ha_so => ?_)
 ·refine g9 22 ?_
  refine WC.dw sr9.k9 (d9 [0, 1, 2, 3] ?_)
  refine WD.tk 4 rfl (ZgN rfl rfl) (WD.tk 5 rfl (Ok.int (n := ((Xt (Zu (l.filter fun p => Span.has ⟨slo, shi, so⟩ p.key) (Zc ⟨slo, shi, so⟩ ms)) n : Nat) : Int)) (Zek rfl rfl) om9) ?_)
  have hs9 := SlR.slice hv3 (lo := 0) (hi := (Xt (Zu (l.filter fun p => Span.has ⟨slo, shi, so⟩ p.key) (Zc ⟨slo, shi, so⟩ ms)) n)) om9 om9
  refine WD.tk 6 rfl (Jt (0) ((Xt (Zu (l.filter fun p => Span.has ⟨slo, shi, so⟩ p.key) (Zc ⟨slo, shi, so⟩ ms)) n)) ZI ZJ hv3 rfl rfl ⟨_, _, rfl, om9⟩ ⟨om9, om9⟩) (d9 [8, 9, 10] ?_)
  refine WD.a1 7 rfl (W.cS (XS hs9) rfl (fun sa_hv11 sc_hv11 G10 hG10 hv11 => (W.nn (d9 [11, 12, 13] ?_))))
  refine g9 4 ?_
  refine ⟨rfl, _, (ZgI h16 (x := Str.nil) (b := true) (by simp [ha_so]) (by simp [ha_so])).symm, _, rfl, ?_⟩
  · exact hv11
 refine g9 23 ?_
 refine WC.dw sr9.k9 (d9 [0, 1, 2, 3] ?_)
 refine WD.tk 4 rfl (ZgN rfl rfl) (WD.tk 5 rfl (Ok.int (n := ((Xt (Zu (l.filter fun p => Span.has ⟨slo, shi, so⟩ p.key) (Zc ⟨slo, shi, so⟩ ms)) n : Nat) : Int)) (Zek rfl rfl) om9) ?_)
 have hs17 := SlR.slice hv3 (lo := 0) (hi := (Xt (Zu (l.filter fun p => Span.has ⟨slo, shi, so⟩ p.key) (Zc ⟨slo, shi, so⟩ ms)) n)) om9 om9
 refine WD.tk 6 rfl (Jt (0) ((Xt (Zu (l.filter fun p => Span.has ⟨slo, shi, so⟩ p.key) (Zc ⟨slo, shi, so⟩ ms)) n)) ZI ZJ hv3 rfl rfl ⟨_, _, rfl, om9⟩ ⟨om9, om9⟩) (d9 [8, 9, 10] ?_)
 refine WD.a1 7 rfl (W.cS (XS hs17) rfl (fun sa_hv19 sc_hv19 G18 hG18 hv19 => (W.nn (d9 [11, 12, 13] ?_))))
 refine g9 4 ?_
 refine ⟨rfl, _, (ZgI h16 (x := shi) (b := decide (n ≤ ((Zu (l.filter fun p => Span.has ⟨slo, shi, so⟩ p.key) (Zc ⟨slo, shi, so⟩ ms)).length : Int))) (by simp [ha_so]) (by simp [ha_so])).symm, _, rfl, ?_⟩
 · exact hv19

theorem ZqL {G : GH} (slo : Str) (shi : Str) (so : Bool) (k : Str) :
    Fc Tryz.prog 102 [.agg #[sV slo.b, sV shi.b, .bool so], sV k.b] G [] (fun v _ _ => v = .agg (List.toArray ((Span.meet ⟨slo, shi, so⟩ ⟨k, Str.nil, true⟩).cells))) := by
 refine Fc.go [.cell 4 62] Tryz.func102 Tryz.ntmps102 rfl (fun w0 => (g9 2 ?_))
 refine W.box (L := [sV _, sV _, .bool _]) rfl rfl (fun b1 => (W.alloc Zy (fun b2 => (g9 6 ?_))))
 refine W.ok (ZD (L := [sV _, sV _, .bool _]) Xe Zy rfl rfl rfl) (W.qcall (J4 _ _ _ _ Str.nil _) rfl (g9 5 ?_))
 rfl

theorem ZjF {G : GH} {b_s : Nat} {c c2 : Cfg} {l : List Nd} {ss : List Seat} {Ms_s : MH} (h_s : StR 60 4 3 189 139 b_s c G l Ms_s) (t : Tree c2 l ss) (xlo : Str) (xhi : Str) (xo : Bool) (n : Int) (hxs : xlo.b.size ≤ 300 ∧ xhi.b.size ≤ 300) (hin : i64 n) :
    Fc Tryz.prog 46 [pt9 b_s, .agg #[sV xlo.b, sV xhi.b, .bool xo], iV n] G Ms_s (fun v G' M' => M' = Ms_s ∧ ∃ u0, v = u0 ∧ SlR Zs G' u0 (X1 (Zh l) ⟨xlo, xhi, xo⟩ n)) := by
 obtain ⟨hin1, hin2⟩ := hin
 refine Fc.go [.tmp 6] Tryz.func46 Tryz.ntmps46 rfl (fun w0 => (WC.perm (M' := (Ms_s ++ [])) (by simp) (g9 2 ?_)))
 refine W.box (L := [sV _, sV _, .bool _]) rfl rfl (fun b21 => (g9 11 ?_))
 refine W.qcall (ZaE _ _ _) rfl (W.alloc Zy (fun b22 => (g9 4 ?_)))
 refine WC.loop (X := (Span × List Pair) × Value × MH × Nat) (fun y => [(0, pt9 b_s), (2, iV n), (7, y.2.1), (8, .pointer (some ⟨y.2.2.2, 0, none⟩))]) (fun y G Ml => Ml = ((y.2.2.2, ce9 62 [sV (y.1.1).lo.b, sV (y.1.1).hi.b, .bool (y.1.1).opn]) :: ((b21, ce9 62 [sV xlo.b, sV xhi.b, .bool xo]) :: (y.2.2.1 ++ (Ms_s ++ [])))) ∧ OwnR Zs 74 G y.2.1 (y.1.2) y.2.2.1 ∧ SwOk l ⟨xlo, xhi, xo⟩ n y.1.1 y.1.2 ∧ (y.1.1.lo.b.size ≤ 300 ∧ y.1.1.hi.b.size ≤ 300)) (fun y => Zdl ss y.1.1) (((Span.norm ⟨xlo, xhi, xo⟩, []) : Span × List Pair), lV none 0 0, ([] : MH), b22) hs9 ?_ ?_
 ·exact ⟨rfl, (by exact OwnR.nil), SwOk.init l _ n, Zc5 hxs.1 hxs.2⟩
 rintro ⟨⟨r, out⟩, v_7, M_7, B_8⟩ gG23 G23 _ hG23 ⟨rfl, ho_7, hw, hrs⟩
 try dsimp only at ho_7 hw hrs
 have hol := hw.olen t
 have hml := t.map_len
 refine WC.fr (f := ZX gG23 [(0, pt9 b_s), (2, iV n), (7, v_7), (8, pt9 B_8)]) rfl (WC.perm (M' := ((B_8, ce9 62 [sV (r).lo.b, sV (r).hi.b, .bool (r).opn]) :: ((b21, ce9 62 [sV xlo.b, sV xhi.b, .bool xo]) :: (M_7 ++ (Ms_s ++ []))))) pr9 (g9 7 ?_))
 refine W.call (Mp := Ms_s) (ZfO (StR.mono hG23 h_s) t _) rfl (pmC (pmC (pmA pr9))) ?_
 intro v28 G25 Ms27 hG25 q26
 refine match q26 with | ⟨eeq26, _, e_30, hv24⟩ => ?_
 subst e_30
 have eeq26 := eeq26.symm
 subst eeq26
 refine W.perm (pmC (pmC pr9)).symm ?_
 refine match hv24 with | ⟨_, _, _, _, _, _, _, _, e_31, hp_hv24, hk_hv24, hm_hv24, hr_hv24, hok_hv24⟩ => ?_
 subst e_31
 refine g9 4 ?_
 refine W.alloc Zo (fun b32 => (W.alloc Zy (fun b33 => (g9 14 ?_))))
 refine W.qcall (Zcx _ _ _) rfl (g9 2 ?_)
 refine W.sp 31 rfl (fun h29 => ?_) (fun h29 => ?_)
 ·refine g9 14 ?_
  refine WC.giveO (ho_7.mono hG25) (pmC (pmC (pmC (pmC (pmA pr9))))) (fun G34 hG34 hv34 => (g9 6 ?_))
  refine ⟨.inr rfl, [_], ⟨rfl, trivial⟩, Ms_s, ((((List.sublist_append_left _ _).cons _).cons _).cons _).cons _, ?_⟩
  exact ⟨rfl, _, rfl, SlR.cast hv34 (hw.empty h29)⟩
 have g := t.leg (rest := r) h29
 have hlo := Zo9 t r.lo
 have hft := t.fits _ hlo.1
 have hz9 := Zb6 (n := 300) hrs (b := (Zn l r.lo).s) ⟨by have := hft.1.1; omega, by have := hft.1.2; omega⟩
 have hz300 := hz9.1
 have hz301 := hz9.2
 have hrl := t.rows_len hlo.1
 have hml2 := (t.ms_len _ hlo.1).1
 refine g9 11 ?_
 refine WC.cd (fun h35 p35 => ?_) (fun h35 p35 => ?_)
 ·refine g9 6 ?_
  refine WC.giveO (ho_7.mono hG25) (pmC (pmC (pmC (pmC (pmA pr9))))) (fun G35 hG35 hv35 => (g9 6 ?_))
  refine ⟨.inr rfl, [_], ⟨rfl, trivial⟩, Ms_s, ((((List.sublist_append_left _ _).cons _).cons _).cons _).cons _, ?_⟩
  exact ⟨rfl, _, rfl, SlR.cast hv35 (hw.full om9)⟩
 have hpart := Leg.part t hlo.1 hlo.2 g r.lo (n - (out.length : Int))
 have hvl := List.length_filter_le (fun p : Pair => Span.has (r.meet (Zn l r.lo).s) p.key) (Zh l)
 have hcl : (((Zh l).filter fun p => Span.has (r.meet (Zn l r.lo).s) p.key).take (Xt ((Zh l).filter fun p => Span.has (r.meet (Zn l r.lo).s) p.key) (n - (out.length : Int)))).length ≤ ((Zh l).filter fun p => Span.has (r.meet (Zn l r.lo).s) p.key).length := by rw [List.length_take]; omega
 refine g9 3 ?_
 refine WC.dw (((sn9.k9.k9).k9).k9) (d9 [0, 1, 2, 3, 5, 6, 7, 9, 10, 11, 12, 13, 14] ?_)
 refine WD.a1 4 rfl (W.qcall (J4 _ _ _ _ _ _) rfl (W.nn (WD.a1 8 rfl (W.call (Mp := Ms_s) (ZjD (StR.mono lec h_s) t _) rfl (pmC (pmC (pmC (pmC pr9)))) ?_))))
 intro v40 G37 Ms39 hG37 q38
 refine match q38 with | ⟨eeq38, _, e_42, hv36⟩ => ?_
 subst e_42
 have eeq38 := eeq38.symm
 subst eeq38
 refine W.perm (pmC (pmC (pmC (pmC pr9)))).symm ?_
 have q44 := hv36.form
 refine match q44 with | ⟨sa_hv36, sc_hv36, e_43⟩ => ?_
 subst e_43
 refine W.nn (WD.a1 15 rfl (W.call (Mp := []) (ZqK (hr_hv24.mono hG37) (r.meet (Zn l r.lo).s).lo (r.meet (Zn l r.lo).s).hi (r.meet (Zn l r.lo).s).opn hv36 r.lo (n - (out.length : Int)) (t.rows hlo.1) om9 (fun m hm => Y5 (hft.2 m hm)) hz300) rfl pr9 ?_))
 intro _ G45 _ hG45 q47
 refine match q47 with | ⟨e_48, _, e_49, _, e_50, hv46⟩ => ?_
 subst e_48
 subst e_49
 subst e_50
 have hc51 := SlR.cast hv46 (l' := (((Zh l).filter fun p => Span.has (r.meet (Zn l r.lo).s) p.key).take (Xt ((Zh l).filter fun p => Span.has (r.meet (Zn l r.lo).s) p.key) (n - (out.length : Int))))) (by rw [hpart])
 have q53 := hc51.form
 refine match q53 with | ⟨sa_hc51, sc_hc51, e_52⟩ => ?_
 subst e_52
 refine W.nn (d9 [16, 17, 18, 19, 20, 21, 22] ?_)
 refine g9 6 ?_
 refine W.app (e := Zs) ZI ZJ Xd rfl ZaB rfl rfl ((ho_7.mono lec)) (hc51) (pmC (pmC (pmC (pmC (pmA pr9))))) (by show (List.length _ + List.length _) * 32 ≤ _; omega) (fun v54 Ms55 ho56 => (W.perm (pmC (pmC (pmC (pmC pr9)))).symm (g9 8 ?_)))
 refine W.sp 62 rfl (fun h54_2 => ?_) (fun h54_2 => ?_)
 ·refine g9 14 ?_
  refine WC.giveO ho56 (pmC (pmC (pmC (pmC pr9)))) (fun G57 hG57 hv57 => (g9 6 ?_))
  refine ⟨.inr rfl, [_], ⟨rfl, trivial⟩, Ms_s, ((((List.sublist_append_left _ _).cons _).cons _).cons _).cons _, ?_⟩
  exact ⟨rfl, _, rfl, SlR.cast hv57 (hw.over t om9 g (by rw [hpart] at h54_2; exact h54_2))⟩
 have hgo := hw.go t om9 g (by rw [hpart] at h54_2; exact h54_2)
 have hcur : (Zbi (Zn l r.lo).n.rows (r.meet (Zn l r.lo).s) (Zn l r.lo).ms r.lo (n - (out.length : Int))).2.1 = (r.meet (Zn l r.lo).s).hi := by rw [hpart]; show (if _ then _ else _) = _; rw [if_neg (by rw [hgo.1]; simp)]
 refine g9 7 ?_
 refine W.ok (ZuR rfl rfl) (g9 3 ?_)
 refine WC.cond rfl (fun h66 => ?_) (fun h66 => ?_)
 ·exfalso
  rw [hcur] at h66
  have h0 := g.fin hgo.1
  unfold Str.lt at h0
  rw [h0] at h66
  simp at h66
 refine g9 5 ?_
 refine W.qcall (ZqL _ _ _ _) rfl (g9 9 ?_)
 refine WC.sub (((sr9.cons _).k9).k9) (WC.sub ((sr9.cons _).k9) (WC.sub (sr9.cons _) (g9 1 ?_)))
 refine W.alloc Zy (fun b58 => (g9 3 ?_))
 exact ⟨lec, (((r.meet ⟨(Zbi (Zn l r.lo).n.rows (r.meet (Zn l r.lo).s) (Zn l r.lo).ms r.lo (n - (out.length : Int))).2.1, Str.nil, true⟩, out ++ ((Zh l).filter fun p => Span.has (r.meet (Zn l r.lo).s) p.key)) : Span × List Pair), v54, Ms55, b58), hs9, ⟨rfl, (by have h := ho56; rw [hgo.2.2] at h; exact h), by rw [hcur]; exact hgo.2.1, Zb6 hrs ⟨by rw [hcur]; exact hz301, by show Str.nil.b.size ≤ 300; decide⟩⟩, by rw [hcur]; exact Leg.ahead hlo.1 hlo.2 h29 g hgo.1⟩

theorem ZqM {G : GH} {b_s : Nat} {c c2 : Cfg} {l : List Nd} {ss : List Seat} {Ms_s : MH} (h_s : StR 60 4 3 189 139 b_s c G l Ms_s) (t : Tree c2 l ss) :
    Fc Tryz.prog 51 [pt9 b_s] G Ms_s (fun v G' M' => M' = Ms_s ∧ ∃ u0, v = u0 ∧ SlR Zs G' u0 (Zh l)) := by
 have hml := t.map_len
 refine Fc.go [.tmp 2] Tryz.func51 Tryz.ntmps51 rfl (fun w0 => (WC.perm (M' := (Ms_s ++ [])) (by simp) (g9 8 ?_)))
 refine W.qcall (Ze7 ) rfl (W.call (Mp := Ms_s) (ZjF h_s t Span.all.lo Span.all.hi Span.all.opn _ ⟨by decide, by decide⟩ ⟨by decide, by decide⟩) rfl pr9 ?_)
 intro v63 G60 Ms62 hG60 q61
 refine match q61 with | ⟨eeq61, _, e_65, hv59⟩ => ?_
 subst e_65
 have eeq61 := eeq61.symm
 subst eeq61
 have q67 := hv59.form
 refine match q67 with | ⟨sa_hv59, sc_hv59, e_66⟩ => ?_
 subst e_66
 refine g9 4 ?_
 refine ⟨.inr rfl, [_], ⟨rfl, trivial⟩, Ms_s, List.sublist_append_left _ _, ?_⟩
 refine ⟨rfl, _, rfl, ?_⟩
 · exact SlR.cast hv59 (Zpa om9)

theorem ZqN {G : GH} {b_t : Nat} {b_s : Nat} {c : Cfg} {l : List Nd} {ss : List Seat} {Ms_s : MH} (h_s : StR 60 4 3 189 139 b_s c G l Ms_s) (t : Tree c l ss) {cur : Str} :
    Fc Tryz.prog 18 [pt9 b_t] G ((b_t, ce9 79 [pt9 b_s, sV cur.b]) :: (Ms_s)) (fun v G' M' => SlR Zs G' v (Zh l) ∧ M' = (b_t, ce9 79 [pt9 b_s, sV cur.b]) :: Ms_s) := by
 refine Fc.go [.tmp 2] Tryz.func18 Tryz.ntmps18 rfl (fun w0 => (WC.perm (M' := ((b_t, ce9 79 [pt9 b_s, sV cur.b]) :: (Ms_s ++ []))) (by simp) (g9 9 ?_)))
 refine W.ok (Xa Za1 rfl rfl) (g9 11 ?_)
 refine W.call (Mp := Ms_s) (ZqM h_s t) rfl (pmC pr9) ?_
 intro v5 G2 Ms4 hG2 q3
 refine match q3 with | ⟨eeq3, _, e_7, hv1⟩ => ?_
 subst e_7
 have eeq3 := eeq3.symm
 subst eeq3
 refine W.perm (pmC pr9).symm ?_
 have q9 := hv1.form
 refine match q9 with | ⟨sa_hv1, sc_hv1, e_8⟩ => ?_
 subst e_8
 refine g9 4 ?_
 refine ⟨.inr rfl, [_], ⟨rfl, trivial⟩, ((b_t, ce9 79 [pt9 b_s, sV cur.b]) :: (Ms_s ++ [])), sr9.k9, ?_⟩
 exact ⟨hv1, congrArg _ (List.append_nil _)⟩

theorem ZqO {G : GH} {cs_n : List Value} {n : Nd} (h_n : NodeC G cs_n n) :
    Fc Tryz.prog 58 [.agg (List.toArray cs_n)] G [] (fun v _ _ => v = .bool (isM n)) := by
 obtain ⟨_, _, _, _, _, _, _, _, rfl, hp_n, hk_n, hm_n, hr_n, hok_n⟩ := h_n
 refine Fc.go [.tmp 2] Tryz.func58 Tryz.ntmps58 rfl (fun w0 => (g9 2 ?_))
 refine W.box (L := [iV _, iV _, lV _ _ _, lV _ _ _, sV _, .bool _, iV _, iV _, lV _ _ _, lV _ _ _]) rfl rfl (fun b18 => (g9 14 ?_))
 rfl

theorem ZqP {G : GH} {v_l : Value} {l : List Nd} (h_l : SlR ZA G v_l l) :
    Fc Tryz.prog 111 [v_l, .func (.func 58) #[] #[]] G [] (fun v _ _ => v = iV (Yv isM l)) := by
 obtain ⟨sa_l, sc_l, rfl⟩ := h_l.form
 have hl := h_l.len47
 refine Fc.go [.tmp 4] Tryz.func111 Tryz.ntmps111 rfl (fun w0 => (g9 14 ?_))
 refine WC.loop (X := Nat) (fun k => [(8, nt9 k), (0, lV sa_l l.length sc_l), (1, .func (.func 58) #[] #[]), (7, nt9 ((l).length))]) (fun k _ Ml => Ml = [] ∧ k ≤ l.length ∧ ∀ j (h : j < l.length), j < k → isM l[j] = false) (fun k => l.length - k) 0 hs9 ?_ ?_
 ·exact ⟨rfl, om9, fun j _ h => by omega⟩
 rintro k gG19 G19 _ hG19 ⟨rfl, hk, hj⟩
 refine g9 6 ?_
 refine WC.cd (fun h9 p9 => ?_) (fun h9 p9 => ?_)
 ·refine g9 15 ?_
  refine (h_l.mono hG19).aN (i := k) om9 (fun _ _ _ _ _ _ _ _ he20 hp_n21 hk_n21 hm_n21 hr_n21 hok_n21 => (g9 2 ?_))
  refine W.qcallV (fst := []) (caps := []) rfl (ZqO (nk9 hp_n21 hk_n21 hm_n21 hr_n21 hok_n21)) rfl (g9 2 ?_)
  refine WC.cond rfl (fun h16 => ?_) (fun h16 => ?_)
  ·refine g9 13 ?_
   refine congrArg (Value.int .i64) ?_
   exact (Zgh (q := isM) om9 h16 hj).symm
  refine g9 8 ?_
  exact ⟨Le.rfl, k + 1, hs9, ⟨rfl, om9, fun j h hji => by
      by_cases e2 : j = k
      · subst e2; exact h16
      · exact hj j h om9⟩, om9⟩
 refine g9 12 ?_
 refine congrArg (Value.int .i64) ?_
 exact (Zgi (q := isM) (fun j h => hj j om9 om9)).symm

theorem ZqQ {G : GH} {v_l : Value} {l : List Nd} (h_l : SlR ZA G v_l l) :
    Fc Tryz.prog 57 [v_l, .func (.func 58) #[] #[]] G [] (fun v _ _ => v = .bool (decide ((0 : Int) ≤ Yv isM l))) := by
 obtain ⟨sa_l, sc_l, rfl⟩ := h_l.form
 refine Fc.go [.tmp 4] Tryz.func57 Tryz.ntmps57 rfl (fun w0 => (g9 9 ?_))
 refine W.qcall (ZqP h_l) rfl (g9 6 ?_)
 rfl

theorem ZbT {G : GH} {b_t b_s : Nat} {c : Cfg} {l : List Nd} {ss : List Seat} {cur : Str} {Ms_t : MH} (h_t : BtR 60 4 3 189 139 79 b_t b_s c G (l, cur) Ms_t) (t : Tree c l ss) (pk : Int) (pkey : Str) (phi : Str) (po : Bool) (pv : Str) (pl : Int) (k : Int) (hgr : Grown k l) (hk9 : k ≤ 1000000000) :
    Fc Tryz.prog 14 [pt9 b_t, .agg #[iV pk, sV pkey.b, sV phi.b, .bool po, sV pv.b, iV pl]] G Ms_t (fun v G' M' => ∃ a l', DoP c k (⟨pk, pkey, phi, po, pv, pl⟩ : Opr) l a l' ∧ (∃ cs, v = .agg (List.toArray cs) ∧ AnsC G' cs a) ∧ BtR 60 4 3 189 139 79 b_t b_s c G' (l', cur) M') := by
 have h1 := pkey.le
 have h2 := phi.le
 have h3 := pv.le
 refine Fc.go [.cell 4 38] Tryz.func14 Tryz.ntmps14 rfl (fun w0 => (WC.perm (M' := (Ms_t ++ [])) (by simp) (g9 2 ?_)))
 refine W.box (L := [iV _, sV _, sV _, .bool _, sV _, iV _]) rfl rfl (fun b1 => (W.alloc Ze1 (fun b2 => (g9 6 ?_))))
 refine W.ok (Xa Za1 rfl rfl) (g9 9 ?_)
 refine W.qcall (ZjA _ _ _ _ _ _) rfl (g9 9 ?_)
 refine WC.cn (fun h12 p12 => ?_) (fun h12 p12 => ?_)
 ·try dsimp only at p12
  have hR : ¬ Opr.R (⟨pk, pkey, phi, po, pv, pl⟩ : Opr) := fun hq => by rw [if_pos hq] at p12; exact p12 rfl
  have h39 : (if Opr.R (⟨pk, pkey, phi, po, pv, pl⟩ : Opr) then (0 : Int) else 3) = 3 := if_neg hR
  refine g9 3 ?_
  refine W.ok (ZD (L := [iV _, .bool _, sV _, lV _ _ _]) ZnP Ze1 rfl rfl rfl) (g9 5 ?_)
  refine ⟨.inr rfl, [_], ⟨⟨_, _, _, _, _, rfl, YE (i := 0) rfl, Zcs, (by simp), rfl, rfl⟩, trivial⟩, Ms_t, ((List.sublist_append_left _ _).cons _).cons _, ?_⟩
  exact ⟨⟨(if Opr.R (⟨pk, pkey, phi, po, pv, pl⟩ : Opr) then (0 : Int) else 3), false, Str.nil, []⟩, l, by rw [h39]; exact DoP.bad t hgr hR, ⟨_, rfl, _, _, rfl, SlR.nil, by rw [h39]; exact ⟨by decide, by decide⟩⟩, h_t⟩
 try dsimp only at p12
 have hR : Opr.R (⟨pk, pkey, phi, po, pv, pl⟩ : Opr) := by
   by_cases hq : Opr.R (⟨pk, pkey, phi, po, pv, pl⟩ : Opr)
   · exact hq
   rw [if_neg hq] at p12; omega
 have hks := hR.1.2.2.1
 have hk6 := hR.1.2.1
 have hk7 := hR.1.1
 dsimp only at hks hk6 hk7
 refine g9 16 ?_
 refine WC.cd (fun h22 p22 => ?_) (fun h22 p22 => ?_)
 ·try dsimp only at p22
  obtain ⟨Msbt3, eMbt3, hBbt3⟩ := h_t
  subst eMbt3
  have hSbt3 : StR 60 4 3 189 139 b_s c G l Msbt3 := hBbt3
  refine WC.perm (M' := ((b_t, ce9 79 [pt9 b_s, sV cur.b]) :: ((b2, ce9 38 [iV 0, .bool false, sV ⟨#[]⟩, lV none 0 0]) :: ((b1, ce9 34 [iV pk, sV pkey.b, sV phi.b, .bool po, sV pv.b, iV pl]) :: (Msbt3 ++ []))))) (pmD (pmD pr9)).symm (WC.dw ((sn9.k9.cons _).k9) (d9 [0, 1, 2, 3, 4, 5] ?_))
  refine WD.a1 6 rfl (W.call (Mp := Msbt3) (ZqJ hSbt3 t pkey) rfl (pmC (pmC (pmC pr9))) ?_)
  intro v7 G4 Ms6 hG4 q5
  refine match q5 with | ⟨eeq5, e_9⟩ => ?_
  subst e_9
  have eeq5 := eeq5.symm
  subst eeq5
  refine W.perm (pmC (pmC (pmC pr9))).symm (W.nn (d9 [7, 8, 9, 10, 11, 12, 13] ?_))
  refine WD.done (by kernel_rfl) (JX (Xj (g9 6 ?_)))
  have hB10 : BtR 60 4 3 189 139 79 b_t b_s c G4 (l, cur) ((b_t, ce9 79 [pt9 b_s, sV cur.b]) :: Msbt3) := ⟨_, rfl, (StR.mono hG4 hSbt3)⟩
  refine WC.perm (M' := ((b2, ce9 38 [iV 0, .bool ((Zi (Zh l) pkey).isSome), sV ((Zi (Zh l) pkey).getD Str.nil).b, lV none 0 0]) :: ((b1, ce9 34 [iV pk, sV pkey.b, sV phi.b, .bool po, sV pv.b, iV pl]) :: (((b_t, ce9 79 [pt9 b_s, sV cur.b]) :: Msbt3) ++ [])))) ((pmC (pmC pr9)).symm.trans (((pmC (pmC pr9)).cons _).trans pr9)) (WC.ret ?_)
  refine ⟨.inr rfl, [_], ⟨⟨_, _, _, _, _, rfl, YE (i := 0) rfl, Zcs, (by simp), rfl, rfl⟩, trivial⟩, ((b_t, ce9 79 [pt9 b_s, sV cur.b]) :: Msbt3), ((List.sublist_append_left _ _).cons _).cons _, ?_⟩
  exact ⟨_, l, DoP.get t hgr hR p22, ⟨_, rfl, _, _, rfl, SlR.nil, (show i64 0 from ⟨by decide, by decide⟩)⟩, hB10⟩
 try dsimp only at p22
 refine g9 6 ?_
 refine WC.cd (fun h36 p36 => ?_) (fun h36 p36 => ?_)
 ·try dsimp only at p36
  have hxs9 : (Opr.span (⟨pk, pkey, phi, po, pv, pl⟩ : Opr)).lo.b.size ≤ 300 ∧ (Opr.span (⟨pk, pkey, phi, po, pv, pl⟩ : Opr)).hi.b.size ≤ 300 := by
    rw [Opr.span, if_pos (.inr p36)]
    have h8 := hR.1
    dsimp only at h8 ⊢
    omega
  have hin9 : i64 pl := by
    have h8 := hR.2.2.2.1 p36
    dsimp only at h8
    exact ⟨om9, om9⟩
  obtain ⟨Msbt11, eMbt11, hBbt11⟩ := h_t
  subst eMbt11
  have hSbt11 : StR 60 4 3 189 139 b_s c G l Msbt11 := hBbt11
  refine WC.perm (M' := ((b_t, ce9 79 [pt9 b_s, sV cur.b]) :: ((b2, ce9 38 [iV 0, .bool false, sV ⟨#[]⟩, lV none 0 0]) :: ((b1, ce9 34 [iV pk, sV pkey.b, sV phi.b, .bool po, sV pv.b, iV pl]) :: (Msbt11 ++ []))))) (pmD (pmD pr9)).symm (WC.dw ((sn9.k9.cons _).k9) (d9 [0, 1, 2, 3, 4, 6, 7] ?_))
  refine WD.a1 5 rfl (W.qcall (Zjz _ _ _ _ _ _ (by first | assumption | omega | (dsimp only; omega))) rfl (W.nn (WD.a1 8 rfl (W.call (Mp := Msbt11) (ZjF hSbt11 t (Opr.span (⟨pk, pkey, phi, po, pv, pl⟩ : Opr)).lo (Opr.span (⟨pk, pkey, phi, po, pv, pl⟩ : Opr)).hi (Opr.span (⟨pk, pkey, phi, po, pv, pl⟩ : Opr)).opn pl hxs9 hin9) rfl (pmC (pmC (pmC pr9))) ?_))))
  intro v16 G13 Ms15 hG13 q14
  refine match q14 with | ⟨eeq14, _, e_18, hv12⟩ => ?_
  subst e_18
  have eeq14 := eeq14.symm
  subst eeq14
  refine W.perm (pmC (pmC (pmC pr9))).symm ?_
  have q20 := hv12.form
  refine match q20 with | ⟨sa_hv12, sc_hv12, e_19⟩ => ?_
  subst e_19
  refine W.nn (d9 [9, 10] ?_)
  refine WD.done (by kernel_rfl) (JX (Xj (g9 6 ?_)))
  have hB21 : BtR 60 4 3 189 139 79 b_t b_s c G13 (l, cur) ((b_t, ce9 79 [pt9 b_s, sV cur.b]) :: Msbt11) := ⟨_, rfl, (StR.mono hG13 hSbt11)⟩
  refine WC.perm (M' := ((b2, ce9 38 [iV 0, .bool false, sV ⟨#[]⟩, lV sa_hv12 (X1 (Zh l) (Opr.span (⟨pk, pkey, phi, po, pv, pl⟩ : Opr)) pl).length sc_hv12]) :: ((b1, ce9 34 [iV pk, sV pkey.b, sV phi.b, .bool po, sV pv.b, iV pl]) :: (((b_t, ce9 79 [pt9 b_s, sV cur.b]) :: Msbt11) ++ [])))) ((pmC (pmC pr9)).symm.trans (((pmC (pmC pr9)).cons _).trans pr9)) (WC.ret ?_)
  refine ⟨.inr rfl, [_], ⟨⟨_, _, _, _, _, rfl, YE (i := 0) rfl, Zcs, (by simp), rfl, rfl⟩, trivial⟩, ((b_t, ce9 79 [pt9 b_s, sV cur.b]) :: Msbt11), ((List.sublist_append_left _ _).cons _).cons _, ?_⟩
  exact ⟨_, l, DoP.scan t hgr hR p36, ⟨_, rfl, _, _, rfl, hv12, (show i64 0 from ⟨by decide, by decide⟩)⟩, hB21⟩
 try dsimp only at p36
 refine g9 3 ?_
 refine W.call (Mp := Ms_t) (ZqI h_t t pk pkey phi po pv pl k hR om9 hgr hk9) rfl (pmC (pmC pr9)) ?_
 intro v28 G25 Ms27 hG25 q26
 refine match q26 with | ⟨e22, l23, hW24, e_30, hR29⟩ => ?_
 subst e_30
 refine W.perm (pmC (pmC pr9)).symm (g9 12 ?_)
 refine ⟨.inr rfl, [_], ⟨⟨_, _, _, _, _, rfl, YE (i := 0) rfl, Zcs, (by simp), rfl, rfl⟩, trivial⟩, Ms27, ((List.sublist_append_left _ _).cons _).cons _, ?_⟩
 exact ⟨⟨e22, false, Str.nil, []⟩, l23, DoP.wr hR p22 p36 hW24, ⟨_, rfl, _, _, rfl, SlR.nil, by rcases hW24.r with ⟨h, _⟩ | ⟨h, _⟩ <;> rw [h] <;> exact ⟨by decide, by decide⟩⟩, hR29⟩

theorem ZfP {G : GH} {b_t b_s : Nat} {c : Cfg} {l : List Nd} {ss : List Seat} {cur : Str} {Ms_t : MH} (h_t : BtR 60 4 3 189 139 79 b_t b_s c G (l, cur) Ms_t) (t : Tree c l ss) :
    Fc Tryz.prog 15 [pt9 b_t] G Ms_t (fun v G' M' => ∃ N r, Yq c cur N l 0 0 = some r ∧ v = .tuple #[iV r.1, iV r.2.1] ∧ BtR 60 4 3 189 139 79 b_t b_s c G' (r.2.2, (if (Zn r.2.2 cur).s.opn = true then Str.nil else (Zn r.2.2 cur).s.hi)) M') := by
 have hp9 := t.pos
 obtain ⟨N9, r9, hN9, hr9⟩ := ZfF t cur
 obtain ⟨sT, tT, hmT⟩ := Zb0 N9 t ⟨Int.le_refl _, om9⟩ hr9
 refine Fc.go [.tmp 2, .tmp 3] Tryz.func15 Tryz.ntmps15 rfl (fun w0 => (WC.perm (M' := (Ms_t ++ [])) (by simp) (g9 10 ?_)))
 refine W.ok (Xa Za1 rfl rfl) (g9 6 ?_)
 obtain ⟨Msbt31, eMbt31, hBbt31⟩ := h_t
 subst eMbt31
 have hSbt31 : StR 60 4 3 189 139 b_s c G l Msbt31 := hBbt31
 refine WC.perm (M' := ((b_t, ce9 79 [pt9 b_s, sV cur.b]) :: (Msbt31 ++ []))) pr9.symm (WC.dw sn9.k9 (d9 [0, 1, 2, 3, 4, 5, 6, 7] ?_))
 refine WD.a1 8 rfl (W.call (Mp := Msbt31) (Zkt hSbt31 t cur rfl N9 r9 hr9 om9) rfl (pmC pr9) ?_)
 intro v35 G32 Ms34 hG32 q33
 refine match q33 with | ⟨e_37, hR36⟩ => ?_
 subst e_37
 refine W.perm (pmC pr9).symm (W.nn (d9 [9, 10, 11, 12, 13] ?_))
 refine g9 3 ?_
 refine WC.dw (sn9.cons _) (d9 [0, 1, 2, 3, 5, 6, 7] ?_)
 refine WD.any [4, 8] (by kernel_rfl) rfl ⟨WD.ap ?_, WD.ap ?_, trivial⟩
 ·refine g9 1 ?_
  refine W.nn (WD.a1 8 rfl (g9 1 ?_))
  refine W.nn (WD.a1 9 rfl (W.call (Mp := Ms34) (ZjE hR36 tT cur) rfl (pmC pr9) ?_))
  intro v41 G38 Ms40 hG38 q39
  refine match q39 with | ⟨eeq39, e_43⟩ => ?_
  subst e_43
  have eeq39 := eeq39.symm
  subst eeq39
  refine W.perm (pmC pr9).symm (W.nn (d9 [10, 11, 12] ?_))
  refine g9 10 ?_
  have hB44 : BtR 60 4 3 189 139 79 b_t b_s c G38 (r9.2.2, (if (Zn r9.2.2 cur).s.opn = true then Str.nil else (Zn r9.2.2 cur).s.hi)) ((b_t, ce9 79 [pt9 b_s, sV (if (Zn r9.2.2 cur).s.opn = true then Str.nil else (Zn r9.2.2 cur).s.hi).b]) :: Ms34) := ⟨_, rfl, (StR.mono hG38 hR36)⟩
  refine WC.perm (M' := (((b_t, ce9 79 [pt9 b_s, sV (if (Zn r9.2.2 cur).s.opn = true then Str.nil else (Zn r9.2.2 cur).s.hi).b]) :: Ms34) ++ [])) (pr9.symm.trans ((pr9.cons _).trans pr9)) (WC.ret ?_)
  refine ⟨.inr rfl, [_, _], ⟨rfl, rfl, trivial⟩, ((b_t, ce9 79 [pt9 b_s, sV (if (Zn r9.2.2 cur).s.opn = true then Str.nil else (Zn r9.2.2 cur).s.hi).b]) :: Ms34), List.sublist_append_left _ _, ?_⟩
  exact ⟨N9, r9, hr9, rfl, hB44⟩
 refine g9 1 ?_
 refine W.nn (WD.a1 4 rfl (g9 1 ?_))
 refine W.nn (WD.a1 9 rfl (W.call (Mp := Ms34) (ZjE hR36 tT cur) rfl (pmC pr9) ?_))
 intro v48 G45 Ms47 hG45 q46
 refine match q46 with | ⟨eeq46, e_50⟩ => ?_
 subst e_50
 have eeq46 := eeq46.symm
 subst eeq46
 refine W.perm (pmC pr9).symm (W.nn (d9 [10, 11, 12] ?_))
 refine g9 10 ?_
 have hB51 : BtR 60 4 3 189 139 79 b_t b_s c G45 (r9.2.2, (if (Zn r9.2.2 cur).s.opn = true then Str.nil else (Zn r9.2.2 cur).s.hi)) ((b_t, ce9 79 [pt9 b_s, sV (if (Zn r9.2.2 cur).s.opn = true then Str.nil else (Zn r9.2.2 cur).s.hi).b]) :: Ms34) := ⟨_, rfl, (StR.mono hG45 hR36)⟩
 refine WC.perm (M' := (((b_t, ce9 79 [pt9 b_s, sV (if (Zn r9.2.2 cur).s.opn = true then Str.nil else (Zn r9.2.2 cur).s.hi).b]) :: Ms34) ++ [])) (pr9.symm.trans ((pr9.cons _).trans pr9)) (WC.ret ?_)
 refine ⟨.inr rfl, [_, _], ⟨rfl, rfl, trivial⟩, ((b_t, ce9 79 [pt9 b_s, sV (if (Zn r9.2.2 cur).s.opn = true then Str.nil else (Zn r9.2.2 cur).s.hi).b]) :: Ms34), List.sublist_append_left _ _, ?_⟩
 exact ⟨N9, r9, hr9, rfl, hB51⟩

end Go.Proofs.YtbbemibbmbmamaaGreat
namespace Go.Fw
open Go Go.RowKit
structure Act32 where
  o : Opr
  fl : Int
instance : Inhabited Act32 := ⟨⟨default, 0⟩⟩
def ActC32 (cs : List Value) (x : Act32) : Prop := cs = [.int .i64 x.o.kind, .string x.o.key.b, .string x.o.hi.b, .bool x.o.opn, .string x.o.val.b, .int .i64 x.o.lim, .int .i64 x.fl] ∧ x.o.Ok ∧ i64 x.fl
def ZfQ : Enc Act32 where
  k := 7
  w := 80
  R := fun _ cs x => ActC32 cs x
  mono := fun _ h => h
  len := fun h => by rw [h.1]; rfl
  one := fun h u hu => by rw [h.1] at hu; simp at hu; rcases hu with rfl | rfl | rfl | rfl | rfl | rfl | rfl <;> rfl
theorem ZqR {P : Program} {t i tn : TypeId} (ht : Zbm P t = some [(tn, 0, 6), (i, 6, 1)]) (hi : P.underlying i = some (.int .i64)) (hn : Dec P tn eOp) (hc : P.cellsOf t = 7) : Dec P t ZfQ := by
  intro H enc w fuel cs x h hw
  obtain ⟨hl, hf⟩ := Zg2 ht h hw
  obtain ⟨y0, n0, t0, w0⟩ := hf 0 _ _ _ rfl
  obtain ⟨y1, n1, t1, w1⟩ := hf 1 _ _ _ rfl
  obtain ⟨a0, e0, q0⟩ := hn enc w n0 _ y0 t0 w0
  obtain ⟨a1, e1, q1⟩ := ZaS hi t1 w1
  rw [hc] at hl
  match cs, hl with
  | [_, _, _, _, _, _, _], _ =>
    simp at e0 e1
    obtain ⟨e2, e3, e4, e5, e6, e7⟩ := e0
    subst e1 e2 e3 e4 e5 e6 e7
    exact ⟨⟨a0, a1⟩, rfl, q0, q1⟩
def Zaj (l : List Act32) : Int := (l.map fun a => max 0 a.fl).sum
theorem ZqS {l : List Act32} {k : Nat} (hk : k < l.length) : Zaj (l.take (k + 1)) = Zaj (l.take k) + max 0 l[k].fl := by
  unfold Zaj
  rw [List.take_succ_eq_append_getElem hk, List.map_append, List.sum_append]
  simp
theorem ZqT (l : List Act32) : 0 ≤ Zaj l := by
  unfold Zaj
  induction l with
  | nil => simp
  | cons a l ih => rw [List.map_cons, List.sum_cons]; omega
def FewR (l : List Act32) : Prop := l.length ≤ 100 ∧ (∀ a ∈ l, (a.o.key.b.size : Int) ≤ 300 ∧ (a.o.hi.b.size : Int) ≤ 300 ∧ (a.o.val.b.size : Int) ≤ 300 ∧ a.fl ≤ 20) ∧ Zaj l ≤ 200
end Go.Fw
namespace Go.Proofs.YtbbemibbmbmamaaGreat
open Go Go.Fw Go.RowKit
attribute [local irreducible] Ok W WC
theorem ZjG {G : GH} (cfan : Int) (cleaf : Int) (cbud : Int) (cslots : Int) (crest : Int) :
    Fc Tryz.prog 10 [.agg #[iV cfan, iV cleaf, iV cbud, iV cslots, iV crest]] G [] (fun v G' M' => (¬ CfgR (⟨cfan, cleaf, cbud, cslots, crest⟩ : Cfg) ∧ v = .tuple #[.pointer none, iV 2] ∧ M' = []) ∨ (CfgR (⟨cfan, cleaf, cbud, cslots, crest⟩ : Cfg) ∧ ∃ bt bs, v = .tuple #[pt9 bt, iV 0] ∧ BtR 60 4 3 189 139 79 bt bs (⟨cfan, cleaf, cbud, cslots, crest⟩ : Cfg) G' ([XE 0], Str.nil) M')) := by
 refine Fc.go [.tmp 2, .tmp 3] Tryz.func10 Tryz.ntmps10 rfl (fun w0 => (g9 2 ?_))
 refine W.box (L := [iV _, iV _, iV _, iV _, iV _]) rfl rfl (fun b1 => (g9 7 ?_))
 refine W.call (Mp := []) (Zp0 (cfan) (cleaf) (cbud) (cslots) (crest)) rfl pr9 ?_
 intro v5 G2 Ms4 hG2 q3
 refine Or.elim q3 (fun q6 => ?_) (fun q7 => ?_)
 ·refine match q6 with | ⟨hnc, e_8, e_9⟩ => ?_
  subst e_8
  subst e_9
  refine g9 25 ?_
  exact .inl ⟨hnc, rfl, rfl⟩
 refine match q7 with | ⟨hC, bSt, e_10, hS9⟩ => ?_
 subst e_10
 refine W.perm (pmC pr9).symm (g9 20 ?_)
 refine W.ok (ZD (L := [.pointer _, sV _]) ZnX ZnW rfl rfl rfl) (W.box (L := [.pointer _, sV _]) rfl rfl (fun b11 => (g9 5 ?_)))
 refine ⟨.inr rfl, [_, _], ⟨rfl, rfl, trivial⟩, ((b11, ce9 79 [pt9 bSt, sV ⟨#[]⟩]) :: Ms4), ((List.sublist_append_left _ _).cons _).k9, ?_⟩
 exact .inr ⟨hC, _, _, rfl, _, rfl, hS9⟩

theorem ZqU {G : GH} {v_l : Value} {l : List Act32} (h_l : SlR ZfQ G v_l l) :
    Fc Tryz.prog 8 [v_l] G [] (fun v G' M' => (∃ r, v = .bool r ∧ (r = true → FewR l)) ∧ M' = []) := by
 obtain ⟨sa_l, sc_l, rfl⟩ := h_l.form
 have hl := h_l.len47
 refine Fc.go [.tmp 2] Tryz.func8 Tryz.ntmps8 rfl (fun w0 => (g9 17 ?_))
 refine WC.loop (X := Nat) (fun k => [(3, iV (Zaj (l.take k))), (4, nt9 k), (0, lV sa_l l.length sc_l)]) (fun k _ Ml => Ml = [] ∧ k ≤ l.length ∧ k ≤ 101 ∧ (∀ j (h : j < l.length), j < k → ((l[j]).o.key.b.size : Int) ≤ 300 ∧ ((l[j]).o.hi.b.size : Int) ≤ 300 ∧ ((l[j]).o.val.b.size : Int) ≤ 300 ∧ (l[j]).fl ≤ 20) ∧ Zaj (l.take k) ≤ 20 * k) (fun k => l.length - k) 0 hs9 ?_ ?_
 ·exact ⟨rfl, om9, om9, fun j _ h => by omega, by simp [Zaj]⟩
 rintro k gG17 G17 _ hG17 ⟨rfl, hk, hk1, hj, hfs⟩
 have hfp := ZqT (l.take k)
 refine g9 8 ?_
 refine W.sd 9 (fun h8 p8 => ?_) (fun h8 p8 => ?_)
 ·refine g9 7 ?_
  refine WC.cd (fun h11 p11 => ?_) (fun h11 p11 => ?_)
  ·refine g9 9 ?_
   have q22 := (h_l.mono hG17).at (i := k) om9
   refine match q22 with | ⟨_, he18, ⟨e_21, ho_hm19, hf_hm19⟩⟩ => ?_
   subst e_21
   refine g9 3 ?_
   refine W.qcall (Zqx _ _ _ _ _ _ _) rfl (g9 2 ?_)
   refine W.sp 22 rfl (fun h21 => ?_) (fun h21 => ?_)
   ·refine g9 23 ?_
    exact ⟨⟨false, rfl, fun h => by cases h⟩, rfl⟩
   refine g9 5 ?_
   have q27 := (h_l.mono hG17).at (i := k) om9
   refine match q27 with | ⟨_, he23, ⟨e_26, ho_hm24, hf_hm24⟩⟩ => ?_
   subst e_26
   refine g9 10 ?_
   refine WC.cd (fun h28 p28 => ?_) (fun h28 p28 => ?_)
   ·refine g9 13 ?_
    exact ⟨⟨false, rfl, fun h => by cases h⟩, rfl⟩
   have hz := ZqS (l := l) (k := k) om9
   refine g9 6 ?_
   have q32 := (h_l.mono hG17).at (i := k) om9
   refine match q32 with | ⟨_, he28, ⟨e_31, ho_hm29, hf_hm29⟩⟩ => ?_
   subst e_31
   refine g9 3 ?_
   refine W.ok (Zek rfl rfl) (g9 11 ?_)
   exact ⟨Le.rfl, k + 1, hs9, ⟨rfl, om9, om9, fun j h hji => by
      by_cases e2 : j = k
      · subst e2; have h9 := h21; simp at h9; exact ⟨h9.1, h9.2.1, h9.2.2, om9⟩
      · exact hj j h om9, om9⟩, om9⟩
  refine g9 11 ?_
  refine W.sd 41 (fun h40 p40 => ?_) (fun h40 p40 => ?_)
  ·refine g9 10 ?_
   exfalso; have p11 := odf h11; omega
  refine g9 8 ?_
  exact ⟨⟨false, rfl, fun h => by cases h⟩, rfl⟩
 refine g9 17 ?_
 refine W.sd 41 (fun h40 p40 => ?_) (fun h40 p40 => ?_)
 ·refine g9 10 ?_
  have hkl : k = l.length := by omega
  subst hkl
  refine ⟨⟨_, rfl, fun h => ⟨om9, fun a ha => ?_, ?_⟩⟩, rfl⟩
  · obtain ⟨j, hj9, rfl⟩ := List.getElem_of_mem ha
    exact hj j hj9 hj9
  have h9 := odt h; rwa [List.take_length] at h9
 refine g9 8 ?_
 exact ⟨⟨false, rfl, fun h => by cases h⟩, rfl⟩

theorem ZjH {G : GH} {b_t b_s : Nat} {c : Cfg} {l : List Nd} {ss : List Seat} {cur : Str} {M : MH} (h : BtR 60 4 3 189 139 79 b_t b_s c G (l, cur) M) (t : Tree c l ss) : Fc Tryz.prog 19 [pt9 b_t] G M (fun v G' M' => SlR ZA G' v l ∧ M' = M) := by
  obtain ⟨Ms, rfl, hS⟩ := h
  exact ZqF hS t
theorem ZqV {G : GH} {b_t b_s : Nat} {c : Cfg} {l : List Nd} {ss : List Seat} {cur : Str} {M : MH} (h : BtR 60 4 3 189 139 79 b_t b_s c G (l, cur) M) (t : Tree c l ss) : Fc Tryz.prog 22 [pt9 b_t] G M (fun v G' M' => v = iV (l.length : Int) ∧ M' = M) := by
  obtain ⟨Ms, rfl, hS⟩ := h
  exact ZqG hS t
theorem ZfR {G : GH} {b_t b_s : Nat} {c : Cfg} {l : List Nd} {ss : List Seat} {cur : Str} {M : MH} (h : BtR 60 4 3 189 139 79 b_t b_s c G (l, cur) M) (t : Tree c l ss) : Fc Tryz.prog 18 [pt9 b_t] G M (fun v G' M' => SlR Zs G' v (Zh l) ∧ M' = M) := by
  obtain ⟨Ms, rfl, hS⟩ := h
  exact ZqN hS t
theorem ZfS {G : GH} {b_t b_s : Nat} {c : Cfg} {l : List Nd} {ss : List Seat} {cur : Str} {Ms_t : MH} (h_t : BtR 60 4 3 189 139 79 b_t b_s c G (l, cur) Ms_t) (t : Tree c l ss) :
    Fc Tryz.prog 21 [pt9 b_t] G Ms_t (fun v G' M' => v = .bool (Xg l) ∧ M' = Ms_t) := by
 refine Fc.go [.tmp 2] Tryz.func21 Tryz.ntmps21 rfl (fun w0 => (WC.perm (M' := (Ms_t ++ [])) (by simp) (g9 8 ?_)))
 refine W.call (Mp := Ms_t) (ZjH h_t t) rfl pr9 ?_
 intro v4 G1 Ms3 hG1 q2
 refine match q2 with | ⟨hR5, eeq2⟩ => ?_
 have eeq2 := eeq2.symm
 subst eeq2
 have q7 := hR5.form
 refine match q7 with | ⟨sa_hR5, sc_hR5, e_6⟩ => ?_
 subst e_6
 refine W.qcall (ZqQ hR5) rfl (g9 5 ?_)
 refine ⟨.inr rfl, [_], ⟨rfl, trivial⟩, Ms_t, List.sublist_append_left _ _, ?_⟩
 exact ⟨congrArg Value.bool (ZqB l), rfl⟩

end Go.Proofs.YtbbemibbmbmamaaGreat
namespace Go.Fw
open Go Go.RowKit
section
variable {c : Cfg} {l l' : List Nd} {ss : List Seat} {o : Opr} {k : Int} {q : Str} {a : Ans}
theorem ZqW (m : List Pair) (o : Opr) : (doN m o).2.err = 0 ∨ (doN m o).2.err = 3 := by
  unfold doN
  split
  · exact .inr rfl
  · split
    · exact .inl rfl
    · split <;> exact .inl rfl
theorem DoP.full (h : DoP c k o l a l') (e : a.err = 4) : a = ⟨4, false, Str.nil, []⟩ ∧ Zh l' = Zh l ∧ o.kind ≤ 4 ∧ (doN (Zh l) o).2.err = 0 ∧ c.slots - (l'.length : Int) < 2 := by
  rcases h.r with ⟨h1, _⟩ | h1
  · rw [h1] at e
    have := ZqW (Zh l) o
    omega
  · exact h1
theorem DoP.fine (h : DoP c k o l a l') (e : ¬ a.err = 4) : a = (doN (Zh l) o).2 ∧ Zh l' = (doN (Zh l) o).1 := by
  rcases h.r with h1 | ⟨h1, _⟩
  · exact h1
  · exact absurd (by rw [h1]) e
theorem ZjI (hc : CfgR c) : Tree c [XE 0] [JQ (XE 0)] := by
  have hR : (XE 0).R c.fan c.leaf c.bud := by
    obtain ⟨_, ⟨h1, _⟩, _⟩ := hc
    refine ⟨⟨by decide, by decide, by decide⟩, fun _ => ⟨rfl, rfl⟩, fun h => (by cases h), ?_⟩
    rw [if_pos (show (XE 0).level = 0 from rfl)]
    refine ⟨rfl, by show (0 : Int) ≤ _; omega, (fun i h => absurd h (Nat.not_lt_zero i)), fun i hi => absurd hi (Nat.not_lt_zero i)⟩
  exact ZiA hc rfl rfl (by decide) hR rfl (Za8 hc hR)
theorem ZqX : Zh [XE 0] = [] := Zff (n := XE 0) rfl rfl (by decide)
theorem ZjJ : Grown 0 [XE 0] := ⟨fun n hn => by simp at hn; subst hn; exact Int.le_refl _, Int.le_refl _, Int.le_refl _⟩
theorem ZqY {N : Nat} {r : Int × Int × List Nd} (t : Tree c l ss) (hg : Grown k l) (hr : Yq c q N l 0 0 = some r) : (∃ T, Tree c r.2.2 T) ∧ Zh r.2.2 = Zh l ∧ Grown k r.2.2 ∧ (r.2.1 = 0 ∨ (r.2.1 = 4 ∧ c.slots - (r.2.2.length : Int) < 2)) := by
  have ha : (0 : Int) ≤ 0 ∧ (0 : Int) < l.length := ⟨Int.le_refl _, by have := t.pos; omega⟩
  obtain ⟨T, hT, hm⟩ := Zb0 N t ha hr
  exact ⟨⟨T, hT⟩, hm, hg.cyc t hr, ZcE N t ha hr⟩
end
section
variable {c : Cfg} {l : List Nd} {ss : List Seat} {k : Str}
theorem ZjK (t : Tree c l ss) (k : Str) : ∀ (n : Nat) (x : Seat), x ∈ ss → x.n.level.toNat = n → x.s.has k = true → ∀ q, (Zn l k).s.has q = true → x.s.has q = true
  | 0, x, hx, hn, hk, q, hq => by
    have := t.lvl hx
    rw [t.leaf_eq hx hk (by omega)]; exact hq
  | n + 1, x, hx, hn, hk, q, hq => by
    have h0 : ¬ x.n.level ≤ 0 := by omega
    have hj := t.route hx h0 k
    have ha := t.at hx (by omega) hj
    have hr := t.right hx h0
    have hkid : (Zb l x (Zg x.n.pivots k)).s.has k = true := by
      have e : (Zb l x (Zg x.n.pivots k)).s.has k = (x.s.has k && (Zf x.n.pivots ((Zg x.n.pivots k : Nat) : Int)).has k) := ZN _ _ _
      rw [e, hk, Xv (j := Zg x.n.pivots k) (YQ hr).1 k (List.length_filter_le _ _)]
      simp
    have := ZjK t k n (Zb l x (Zg x.n.pivots k)) ha.1 (by omega) hkid q hq
    exact Zbh q this
theorem ZqZ {p n : Nd} {i : Int} (hp : ZK c p = false) (hl : 0 < n.level) : ¬ Z4 c p n i = 0 := by
  unfold Z4
  split
  · rw [hp]; simp
  · split
    · simp
    · simp [hl]
theorem Zq0 {N : Nat} {r : Int × Int × List Nd} (t : Tree c l ss) (hr : Yq c k N l 0 0 = some r) (h1 : r.1 = 0) (h2 : r.2.1 = 0) : ∀ x ∈ ss, x.s.has k = true → x.n.msgs = [] := by
  have key : ∀ x ∈ ss, x.s.has k = true → x.n.msgs = [] ∧ (x.n.level = 0 ∨ (ZK c x.n = false ∧ ∃ m n, Yq c k m l x.n.slot n = some r ∧ r.1 = n)) := by
    have ha0 : (0 : Int) ≤ 0 ∧ (0 : Int) < l.length := ⟨Int.le_refl _, by have := t.pos; omega⟩
    refine t.ind (fun _ => ?_) fun x hx h0 hP j hj hk => ?_
    · have hm : (Za l 0).msgs = [] := by
        apply Classical.byContradiction
        intro hn
        rcases Zjm t (List.length_pos_iff.2 hn) hr with h | h <;> omega
      rw [t.root0, t.rootn]
      refine ⟨hm, ?_⟩
      by_cases h0 : (Za l 0).level = 0
      · exact .inl h0
      · refine .inr ⟨?_, N, 0, hr, h1⟩
        cases hf : ZK c (Za l 0)
        · rfl
        · exfalso
          have hc1 : (ZB c (Za l 0) k).1 = 1 := by rw [Zgb h0 (YN t.slot ha0).1 hf]
          obtain ⟨m, rfl⟩ : ∃ m, N = m + 1 := by
            cases N with
            | zero => cases hr
            | succ m => exact ⟨m, rfl⟩
          by_cases h3 : (ZS c l).1 = 0
          · have e := Jl (k := k) hc1 h3
            rw [Xh (by rw [e]; simp) (by rw [e]; simp)] at hr
            have := J5 m hr
            omega
          · have e := Jm (k := k) hc1 h3
            rw [Y7 (by rw [e])] at hr
            cases hr
            rw [e] at h2
            exact h3 h2
    · have hx2 := Zbh k hk
      obtain ⟨hm, hc⟩ := hP hx2
      rcases hc with hc | ⟨hf, m, n, hcy, hrn⟩
      · exact absurd hc h0
      · have hat := t.at hx h0 hj
        have hnd := t.nd hx
        have hlx := t.lvl hx
        have ha : 0 ≤ x.n.slot ∧ x.n.slot < l.length := hnd.1
        have eg : Za l x.n.slot = x.n := hnd.2.1.symm
        have hje : j = Zg x.n.pivots k := by
          have e : (Zb l x j).s.has k = (x.s.has k && (Zf x.n.pivots (j : Int)).has k) := ZN _ _ _
          have hrr := (Yc (t.kids hx) h0)
          have hR := t.right hx (by omega)
          have hl9 := (YQ hR).2
          rw [e, hx2, Xv (YQ hR).1 k (by omega)] at hk
          simpa using hk
        have hch : ZB c (Za l x.n.slot) k = (2, ((Zg x.n.pivots k : Nat) : Int)) := by
          rw [eg]
          exact Zgd h0 (fun e => by rw [hf] at e; cases e.2) (by rw [hm, Zkg (by simp)])
        have hc1 : (ZB c (Za l x.n.slot) k).1 = 2 := by rw [hch]
        obtain ⟨h00, hi⟩ := JU t ha hc1
        obtain ⟨Q, s⟩ := JD t ha h00 hi
        have hst := X4 hc1
        rw [hch] at hst hi s
        dsimp only at hst hi s
        rw [← hje] at hst hi s
        have hQ : Q = x := t.uniq s.mem hx s.slot
        subst hQ
        have hkn : (Zb l Q j).n = Zl l Q.n.slot (j : Int) := s.kid
        obtain ⟨k1, k2, k3, k4⟩ := ZaN t s
        obtain ⟨m2, rfl⟩ : ∃ m2, m = m2 + 1 := by
          cases m with
          | zero => cases hcy
          | succ m2 => exact ⟨m2, rfl⟩
        rcases XU c (Za l Q.n.slot) (Zl l Q.n.slot (j : Int)) (j : Int) with hd | hd | ⟨hd, _⟩ | hd
        · have hl0 : (Zb l Q j).n.level = 0 := by
            have h3 := t.lvl hat.1
            apply Classical.byContradiction
            intro hn
            rw [hkn] at h3 hn
            exact ZqZ (by rw [eg]; exact hf) (by omega) hd
          exact ⟨t.nomsgs hat.1 hl0, .inl hl0⟩
        · exfalso
          by_cases h3 : (ZP c l Q.n.slot (j : Int)).1 = 0
          · have e := hst.trans (X5 hd h3)
            rw [Xh (by rw [e]; simp) (by rw [e]; simp)] at hcy
            have := J5 m2 hcy
            omega
          · have e := hst.trans (X6 hd h3)
            rw [Y7 (by rw [e])] at hcy
            cases hcy
            rw [e] at h2
            exact h3 h2
        · exfalso
          have e := hst.trans (YR hd)
          rw [Xh (by rw [e]; simp) (by rw [e]; simp)] at hcy
          have := J5 m2 hcy
          omega
        · have e := hst.trans (X7 hd)
          obtain ⟨d1, d2, d3⟩ := ZdZ hd
          rw [Jo (by rw [e])] at hcy
          rw [e] at hcy
          dsimp only at hcy
          rw [hkn]
          refine ⟨?_, .inr ⟨d2, m2, n, hcy, hrn⟩⟩
          apply Classical.byContradiction
          intro hn
          rcases prog m2 t k4 (by rw [k3]; omega) (by rw [k3]; exact List.length_pos_iff.2 hn) (by rw [k3]; exact d2) hcy with h | h <;> omega
  exact fun x hx hk => (key x hx hk).1
theorem Tree.span_ne (t : Tree c l ss) {x : Seat} (hx : x ∈ ss) : x.s.empty = false := by
  rcases t.from hx with rfl | ⟨y, hy, h0, j, hj, rfl⟩
  · rfl
  · cases h : (Zb l y j).s.empty
    · rfl
    · exfalso
      have hz : (Zb l y j).s = Span.zero := by
        have := XN y.s (Zf y.n.pivots (j : Int))
        have e : (Zb l y j).s = (Zb l y j).s.norm := this.symm
        rw [e]; unfold Span.norm; rw [if_pos h]
      have sK := t.seat hx
      obtain ⟨⟨p1, p2⟩, _⟩ := sK.2.1
      rw [hz] at p1 p2
      exact absurd p2 (sK.1.2.2.1 p1).1
def CleanTo (ss : List Seat) (cur : Str) : Prop := ∀ x ∈ ss, x.s.lo.lt cur = true → x.n.msgs = []
theorem Zq1 (ss : List Seat) : CleanTo ss Str.nil := fun x _ h => by
  have : x.s.lo.lt Str.nil = false := Str.nil_le _
  rw [this] at h; cases h
theorem Zq2 {cur : Str} {N : Nat} {r : Int × Int × List Nd} (t : Tree c l ss) (hC : CleanTo ss cur) (hr : Yq c cur N l 0 0 = some r) (h1 : r.1 = 0) (h2 : r.2.1 = 0) :
    ∀ x ∈ ss, ((Zn l cur).s.opn = true ∨ x.s.lo.lt (Zn l cur).s.hi = true) → x.n.msgs = [] := fun x hx hh => by
  cases h3 : x.s.lo.lt cur
  · have hy := t.leafOk cur
    have hyl : (Zn l cur).s.has x.s.lo = true := by
      have h4 := (Yp.1 hy.has).1
      exact Yp.2 ⟨Str.le_trans h4 h3, hh⟩
    have e := t.leaf_eq hy.mem hyl hy.lvl
    have hxl := ZiI (t.span_ne hx)
    have h5 := ZjK t x.s.lo _ x hx rfl hxl cur (by rw [← e]; exact hy.has)
    exact Zq0 t hr h1 h2 x hx h5
  · exact hC x hx h3
theorem Zq3 (t : Tree c l ss) (h : ∀ x ∈ ss, x.n.msgs = []) : Xg l = true := ZqC fun j hj => by
  have hm : l[j] ∈ l := List.getElem_mem hj
  have := (t.perm.mem_iff).2 hm
  obtain ⟨x, hx, e⟩ := List.mem_map.1 this
  rw [← e, h x hx]; rfl
end
section
variable {c : Cfg} {l l' : List Nd} {ss : List Seat} {k cur : Str}
noncomputable def spL (l : List Nd) : List Span := (ZF ((Y4 l 0).getD [])).map fun x => x.s
theorem Tree.sp (t : Tree c l ss) : spL l = (ZF ss).map fun x => x.s := by unfold spL; rw [t.sts]; rfl
theorem Tree.sp_len (t : Tree c l ss) : (spL l).length ≤ 4096 := by
  rw [t.sp, List.length_map]
  have h1 : (ZF ss).length ≤ ss.length := List.length_filter_le _ _
  have h2 := t.len
  have h3 := t.sml.1
  omega
theorem ZjL {g : Seat → Seat} : ∀ {L : List Seat}, (∀ x ∈ L, (g x).n.level = x.n.level ∧ (g x).s = x.s) → (ZF (L.map g)).map (fun x => x.s) = (ZF L).map fun x => x.s
  | [], _ => rfl
  | x :: L, h => by
    have h1 := h x (by simp)
    have ih := ZjL (L := L) fun y hy => h y (List.mem_cons_of_mem _ hy)
    unfold ZF at ih ⊢
    rw [List.map_cons, List.filter_cons, List.filter_cons, h1.1]
    split
    · rw [List.map_cons, List.map_cons, h1.2, ih]
    · exact ih
theorem Zq4 (t : Tree c l ss) {a : Int} (ha : 0 ≤ a ∧ a < l.length) (k : Str) : l.length < (Zx c l a k).2.length ∨ ((Zx c l a k).2.length = l.length ∧ spL (Zx c l a k).2 = spL l) := by
  rcases Jn c (Za l a) k with h | h | ⟨h, _⟩
  · rw [Jk h]; exact .inr ⟨rfl, rfl⟩
  · by_cases h3 : (ZS c l).1 = 0
    · rw [Jl h h3]; exact .inl (ZjB h3)
    · rw [Jm h h3, ZfL h3]; exact .inr ⟨rfl, rfl⟩
  · obtain ⟨h0, hi⟩ := JU t ha h
    obtain ⟨P, s⟩ := JD t ha h0 hi
    rw [X4 h]
    generalize (ZB c (Za l a) k).2 = i at *
    rcases XU c (Za l a) (Zl l a i) i with hd | hd | ⟨hd, hd2⟩ | hd
    · rw [JC hd]; exact .inr ⟨rfl, rfl⟩
    · by_cases h3 : (ZP c l a i).1 = 0
      · rw [X5 hd h3]
        refine .inl ?_
        dsimp only
        unfold ZP at h3 ⊢
        split at h3
        · cases h3
        · rename_i h4
          rw [if_neg h4]
          unfold Xx at h3 ⊢
          split at h3
          · cases h3
          · rename_i h5
            rw [if_neg h5]
            split at h3
            · cases h3
            · rename_i h6
              rw [if_neg h6]
              split at h3
              · cases h3
              · rename_i h7
                rw [if_neg h7]
                split at h3
                · cases h3
                · rename_i h8
                  rw [if_neg h8]
                  unfold JS
                  simp
      · rw [X6 hd h3, ZfK h3]; exact .inr ⟨rfl, rfl⟩
    · rw [YR hd]
      obtain ⟨T, p⟩ := s.pour t hd2
      refine .inr ⟨p.len, ?_⟩
      dsimp only
      rw [p.tree.sp, t.sp]
      exact ZjL fun x hx => ⟨(p.g_same x hx).2.1, (p.g_same x hx).2.2.2.2.2⟩
    · rw [X7 hd]; exact .inr ⟨rfl, rfl⟩
theorem ZjM : ∀ (m : Nat) {l : List Nd} {ss : List Seat} {a n : Int} {r : Int × Int × List Nd}, Tree c l ss → 0 ≤ a ∧ a < l.length → Yq c k m l a n = some r → l.length < r.2.2.length ∨ (r.2.2.length = l.length ∧ spL r.2.2 = spL l)
  | 0, _, _, _, _, _, _, _, h => by cases h
  | m + 1, l, ss, a, n, r, t, ha, h => by
    obtain ⟨T, hT, _⟩ := Zaq t ha k
    have hnx := ZaM t ha k
    have hs := Zq4 t ha k
    have go : ∀ {n'}, Yq c k m (Zx c l a k).2 (Zx c l a k).1.2.1 n' = some r → l.length < r.2.2.length ∨ (r.2.2.length = l.length ∧ spL r.2.2 = spL l) := fun h9 => by
      rcases ZjM m hT hnx h9 with h1 | ⟨h1, h2⟩ <;> rcases hs with h3 | ⟨h3, h4⟩
      · exact .inl (by omega)
      · exact .inl (by omega)
      · exact .inl (by omega)
      · exact .inr ⟨by omega, h2.trans h4⟩
    by_cases h1 : (Zx c l a k).1.1 = 0
    · rw [Y7 h1] at h
      cases h
      exact hs
    · by_cases h2 : (Zx c l a k).1.1 = 5
      · rw [Jo h2] at h; exact go h
      · rw [Xh h1 h2] at h; exact go h
noncomputable def ZaI (l : List Nd) (cur : Str) : Nat := ((spL l).filter fun s => !s.opn && !cur.lt s.hi).length
noncomputable def ZbU (l : List Nd) (cur : Str) : Nat := ((spL l).filter fun s => !s.opn && cur.lt s.hi).length
theorem ZfT {α : Type} {p q : α → Bool} : ∀ {L : List α}, (∀ x ∈ L, p x = true → q x = true) → (∃ x ∈ L, q x = true ∧ p x = false) → (L.filter p).length < (L.filter q).length
  | [], _, h => by obtain ⟨x, hx, _⟩ := h; cases hx
  | a :: L, h, hx => by
    have hle : ∀ {M : List α}, (∀ x ∈ M, p x = true → q x = true) → (M.filter p).length ≤ (M.filter q).length := by
      intro M hM
      induction M with
      | nil => exact Nat.le_refl _
      | cons b M ih =>
        have h1 := ih fun x hx => hM x (List.mem_cons_of_mem _ hx)
        have h2 := hM b (by simp)
        rw [List.filter_cons, List.filter_cons]
        cases hp : p b
        · cases q b <;> simp <;> omega
        · rw [h2 hp]; simp; omega
    have hL : ∀ x ∈ L, p x = true → q x = true := fun x hx => h x (List.mem_cons_of_mem _ hx)
    rw [List.filter_cons, List.filter_cons]
    obtain ⟨x, hx, h1, h2⟩ := hx
    rcases List.mem_cons.1 hx with rfl | hx
    · rw [h1, h2]; have := hle hL; simp; omega
    · have ih := ZfT hL ⟨x, hx, h1, h2⟩
      cases hp : p a
      · cases q a <;> simp <;> omega
      · rw [h a (by simp) hp]; simp; omega
theorem ZjN (t : Tree c l ss) (k : Str) : (Zn l k).s ∈ spL l := by
  rw [t.sp]
  have h := t.leafOk k
  exact List.mem_map.2 ⟨_, List.mem_filter.2 ⟨h.mem, decide_eq_true h.lvl⟩, rfl⟩
theorem ZfU (t : Tree c l ss) (k : Str) (ho : (Zn l k).s.opn = false) : k.lt (Zn l k).s.hi = true := by
  rcases (Yp.1 (t.leafOk k).has).2 with h | h
  · rw [ho] at h; cases h
  · exact h
theorem Zq5 (t : Tree c l ss) (k : Str) (ho : (Zn l k).s.opn = false) : ZaI l k < ZaI l (Zn l k).s.hi := by
  have h1 := ZfU t k ho
  refine ZfT (fun s _ h => ?_) ⟨_, ZjN t k, ?_, ?_⟩
  · rw [Bool.and_eq_true] at h ⊢
    refine ⟨h.1, ?_⟩
    have h2 : k.lt s.hi = false := by simpa using h.2
    have h3 : (Zn l k).s.hi.lt s.hi = false := by
      cases h4 : (Zn l k).s.hi.lt s.hi
      · rfl
      · rw [Str.lt_trans h1 h4] at h2; cases h2
    rw [h3]; rfl
  · rw [ho, Str.lt_irrefl]; rfl
  · rw [ho, h1]; rfl
theorem Zq6 (t : Tree c l ss) (k : Str) (ho : (Zn l k).s.opn = false) : ZbU l (Zn l k).s.hi < ZbU l k := by
  have h1 := ZfU t k ho
  refine ZfT (fun s _ h => ?_) ⟨_, ZjN t k, ?_, ?_⟩
  · rw [Bool.and_eq_true] at h ⊢
    exact ⟨h.1, Str.lt_trans h1 h.2⟩
  · rw [ho, h1]; rfl
  · rw [ho, Str.lt_irrefl]; rfl
theorem ZjO (t : Tree c l ss) (k : Str) : ZaI l k ≤ 4096 := Nat.le_trans (List.length_filter_le _ _) t.sp_len
theorem ZjP (t : Tree c l ss) (k : Str) : ZbU l k ≤ 4096 := Nat.le_trans (List.length_filter_le _ _) t.sp_len
end
section
variable {c : Cfg} {l0 l : List Nd} {ss : List Seat} {k cur : Str} {did : Int}
theorem ZfV : ∀ (m : Nat) {l : List Nd} {a n : Int} {r : Int × Int × List Nd}, Yq c k m l a n = some r → Yq c k (m + 1) l a n = some r
  | 0, _, _, _, _, h => by cases h
  | m + 1, l, a, n, r, h => by
    by_cases h1 : (Zx c l a k).1.1 = 0
    · rw [Y7 h1] at h ⊢; exact h
    · by_cases h2 : (Zx c l a k).1.1 = 5
      · rw [Jo h2] at h ⊢; exact ZfV m h
      · rw [Xh h1 h2] at h ⊢; exact ZfV m h
theorem ZjQ {m n : Nat} (hmn : m ≤ n) {l : List Nd} {a b : Int} {r : Int × Int × List Nd} (h : Yq c k m l a b = some r) : Yq c k n l a b = some r := by
  obtain ⟨d, rfl⟩ : ∃ d, n = m + d := ⟨n - m, by omega⟩
  induction d with
  | zero => exact h
  | succ d ih => exact ZfV _ (ih (by omega))
theorem ZfW : ∀ (m : Nat) {l : List Nd} {a n : Int} {r : Int × Int × List Nd}, Yq c k m l a n = some r → r.1 ≤ n + m
  | 0, _, _, _, _, h => by cases h
  | m + 1, l, a, n, r, h => by
    by_cases h1 : (Zx c l a k).1.1 = 0
    · rw [Y7 h1] at h; cases h; dsimp only; omega
    · by_cases h2 : (Zx c l a k).1.1 = 5
      · rw [Jo h2] at h; have := ZfW m h; omega
      · rw [Xh h1 h2] at h; have := ZfW m h; omega
theorem Zq7 {N : Nat} {r : Int × Int × List Nd} (t : Tree c l ss) (h : Yq c k N l 0 0 = some r) : 0 ≤ r.1 ∧ r.1 ≤ 200000 := by
  obtain ⟨M, r', hM, hr'⟩ := ZfF t k
  have e : r = r' := by
    have h1 := ZjQ (Nat.le_max_left N M) h
    have h2 := ZjQ (Nat.le_max_right N M) hr'
    exact Option.some.inj (h1.symm.trans h2)
  subst e
  have := ZfW M hr'
  have := J5 M hr'
  omega
noncomputable def XT (l : List Nd) (cur : Str) : Str := if (Zn l cur).s.opn = true then Str.nil else (Zn l cur).s.hi
theorem ZfX (h : (Zn l cur).s.opn = true) : XT l cur = Str.nil := if_pos h
theorem ZdD (h : (Zn l cur).s.opn = false) : XT l cur = (Zn l cur).s.hi := if_neg (by rw [h]; simp)
theorem ZfY (t : Tree c l ss) (h : (Zn l cur).s.opn = false) : ¬ XT l cur = Str.nil := fun e => by
  have h1 := ZfU t cur h
  rw [← ZdD h, e, Str.nil_le] at h1
  cases h1
noncomputable def Za7 (l : List Nd) (cur : Str) : Int := if cur = Str.nil then 4097 else (ZaI l cur : Nat)
theorem Zq8 (l : List Nd) : Za7 l Str.nil = 4097 := if_pos rfl
theorem ZjR (h : ¬ cur = Str.nil) : Za7 l cur = (ZaI l cur : Nat) := if_neg h
theorem ZjS (l : List Nd) (cur : Str) : 0 ≤ Za7 l cur := by unfold Za7; split <;> omega
theorem ZjT (t : Tree c l ss) (cur : Str) : Za7 l cur ≤ 4097 := by
  have := ZjO t cur
  unfold Za7; split <;> omega
structure DrI (c : Cfg) (l0 l : List Nd) (cur : Str) (did : Int) : Prop where
  t : ∃ T, Tree c l T
  m : Zh l = Zh l0
  g : ∀ k, Grown k l0 → Grown k l
  d0 : 0 ≤ did
  db : did ≤ 200001 * ((l.length : Int) * 5000 + Za7 l cur + 1)
  cl : did = 0 → c.slots - (l.length : Int) < 2 ∨ ∀ ss, Tree c l ss → if cur = Str.nil then ∀ x ∈ ss, x.n.msgs = [] else CleanTo ss cur
noncomputable def muD (c : Cfg) (l : List Nd) (cur : Str) (did : Int) : Nat := muL c l * 20000 + (if did = 0 then 0 else 10000) + (if cur = Str.nil then 0 else 1 + ZbU l cur)
theorem Zq9 (t : Tree c l ss) (cur : Str) : DrI c l l cur 1 := ⟨⟨_, t⟩, rfl, fun _ h => h, by omega, by have := ZjS l cur; omega, fun h => absurd h (by decide)⟩
theorem ZjU (h : DrI c l0 l cur did) : did ≤ 4100000000000 := by
  obtain ⟨T, t⟩ := h.t
  have h1 := t.sml.1
  have h2 := ZjT t cur
  have h3 := h.db
  omega
theorem Zra (h : DrI c l0 l Str.nil 0) (hq : Xg l = false) : c.slots - (l.length : Int) < 2 := by
  obtain ⟨T, t⟩ := h.t
  rcases h.cl rfl with h1 | h1
  · exact h1
  · have h2 := h1 T t
    rw [if_pos rfl] at h2
    rw [Zq3 t h2] at hq
    cases hq
theorem ZjV {N : Nat} {r : Int × Int × List Nd} (h : DrI c l0 l cur did) (hc : cur = Str.nil → ¬ did = 0) (hr : Yq c cur N l 0 0 = some r) :
    DrI c l0 r.2.2 (XT r.2.2 cur) ((if cur = Str.nil then 0 else did) + r.1) ∧ muD c r.2.2 (XT r.2.2 cur) ((if cur = Str.nil then 0 else did) + r.1) < muD c l cur did := by
  obtain ⟨T, t⟩ := h.t
  have ha : (0 : Int) ≤ 0 ∧ (0 : Int) < l.length := ⟨Int.le_refl _, by have := t.pos; omega⟩
  obtain ⟨T2, t2, hm2⟩ := Zb0 N t ha hr
  obtain ⟨n0, n1⟩ := Zq7 t hr
  have hmu := ZdB N t ha hr
  have her := ZcE N t ha hr
  have hsp := ZjM N t ha hr
  have hd0 := h.d0
  have hdb := h.db
  have hpq := ZjS r.2.2 (XT r.2.2 cur)
  have hp1 := ZjT t cur
  have hrg := ZjP t2 (XT r.2.2 cur)
  generalize hd : (if cur = Str.nil then (0 : Int) else did) = d0 at *
  have hd1 : 0 ≤ d0 := by rw [← hd]; split <;> omega
  refine ⟨⟨⟨T2, t2⟩, hm2.trans h.m, fun q hq => (h.g q hq).cyc t hr, by omega, ?_, fun hz => ?_⟩, ?_⟩
  · -- the bound
    by_cases hn : cur = Str.nil
    · rw [if_pos hn] at hd; omega
    · rw [if_neg hn] at hd
      rw [ZjR hn] at hdb hp1
      rcases hsp with h1 | ⟨h1, h2⟩
      · omega
      · cases ho : (Zn r.2.2 cur).s.opn
        · have h3 := Zq5 t2 cur ho
          have e : ZaI r.2.2 cur = ZaI l cur := by unfold ZaI; rw [h2]
          rw [ZjR (ZfY t2 ho), ZdD ho]
          rw [e] at h3
          omega
        · have h4 := ZjO t cur
          rw [ZfX ho, Zq8]; omega
  · -- nothing was done
    have hz1 : r.1 = 0 := by omega
    have hz0 : d0 = 0 := by omega
    have el : r.2.2 = l := hmu.2 (by omega)
    rcases her with h1 | ⟨_, h1⟩
    · have hC : ∀ ss, Tree c l ss → c.slots - (l.length : Int) < 2 ∨ CleanTo ss cur := fun S tS => by
        by_cases hn : cur = Str.nil
        · rw [hn]; exact .inr (Zq1 S)
        · rw [if_neg hn] at hd
          rcases h.cl (by omega) with h2 | h2
          · exact .inl h2
          · have := h2 S tS
            rw [if_neg hn] at this
            exact .inr this
      rw [el] at *
      rcases hC T t with h2 | h2
      · exact .inl h2
      · refine .inr fun S tS => ?_
        have eS : S = T := Option.some.inj (tS.sts.symm.trans t.sts)
        subst eS
        have hs := Zq2 t h2 hr hz1 h1
        cases ho : (Zn l cur).s.opn
        · rw [if_neg (ZfY t ho), ZdD ho]
          exact fun x hx hl => hs x hx (.inr hl)
        · rw [if_pos (ZfX ho)]
          exact fun x hx => hs x hx (.inl ho)
    · exact .inl h1
  · -- the measure
    unfold muD
    by_cases hp : 0 < r.1
    · have h1 := hmu.1 hp
      have h2 : (if d0 + r.1 = 0 then 0 else 10000 : Nat) ≤ 10000 := by split <;> omega
      have h3 : (if XT r.2.2 cur = Str.nil then 0 else 1 + ZbU r.2.2 (XT r.2.2 cur) : Nat) ≤ 4097 := by split <;> omega
      omega
    · have hz1 : r.1 = 0 := by omega
      have el : r.2.2 = l := hmu.2 (by omega)
      rw [el] at *
      rw [hz1, Int.add_zero]
      by_cases hn : cur = Str.nil
      · rw [if_pos hn] at hd
        have h5 := hc hn
        rw [← hd, if_pos rfl, if_neg h5]
        have h6 := ZjP t (XT l cur)
        have h3 : (if XT l cur = Str.nil then 0 else 1 + ZbU l (XT l cur) : Nat) ≤ 4097 := by split <;> omega
        omega
      · rw [if_neg hn] at hd
        rw [← hd, if_neg hn]
        cases ho : (Zn l cur).s.opn
        · rw [if_neg (ZfY t ho), ZdD ho]
          have := Zq6 t cur ho
          omega
        · rw [if_pos (ZfX ho)]; omega
structure DrP (c : Cfg) (l : List Nd) (e : Int) (l' : List Nd) : Prop where
  t : ∃ T, Tree c l' T
  m : Zh l' = Zh l
  g : ∀ k, Grown k l → Grown k l'
  r : (e = 0 ∧ Xg l' = true) ∨ (e = 4 ∧ Xg l' = false ∧ c.slots - (l'.length : Int) < 2)
theorem Zrb (h : DrI c l0 l cur did) (hq : Xg l = true) : DrP c l0 0 l := ⟨h.t, h.m, h.g, .inl ⟨rfl, hq⟩⟩
theorem Zrc (h : DrI c l0 l cur did) (hc : cur = Str.nil) (hd : did = 0) (hq : Xg l = false) : DrP c l0 4 l := ⟨h.t, h.m, h.g, .inr ⟨rfl, hq, by subst hc hd; exact Zra h hq⟩⟩
end
end Go.Fw
namespace Go.Proofs.YtbbemibbmbmamaaGreat
open Go Go.Fw Go.RowKit
attribute [local irreducible] Ok W WC
theorem Zrd {G : GH} {b_t b_s : Nat} {c : Cfg} {l : List Nd} {ss : List Seat} {cur : Str} {Ms_t : MH} (h_t : BtR 60 4 3 189 139 79 b_t b_s c G (l, cur) Ms_t) (t : Tree c l ss) :
    Fc Tryz.prog 16 [pt9 b_t] G Ms_t (fun v G' M' => ∃ e l' cur', v = iV e ∧ DrP c l e l' ∧ BtR 60 4 3 189 139 79 b_t b_s c G' (l', cur') M') := by
 refine Fc.go [.tmp 2] Tryz.func16 Tryz.ntmps16 rfl (fun w0 => (WC.perm (M' := (Ms_t ++ [])) (by simp) (g9 9 ?_)))
 refine W.ok (Xa Za1 rfl rfl) (g9 12 ?_)
 refine WC.loop (X := ((List Nd × Str) × Int) × MH) (fun x => [(3, iV x.1.2), (0, pt9 b_t)]) (fun x G Ml => Ml = (x.2 ++ []) ∧ BtR 60 4 3 189 139 79 b_t b_s c G (x.1.1) x.2 ∧ DrI c l x.1.1.1 x.1.1.2 x.1.2) (fun x => muD c x.1.1.1 x.1.1.2 x.1.2) ((((l, cur), 1) : (List Nd × Str) × Int), Ms_t) hs9 ?_ ?_
 ·exact ⟨rfl, (by exact h_t), Zq9 t cur⟩
 rintro ⟨⟨⟨L, cu⟩, d⟩, M_0⟩ gG1 G1 _ hG1 ⟨rfl, ho_0, hI⟩
 try dsimp only at ho_0 hI
 obtain ⟨T8, t9⟩ := hI.t
 refine WC.fr (f := ZX gG1 [(3, iV d), (0, pt9 b_t)]) rfl (g9 4 ?_)
 refine W.call (Mp := M_0) (ZfS ho_0 t9) rfl pr9 ?_
 intro v5 G2 Ms4 hG2 q3
 refine match q3 with | ⟨e_7, eeq3⟩ => ?_
 subst e_7
 have eeq3 := eeq3.symm
 subst eeq3
 refine g9 3 ?_
 refine WC.cond rfl (fun h10 => ?_) (fun h10 => ?_)
 ·have hq9 : Xg L = false := by simpa using h10
  refine g9 5 ?_
  obtain ⟨Msbt8, eMbt8, hBbt8⟩ := (BtR.mono hG2 ho_0)
  subst eMbt8
  have hSbt8 : StR 60 4 3 189 139 b_s c G2 L Msbt8 := hBbt8
  refine WC.perm (M' := ((b_t, ce9 79 [pt9 b_s, sV cu.b]) :: (Msbt8 ++ []))) pr9.symm (g9 8 ?_)
  refine WC.cd (fun h15 p15 => ?_) (fun h15 p15 => ?_)
  ·try dsimp only at p15
   refine g9 7 ?_
   refine WC.cd (fun h17 p17 => ?_) (fun h17 p17 => ?_)
   ·try dsimp only at p17
    refine g9 5 ?_
    have hB9 : BtR 60 4 3 189 139 79 b_t b_s c G2 (L, cu) ((b_t, ce9 79 [pt9 b_s, sV cu.b]) :: Msbt8) := ⟨_, rfl, hSbt8⟩
    refine WC.perm (M' := (((b_t, ce9 79 [pt9 b_s, sV cu.b]) :: Msbt8) ++ [])) (pr9.symm.trans ((pr9.cons _).trans pr9)) (g9 7 ?_)
    refine ⟨.inr rfl, [_], ⟨rfl, trivial⟩, ((b_t, ce9 79 [pt9 b_s, sV cu.b]) :: Msbt8), List.sublist_append_left _ _, ?_⟩
    exact ⟨4, L, _, rfl, Zrc hI (Str.ext' p15) p17 hq9, hB9⟩
   try dsimp only at p17
   refine g9 7 ?_
   have hB10 : BtR 60 4 3 189 139 79 b_t b_s c G2 (L, cu) ((b_t, ce9 79 [pt9 b_s, sV cu.b]) :: Msbt8) := ⟨_, rfl, hSbt8⟩
   refine WC.perm (M' := (((b_t, ce9 79 [pt9 b_s, sV cu.b]) :: Msbt8) ++ [])) (pr9.symm.trans ((pr9.cons _).trans pr9)) (g9 2 ?_)
   refine W.call (Mp := ((b_t, ce9 79 [pt9 b_s, sV cu.b]) :: Msbt8)) (ZfP hB10 t9) rfl pr9 ?_
   intro v14 G11 Ms13 hG11 q12
   refine match q12 with | ⟨N9, r9, hr9, e_16, hR15⟩ => ?_
   subst e_16
   have hst9 := ZjV hI (fun _ => p17) hr9
   rw [if_pos (Str.ext' p15)] at hst9
   have hbd9 := ZjU hst9.1
   have hbe9 := hst9.1.d0
   refine g9 15 ?_
   exact ⟨lec, ((((r9.2.2, XT r9.2.2 cu), 0 + r9.1) : (List Nd × Str) × Int), Ms13), hs9, ⟨rfl, (by exact hR15), hst9.1⟩, hst9.2⟩
  try dsimp only at p15
  refine g9 3 ?_
  have hB17 : BtR 60 4 3 189 139 79 b_t b_s c G2 (L, cu) ((b_t, ce9 79 [pt9 b_s, sV cu.b]) :: Msbt8) := ⟨_, rfl, hSbt8⟩
  refine WC.perm (M' := (((b_t, ce9 79 [pt9 b_s, sV cu.b]) :: Msbt8) ++ [])) (pr9.symm.trans ((pr9.cons _).trans pr9)) (g9 2 ?_)
  refine W.call (Mp := ((b_t, ce9 79 [pt9 b_s, sV cu.b]) :: Msbt8)) (ZfP hB17 t9) rfl pr9 ?_
  intro v21 G18 Ms20 hG18 q19
  refine match q19 with | ⟨N9, r9, hr9, e_23, hR22⟩ => ?_
  subst e_23
  have hcu : ¬ cu = Str.nil := fun e => p15 (by rw [e]; rfl)
  have hst9 := ZjV hI (fun e => absurd e hcu) hr9
  rw [if_neg hcu] at hst9
  have hbd9 := ZjU hst9.1
  have hbe9 := hst9.1.d0
  refine g9 15 ?_
  exact ⟨lec, ((((r9.2.2, XT r9.2.2 cu), d + r9.1) : (List Nd × Str) × Int), Ms20), hs9, ⟨rfl, (by exact hR22), hst9.1⟩, hst9.2⟩
 have hq9 : Xg L = true := by simpa using h10
 refine g9 11 ?_
 refine ⟨.inr rfl, [_], ⟨rfl, trivial⟩, M_0, List.sublist_append_left _ _, ?_⟩
 exact ⟨0, L, _, rfl, Zrb hI hq9, (BtR.mono hG2 ho_0)⟩

end Go.Proofs.YtbbemibbmbmamaaGreat
namespace Go.Fw
open Go Go.RowKit
def Ji : Str := ⟨⟨#[97]⟩, by decide⟩
def ZcG : Str := ⟨⟨#[98]⟩, by decide⟩
def ZcH : Str := ⟨⟨#[49]⟩, by decide⟩
def ZjW : Str := ⟨⟨#[50]⟩, by decide⟩
def ZcI : Str := ⟨⟨#[51]⟩, by decide⟩
def ZbV : Str := ⟨⟨#[49, 50]⟩, by decide⟩
def C32 : Cfg := ⟨4, 2, 36, 9, 0⟩
theorem ZjX : CfgR C32 := by decide
def ZdE : Opr := ⟨1, Ji, Str.nil, false, ZcH, 0⟩
def ZdF : Opr := ⟨2, Ji, Str.nil, false, ZjW, 0⟩
def Zre : Opr := ⟨5, Ji, Str.nil, false, Str.nil, 0⟩
def ZdG : Opr := ⟨4, Str.nil, Str.nil, true, Str.nil, 0⟩
def ZdH : Opr := ⟨1, ZcG, Str.nil, false, ZcI, 0⟩
theorem Zrf : ZdE.R := by decide +kernel
theorem Zrg : ZdF.R := by decide +kernel
theorem Zrh : ZdG.R := by decide +kernel
theorem Zri : ZdH.R := by decide +kernel
def ZdI : List Nd := (Zv C32 [XE 0] ZdE).2.2
def ZcJ : List Nd := (Zv C32 ZdI ZdF).2.2
def ZdJ : List Nd := (Zv C32 ZcJ ZdG).2.2
def ZfZ : List Nd := (Zv C32 ZdJ ZdH).2.2
theorem Zrj : (Zv C32 [XE 0] ZdE).2.1 = 0 := by decide +kernel
theorem Zrk : (Zv C32 ZdI ZdF).2.1 = 0 := by decide +kernel
theorem Zrl : (Zv C32 ZcJ ZdG).2.1 = 0 := by decide +kernel
theorem Zrm : (Zv C32 ZdJ ZdH).2.1 = 0 := by decide +kernel
theorem q32 : Xg ZfZ = true := by decide +kernel
theorem Zrn : (doN [] ZdE).1 = [⟨Ji, ZcH⟩] := by decide +kernel
theorem Zro : (doN [⟨Ji, ZcH⟩] ZdF).1 = [⟨Ji, ZbV⟩] := by decide +kernel
theorem Zrp : (doN [⟨Ji, ZbV⟩] Zre).2 = ⟨0, true, ZbV, []⟩ := by decide +kernel
theorem Zrq : (doN [⟨Ji, ZbV⟩] ZdG).1 = [] := by decide +kernel
theorem Zrr : (doN [] ZdH).1 = [⟨ZcG, ZcI⟩] := by decide +kernel
end Go.Fw
namespace Go.Proofs.YtbbemibbmbmamaaGreat
open Go Go.Fw Go.RowKit
attribute [local irreducible] Ok W WC
theorem Zrs {G : GH} {b_t b_s : Nat} {c : Cfg} {l : List Nd} {ss : List Seat} {cur : Str} {Ms_t : MH} (h_t : BtR 60 4 3 189 139 79 b_t b_s c G (l, cur) Ms_t) (t : Tree c l ss) (hq : Xg l = true) :
    Fc Tryz.prog 16 [pt9 b_t] G Ms_t (fun v G' M' => v = iV 0 ∧ BtR 60 4 3 189 139 79 b_t b_s c G' (l, cur) M') := by
 refine Fc.go [.tmp 2] Tryz.func16 Tryz.ntmps16 rfl (fun w0 => (WC.perm (M' := (Ms_t ++ [])) (by simp) (g9 9 ?_)))
 refine W.ok (Xa Za1 rfl rfl) (g9 12 ?_)
 refine WC.loop (X := (Nat) × MH) (fun k => [(3, iV 1), (0, pt9 b_t)]) (fun k G Ml => Ml = (k.2 ++ []) ∧ BtR 60 4 3 189 139 79 b_t b_s c G ((l, cur)) k.2 ∧ True) (fun k => 0) (0, Ms_t) hs9 ?_ ?_
 ·exact ⟨rfl, (by exact h_t), trivial⟩
 rintro ⟨k, M_0⟩ gG1 G1 _ hG1 ⟨rfl, ho_0, _⟩
 try dsimp only at ho_0 _
 refine WC.fr (f := ZX gG1 [(3, iV 1), (0, pt9 b_t)]) rfl (g9 4 ?_)
 refine W.call (Mp := M_0) (ZfS ho_0 t) rfl pr9 ?_
 intro v5 G2 Ms4 hG2 q3
 refine match q3 with | ⟨e_7, eeq3⟩ => ?_
 subst e_7
 have eeq3 := eeq3.symm
 subst eeq3
 refine g9 3 ?_
 refine WC.cond rfl (fun h10 => ?_) (fun h10 => ?_)
 ·rw [hq] at h10; cases h10
 refine g9 11 ?_
 refine ⟨.inr rfl, [_], ⟨rfl, trivial⟩, M_0, List.sublist_append_left _ _, ?_⟩
 exact ⟨rfl, (BtR.mono hG2 ho_0)⟩

theorem ZbW {G : GH}  :
    Fc Tryz.prog 9 [] G [] (fun v _ _ => v = .bool (true)) := by
 refine Fc.go [.tmp 0] Tryz.func9 Tryz.ntmps9 rfl (fun w0 => (g9 7 ?_))
 refine W.ok (ZD (L := [iV _, iV _, iV _, iV _, iV _]) ZnT Zh3 rfl rfl rfl) (W.call (Mp := []) (ZjG 4 2 36 9 0) rfl pr9 ?_)
 intro v11 G8 Ms10 hG8 q9
 have hN9 := Or.resolve_left q9 (fun h => h.1 ZjX)
 refine match hN9 with | ⟨hC, b_t, b_s, e_12, hB9⟩ => ?_
 subst e_12
 have t0 := ZjI ZjX
 have hg0 := ZjJ
 refine g9 10 ?_
 refine W.ok (ZD (L := [iV _, sV _, sV _, .bool _, sV _, iV _]) Zcu Zct rfl rfl rfl) (W.call (Mp := Ms10) (ZbT hB9 t0 1 Ji Str.nil false ZcH 0 (0 : Int) hg0 (by decide)) rfl pr9 ?_)
 intro v16 G13 Ms15 hG13 q14
 refine match q14 with | ⟨a1, l1, hD1, ⟨cs_a1, e_18, _, _, e_19, hw_a1, hok_a1⟩, hR17⟩ => ?_
 subst e_18
 subst e_19
 have eLA1 := hD1.x Zrf (by decide) Zrj
 have eL1 : l1 = ZdI := eLA1.1
 have eA1 := eLA1.2
 subst eA1
 subst eL1
 have hg1 := hD1.g
 have q20 := hD1.t
 refine match q20 with | ⟨T1, t1⟩ => ?_
 have hm1 : Zh ZdI = [⟨Ji, ZcH⟩] := (hD1.fine (by decide)).2.trans (by rw [ZqX]; exact Zrn)
 refine g9 5 ?_
 refine W.ok (ZD (L := [iV _, sV _, sV _, .bool _, sV _, iV _]) Zcu Zct rfl rfl rfl) (W.call (Mp := Ms15) (ZbT hR17 t1 2 Ji Str.nil false ZjW 0 (1 : Int) hg1 (by decide)) rfl pr9 ?_)
 intro v24 G21 Ms23 hG21 q22
 refine match q22 with | ⟨a2, l2, hD2, ⟨cs_a2, e_26, _, _, e_27, hw_a2, hok_a2⟩, hR25⟩ => ?_
 subst e_26
 subst e_27
 have eLA2 := hD2.x Zrg (by decide) Zrk
 have eL2 : l2 = ZcJ := eLA2.1
 have eA2 := eLA2.2
 subst eA2
 subst eL2
 have hg2 := hD2.g
 have q28 := hD2.t
 refine match q28 with | ⟨T2, t2⟩ => ?_
 have hm2 : Zh ZcJ = [⟨Ji, ZbV⟩] := (hD2.fine (by decide)).2.trans (by rw [hm1]; exact Zro)
 refine g9 5 ?_
 refine W.ok (ZD (L := [iV _, sV _, sV _, .bool _, sV _, iV _]) Zcu Zct rfl rfl rfl) (W.call (Mp := Ms23) (ZbT hR25 t2 5 Ji Str.nil false Str.nil 0 (2 : Int) hg2 (by decide)) rfl pr9 ?_)
 intro v32 G29 Ms31 hG29 q30
 refine match q30 with | ⟨a3, l3, hD3, ⟨cs_a3, e_34, _, _, e_35, hw_a3, hok_a3⟩, hR33⟩ => ?_
 subst e_34
 subst e_35
 have hf3 : ¬ a3.err = 4 := fun e => absurd (hD3.full e).2.2.1 (by decide)
 have eL3 : l3 = ZcJ := hD3.z (by decide)
 have eA3 : a3 = ⟨0, true, ZbV, []⟩ := (hD3.fine hf3).1.trans (by rw [hm2]; exact Zrp)
 subst eA3
 subst eL3
 have hg3 := hD3.g
 have q36 := hD3.t
 refine match q36 with | ⟨T3, t3⟩ => ?_
 have hm3 := hm2
 refine W.alloc Ze1 (fun b37 => (g9 6 ?_))
 refine W.ok (ZD (L := [iV _, sV _, sV _, .bool _, sV _, iV _]) Zcu Zct rfl rfl rfl) (W.call (Mp := Ms31) (ZbT hR33 t3 4 Str.nil Str.nil true Str.nil 0 (3 : Int) hg3 (by decide)) rfl (pmC pr9) ?_)
 intro v41 G38 Ms40 hG38 q39
 refine match q39 with | ⟨a4, l4, hD4, ⟨cs_a4, e_43, _, _, e_44, hw_a4, hok_a4⟩, hR42⟩ => ?_
 subst e_43
 subst e_44
 refine W.perm (pmC pr9).symm ?_
 have eLA4 := hD4.x Zrh (by decide) Zrl
 have eL4 : l4 = ZdJ := eLA4.1
 have eA4 := eLA4.2
 subst eA4
 subst eL4
 have hg4 := hD4.g
 have q45 := hD4.t
 refine match q45 with | ⟨T4, t4⟩ => ?_
 have hm4 : Zh ZdJ = [] := (hD4.fine (by decide)).2.trans (by rw [hm3]; exact Zrq)
 refine g9 5 ?_
 refine W.ok (ZD (L := [iV _, sV _, sV _, .bool _, sV _, iV _]) Zcu Zct rfl rfl rfl) (W.call (Mp := Ms40) (ZbT hR42 t4 1 ZcG Str.nil false ZcI 0 (4 : Int) hg4 (by decide)) rfl (pmC pr9) ?_)
 intro v49 G46 Ms48 hG46 q47
 refine match q47 with | ⟨a5, l5, hD5, ⟨cs_a5, e_51, _, _, e_52, hw_a5, hok_a5⟩, hR50⟩ => ?_
 subst e_51
 subst e_52
 refine W.perm (pmC pr9).symm ?_
 have eLA5 := hD5.x Zri (by decide) Zrm
 have eL5 : l5 = ZfZ := eLA5.1
 have eA5 := eLA5.2
 subst eA5
 subst eL5
 have hg5 := hD5.g
 have q53 := hD5.t
 refine match q53 with | ⟨T5, t5⟩ => ?_
 have hm5 : Zh ZfZ = [⟨ZcG, ZcI⟩] := (hD5.fine (by decide)).2.trans (by rw [hm4]; exact Zrr)
 refine g9 21 ?_
 refine W.sd 35 (fun h33 p33 => ?_) (fun h33 p33 => ?_)
 ·try dsimp only at p33
  refine g9 3 ?_
  refine W.call (Mp := Ms48) (ZfR hR50 t5) rfl (pmC pr9) ?_
  intro v57 G54 Ms56 hG54 q55
  refine match q55 with | ⟨hR58, eeq55⟩ => ?_
  have eeq55 := eeq55.symm
  subst eeq55
  refine W.perm (pmC pr9).symm ?_
  have q60 := hR58.form
  refine match q60 with | ⟨sa_hR58, sc_hR58, e_59⟩ => ?_
  subst e_59
  refine g9 1 ?_
  refine W.ok (ZD (L := [sV _, sV _]) Zh5 Xd rfl rfl rfl) (g9 1 ?_)
  refine W.lit (e := Zs) (l := [⟨ZcG, ZcI⟩]) (css := [[sV _, sV _]]) ZI ZJ Xd rfl rfl rfl rfl rfl rfl ⟨rfl, trivial⟩ (fun bl61 G61 hG61 hv61 => (g9 1 ?_))
  refine W.qcall ((Zdj (hR58.mono hG61) hv61).mono (fun v _ _ _ hv => hv.trans (congrArg Value.bool (decide_eq_true hm5)))) rfl (g9 5 ?_)
  refine W.call (Mp := Ms48) (Zrs (BtR.mono lec hR50) t5 q32) rfl (pmC pr9) ?_
  intro v65 G62 Ms64 hG62 q63
  refine match q63 with | ⟨e_67, hR66⟩ => ?_
  subst e_67
  refine W.perm (pmC pr9).symm (g9 8 ?_)
  rfl
 try dsimp only at p33
 exact absurd rfl p33

end Go.Proofs.YtbbemibbmbmamaaGreat
namespace Go.Fw
open Go Go.RowKit
section
variable {c : Cfg} {l : List Nd} {ss : List Seat}
def Zak (T : List Seat) : List Pair := T.flatMap fun x => x.n.rows
theorem Zf0 {T : List Seat} {k : Nat} (hk : k < T.length) : Zak (T.take (k + 1)) = Zak (T.take k) ++ T[k].n.rows := by
  unfold Zak
  rw [List.take_succ_eq_append_getElem hk, List.flatMap_append]
  simp
theorem Tree.norows (t : Tree c l ss) {x : Seat} (hx : x ∈ ss) (h0 : ¬ x.n.level = 0) : x.n.rows = [] := List.eq_nil_of_length_eq_zero (t.inner hx h0).1.1
theorem Zrt (t : Tree c l ss) (h : Xg l = true) : ∀ x ∈ ss, x.n.msgs = [] := fun x hx => by
  have h1 := List.all_eq_true.1 h x.n (t.nd hx).2.2
  unfold isM at h1
  cases hm : x.n.msgs with
  | nil => rfl
  | cons m L =>
    rw [hm] at h1
    rw [decide_eq_true (by simp)] at h1
    cases h1
theorem Zru (t : Tree c l ss) (h : Xg l = true) : ∀ x ∈ ss, x.ms = [] := t.ind rfl fun x hx h0 hm j hj => by
  have hk := (t.kid_ms hx (t.rst x hx) j).1
  rw [hk, Zrt t h x hx, hm]; rfl
theorem ZjY (t : Tree c l ss) (h : Xg l = true) : Zak ss = Zh l := by
  rw [Js t.sts]
  have key : ∀ T : List Seat, (∀ x ∈ T, x ∈ ss) → Zak T = (ZF T).flatMap YD := by
    intro T
    induction T with
    | nil => intro _; rfl
    | cons x T ih =>
      intro hT
      have hx := hT x (by simp)
      have i := ih fun y hy => hT y (List.mem_cons_of_mem _ hy)
      unfold Zak ZF at i ⊢
      rw [List.flatMap_cons, List.filter_cons, i]
      by_cases h0 : x.n.level = 0
      · rw [if_pos (decide_eq_true h0), List.flatMap_cons]
        congr 1
        rw [t.view hx, Zru t h x hx]
        refine (List.filter_eq_self.2 fun p hp => ?_).symm
        obtain ⟨j, hj, rfl⟩ := List.getElem_of_mem hp
        exact (t.seat hx).2.1.2.1 j hj
      · rw [if_neg (by simpa using h0), t.norows hx h0]; rfl
  exact key ss fun x hx => hx
theorem ZjZ (t : Tree c l ss) (k : Nat) : (Zak (ss.take k)).length ≤ 64 * k := by
  induction k with
  | zero => exact Nat.le_refl _
  | succ k ih =>
    by_cases hk : k < ss.length
    · rw [Zf0 hk, List.length_append]
      have := t.rows_len (List.getElem_mem hk)
      omega
    · rw [List.take_of_length_le (by omega)] at ih ⊢
      omega
end
end Go.Fw
namespace Go.Proofs.YtbbemibbmbmamaaGreat
open Go Go.Fw Go.RowKit
attribute [local irreducible] Ok W WC
theorem Zrv {G : GH} (cfan : Int) (cleaf : Int) (cbud : Int) (cslots : Int) (crest : Int) {v_l : Value} {l : List Act32} (h_l : SlR ZfQ G v_l l) :
    Fc Tryz.prog 4 [.agg #[iV cfan, iV cleaf, iV cbud, iV cslots, iV crest], v_l] G [] (fun v _ _ => v = .bool (true)) := by
 obtain ⟨sa_l, sc_l, rfl⟩ := h_l.form
 have hl := h_l.len47
 refine Fc.go [.tmp 4] Tryz.func4 Tryz.ntmps4 rfl (fun w0 => (g9 2 ?_))
 refine W.box (L := [iV _, iV _, iV _, iV _, iV _]) rfl rfl (fun b1 => (g9 7 ?_))
 refine W.call (Mp := []) (ZqU h_l) rfl pr9 ?_
 intro v5 G2 Ms4 hG2 q3
 refine match q3 with | ⟨⟨rf9, e_6, hfew⟩, e_7⟩ => ?_
 subst e_6
 subst e_7
 refine g9 3 ?_
 refine WC.cond rfl (fun h19 => ?_) (fun h19 => ?_)
 ·refine g9 2 ?_
  refine W.qcall (ZbW) rfl (g9 6 ?_)
  rfl
 have hfw : FewR l := hfew (by simpa using h19)
 obtain ⟨hfl, hfo, hff⟩ := hfw
 refine g9 5 ?_
 refine W.call (Mp := []) (ZjG cfan cleaf cbud cslots crest) rfl pr9 ?_
 intro v11 G8 Ms10 hG8 q9
 refine Or.elim q9 (fun q12 => ?_) (fun q13 => ?_)
 ·refine match q12 with | ⟨hnc, e_14, e_15⟩ => ?_
  subst e_14
  subst e_15
  refine g9 17 ?_
  refine W.qcall (ZbW) rfl (g9 6 ?_)
  rfl
 refine match q13 with | ⟨hC, b_t, b_s, e_16, hB9⟩ => ?_
 subst e_16
 refine W.perm (pmC pr9).symm (g9 26 ?_)
 refine WC.loop (X := (Nat × (List Nd × Str)) × MH) (fun x => [(31, nt9 x.1.1), (2, pt9 b1), (29, lV sa_l l.length sc_l), (30, nt9 ((l).length)), (5, pt9 b_t)]) (fun x G Ml => Ml = ((b1, ce9 23 [iV cfan, iV cleaf, iV cbud, iV cslots, iV crest]) :: (x.2 ++ [])) ∧ BtR 60 4 3 189 139 79 b_t b_s (⟨cfan, cleaf, cbud, cslots, crest⟩ : Cfg) G (x.1.2) x.2 ∧ x.1.1 ≤ l.length ∧ (∃ T, Tree (⟨cfan, cleaf, cbud, cslots, crest⟩ : Cfg) x.1.2.1 T) ∧ Grown (x.1.1 : Int) x.1.2.1) (fun x => l.length - x.1.1) (((0, ([XE 0], Str.nil)) : Nat × (List Nd × Str)), Ms10) hs9 ?_ ?_
 ·exact ⟨rfl, (by exact hB9), Nat.zero_le _, ⟨_, ZjI hC⟩, ZjJ⟩
 rintro ⟨⟨k, ⟨L, cu⟩⟩, M_5⟩ gG17 G17 _ hG17 ⟨rfl, ho_5, hk, hTr, hg⟩
 try dsimp only at ho_5 hk hTr hg
 obtain ⟨T8, t9⟩ := hTr
 have hcs : 1 ≤ cslots ∧ cslots ≤ 4096 := hC.2.2.2.1
 refine WC.fr (f := ZX gG17 [(31, nt9 k), (2, pt9 b1), (29, lV sa_l l.length sc_l), (30, nt9 ((l).length)), (5, pt9 b_t)]) rfl (g9 6 ?_)
 refine WC.cd (fun h32 p32 => ?_) (fun h32 p32 => ?_)
 ·try dsimp only at p32
  have hfk := (hfo _ (List.getElem_mem (by omega : k < l.length))).2.2.2
  refine g9 6 ?_
  have q22 := (h_l.mono ((hG2.trans hG8).trans hG17)).at (i := (k)) om9
  refine match q22 with | ⟨_, he18, ⟨e_21, ho_hm19, hf_hm19⟩⟩ => ?_
  subst e_21
  refine W.ok (Z1 (i := (k)) Zde Zh4 (h_l.mono lec) rfl rfl ⟨om9, om9⟩) (g9 1 ?_)
  refine W.alloc ZnC (fun b23 => (g9 8 ?_))
  refine W.call (Mp := M_5) (ZbT ho_5 t9 l[k].o.kind l[k].o.key l[k].o.hi l[k].o.opn l[k].o.val l[k].o.lim (k : Int) hg om9) rfl (pmC (pmC pr9)) ?_
  intro v27 G24 Ms26 hG24 q25
  refine match q25 with | ⟨a9, l9, hD9, ⟨cs_a9, e_29, _, _, e_30, hw_a9, hok_a9⟩, hR28⟩ => ?_
  subst e_29
  subst e_30
  refine W.perm (pmC (pmC pr9)).symm ?_
  obtain ⟨T9, t10⟩ := hD9.t
  have hsl10 := t10.sml.1
  refine g9 10 ?_
  refine WC.loop (X := (Nat × (List Nd × Str)) × MH) (fun y => [(41, nt9 y.1.1), (2, pt9 b1), (29, lV sa_l l.length sc_l), (30, nt9 ((l).length)), (31, nt9 k), (40, iV ((l)[((k))]).fl), (5, pt9 b_t)]) (fun y G Ml => Ml = ((b23, ce9 36 [iV ((l)[((k))]).o.kind, sV ((l)[((k))]).o.key.b, sV ((l)[((k))]).o.hi.b, .bool ((l)[((k))]).o.opn, sV ((l)[((k))]).o.val.b, iV ((l)[((k))]).o.lim, iV ((l)[((k))]).fl]) :: ((b1, ce9 23 [iV cfan, iV cleaf, iV cbud, iV cslots, iV crest]) :: (y.2 ++ []))) ∧ BtR 60 4 3 189 139 79 b_t b_s (⟨cfan, cleaf, cbud, cslots, crest⟩ : Cfg) G (y.1.2) y.2 ∧ (∃ T, Tree (⟨cfan, cleaf, cbud, cslots, crest⟩ : Cfg) y.1.2.1 T) ∧ Grown ((k : Int) + 1) y.1.2.1) (fun y => l[k].fl.toNat - y.1.1) (((0, (l9, cu)) : Nat × (List Nd × Str)), Ms26) hs9 ?_ ?_
  ·exact ⟨rfl, (by exact hR28), hD9.t, hD9.g⟩
  rintro ⟨⟨j, ⟨L2, cu2⟩⟩, M_5⟩ gG31 G31 _ hG31 ⟨rfl, ho_5, hTr2, hg2⟩
  try dsimp only at ho_5 hTr2 hg2
  obtain ⟨T10, t11⟩ := hTr2
  have hsl11 := t11.sml.1
  refine WC.fr (f := ZX gG31 [(41, nt9 j), (2, pt9 b1), (29, lV sa_l l.length sc_l), (30, nt9 ((l).length)), (31, nt9 k), (40, iV ((l)[((k))]).fl), (5, pt9 b_t)]) rfl (g9 6 ?_)
  refine WC.cd (fun h42 p42 => ?_) (fun h42 p42 => ?_)
  ·try dsimp only at p42
   refine g9 6 ?_
   refine W.call (Mp := M_5) (ZfP ho_5 t11) rfl (pmC (pmC pr9)) ?_
   intro v35 G32 Ms34 hG32 q33
   refine match q33 with | ⟨N9, r9, hr9, e_37, hR36⟩ => ?_
   subst e_37
   refine W.perm (pmC (pmC pr9)).symm ?_
   have hf9 := ZqY t11 hg2 hr9
   obtain ⟨T12, t12⟩ := hf9.1
   have hsl12 := t12.sml.1
   refine g9 8 ?_
   exact ⟨hG32, (((j + 1, (r9.2.2, XT r9.2.2 cu2)) : Nat × (List Nd × Str)), Ms34), hs9, ⟨rfl, (by exact hR36), hf9.1, hf9.2.2.1⟩, by dsimp only; omega⟩
  try dsimp only at p42
  refine g9 9 ?_
  refine W.sub (sr9.cons _) (g9 2 ?_)
  exact ⟨lec, (((k + 1, (L2, cu2)) : Nat × (List Nd × Str)), M_5), hs9, ⟨rfl, (by exact ho_5), by dsimp only; omega, ⟨T10, t11⟩, by have h9 := hg2; exact h9⟩, by dsimp only; omega⟩
 try dsimp only at p32
 refine g9 8 ?_
 refine W.call (Mp := M_5) (ZfR ho_5 t9) rfl (pmC pr9) ?_
 intro v41 G38 Ms40 hG38 q39
 refine match q39 with | ⟨hR42, eeq39⟩ => ?_
 have eeq39 := eeq39.symm
 subst eeq39
 refine W.perm (pmC pr9).symm ?_
 have q44 := hR42.form
 refine match q44 with | ⟨sa_hR42, sc_hR42, e_43⟩ => ?_
 subst e_43
 refine g9 6 ?_
 refine W.call (Mp := M_5) (Zrd (BtR.mono hG38 ho_5) t9) rfl (pmC pr9) ?_
 intro v48 G45 Ms47 hG45 q46
 refine match q46 with | ⟨e9, ld9, cu9, e_50, hDr, hR49⟩ => ?_
 subst e_50
 refine W.perm (pmC pr9).symm ?_
 obtain ⟨ss, t⟩ := hDr.t
 have hST := t.sml
 have hsld := hST.1
 refine g9 6 ?_
 refine W.call (Mp := Ms47) (ZjH hR49 t) rfl (pmC pr9) ?_
 intro v54 G51 Ms53 hG51 q52
 refine match q52 with | ⟨hR55, eeq52⟩ => ?_
 have eeq52 := eeq52.symm
 subst eeq52
 refine W.perm (pmC pr9).symm ?_
 have q57 := hR55.form
 refine match q57 with | ⟨sa_hR55, sc_hR55, e_56⟩ => ?_
 subst e_56
 refine g9 5 ?_
 refine WC.dw sn9.k9 (d9 [0, 1] ?_)
 refine WD.a1 2 rfl (W.qcall ((Zr2 _ _ _ _ _ hR55 hST).mono (fun v _ _ _ hv => hv.trans (congrArg Value.bool t.sound))) rfl (W.nn (d9 [3, 4, 5, 7] ?_)))
 refine WD.anyG [6] (by kernel_rfl) rfl ⟨⟨_, rfl, .inr ⟨_, 57, _, _, rfl, rfl, rfl, rfl, rfl⟩, (W.call (Mp := Ms47) (ZfR (BtR.mono hG51 hR49) t) rfl (pmC pr9) ?_)⟩, trivial⟩
 intro v61 G58 Ms60 hG58 q59
 refine match q59 with | ⟨hR62, eeq59⟩ => ?_
 have eeq59 := eeq59.symm
 subst eeq59
 refine W.perm (pmC pr9).symm ?_
 have q64 := hR62.form
 refine match q64 with | ⟨sa_hR62, sc_hR62, e_63⟩ => ?_
 subst e_63
 refine W.nn (WD.anyG [8] (by kernel_rfl) rfl ⟨⟨_, rfl, .inr ⟨_, 57, _, _, rfl, rfl, rfl, rfl, rfl⟩, (W.qcall ((Zdj hR62 (hR42.mono lec)).mono (fun v _ _ _ hv => hv.trans (congrArg Value.bool (decide_eq_true hDr.m)))) rfl (W.nn (d9 [9, 10, 11, 12, 13, 14] ?_)))⟩, trivial⟩)
 refine WD.anyG [15] (by kernel_rfl) rfl ⟨⟨_, rfl, .inr ⟨_, 64, _, _, rfl, rfl, rfl, rfl, rfl⟩, (W.call (Mp := Ms47) (ZfS (BtR.mono lec hR49) t) rfl (pmC pr9) ?_)⟩, trivial⟩
 intro v68 G65 Ms67 hG65 q66
 refine match q66 with | ⟨e_70, eeq66⟩ => ?_
 subst e_70
 have eeq66 := eeq66.symm
 subst eeq66
 refine W.perm (pmC pr9).symm (W.nn (WD.takeY 16 64 rfl rfl rfl rfl rfl rfl (by kernel_rfl) (by kernel_rfl) (by kernel_rfl) (ZlH bo4 rfl rfl) (d9 [17, 18] ?_)))
 refine WD.sp 71 rfl (fun h69 => ?_) (fun h69 => ?_)
 ·exfalso; rcases hDr.r with ⟨h8, h9⟩ | ⟨h8, h9, _⟩ <;> simp [h8, h9] at h69
 refine d9 [19, 20, 21] ?_
 refine WD.sp 74 rfl (fun h73 => ?_) (fun h73 => ?_)
 ·have p73 := Zer h73
  try dsimp only at p73
  refine d9 [22, 23, 24] ?_
  refine WD.sp 77 rfl (fun h76 => ?_) (fun h76 => ?_)
  ·have p76 := Zer h76
   try dsimp only at p76
   exfalso; rcases hDr.r with ⟨h8, _⟩ | ⟨h8, _, _⟩ <;> omega
  have p76 := Zes h76
  try dsimp only at p76
  refine d9 [25, 26, 27] ?_
  refine WD.anyG [28] (by kernel_rfl) rfl ⟨⟨_, rfl, .inr ⟨_, 77, _, _, rfl, rfl, rfl, h76, rfl⟩, (W.call (Mp := Ms47) (ZqV (BtR.mono lec hR49) t) rfl (pmC pr9) ?_)⟩, trivial⟩
  intro v74 G71 Ms73 hG71 q72
  refine match q72 with | ⟨e_76, eeq72⟩ => ?_
  subst e_76
  have eeq72 := eeq72.symm
  subst eeq72
  refine W.perm (pmC pr9).symm (W.nn (d9 [29, 30, 31, 32, 33] ?_))
  refine g9 2 ?_
  refine WC.cd (fun h83 p83 => ?_) (fun h83 p83 => ?_)
  ·try dsimp only at p83
   exfalso; rcases hDr.r with ⟨h8, _⟩ | ⟨_, _, h8⟩; exact p73 h8; dsimp only at h8; omega
  try dsimp only at p83
  refine g9 9 ?_
  refine WC.cn (fun h88 p88 => ?_) (fun h88 p88 => ?_)
  ·try dsimp only at p88
   refine g9 2 ?_
   refine W.qcall (ZbW) rfl (g9 6 ?_)
   rfl
  try dsimp only at p88
  have hq9 : Xg ld9 = true := by rcases hDr.r with ⟨_, h9⟩ | ⟨h8, _, _⟩; exact h9; omega
  refine g9 5 ?_
  refine W.call (Mp := []) (Zfz (hR55.mono lec) _ (by assumption)) rfl pr9 ?_
  intro v79 G77 _ hG77 q78
  have q80 := q78.1
  subst q80
  have q81 := q78.2
  refine Or.elim q81 (fun q82 => ?_) (fun q83 => ?_)
  ·refine match q82 with | ⟨u_s84, ssq, hssq, e_85, hv_s84, hqsq⟩ => ?_
   subst e_85
   have q87 := hv_s84.form
   refine match q87 with | ⟨sa_s84, sc_s84, e_86⟩ => ?_
   subst e_86
   have e9 : ss = ssq := Option.some.inj (t.sts.symm.trans hssq)
   subst e9
   have hss47q := hv_s84.len47
   refine g9 21 ?_
   refine WC.loop (X := (Nat) × Value × MH) (fun k3 => [(97, nt9 k3.1), (9, lV sa_hR42 (Zh L).length sc_hR42), (13, .bool true), (95, lV sa_s84 ss.length sc_s84), (96, nt9 ((ss).length)), (14, k3.2.1)]) (fun k3 G Ml => Ml = ((b1, ce9 23 [iV cfan, iV cleaf, iV cbud, iV cslots, iV crest]) :: (k3.2.2 ++ (Ms47 ++ []))) ∧ OwnR Zs 74 G k3.2.1 (Zak (ss.take k3.1)) k3.2.2 ∧ k3.1 ≤ ss.length) (fun k3 => ss.length - k3.1) (0, lV none 0 0, ([] : MH)) hs9 ?_ ?_
   ·exact ⟨rfl, (by exact OwnR.nil), Nat.zero_le _⟩
   rintro ⟨k3, v_14, M_14⟩ gG88 G88 _ hG88 ⟨rfl, ho_14, hk3⟩
   try dsimp only at ho_14 hk3
   have hrl9 := ZjZ t k3
   have hsl9 := t.len
   have hsm9 := t.sml.1
   refine WC.fr (f := ZX gG88 [(97, nt9 k3), (9, lV sa_hR42 (Zh L).length sc_hR42), (13, .bool true), (95, lV sa_s84 ss.length sc_s84), (96, nt9 ((ss).length)), (14, v_14)]) rfl (g9 6 ?_)
   refine WC.cd (fun h98 p98 => ?_) (fun h98 p98 => ?_)
   ·try dsimp only at p98
    refine g9 6 ?_
    have q92 := (hv_s84.mono hG88).at (i := k3) om9
    refine match q92 with | ⟨_, he89, ⟨_, _, _, _, _, _, _, _, qa_t90, qc_t90, e_91, hp_t90, hk_t90, hm_t90, hr_t90, hq_t90, hok_t90⟩⟩ => ?_
    subst e_91
    refine g9 2 ?_
    refine W.alloc Zag (fun b93 => (g9 8 ?_))
    refine W.app (e := Zs) ZI ZJ Xd rfl ZaB rfl rfl (ho_14) (hr_t90) (pmC (pmC pr9)) (by have h9 := t.rows_len (List.getElem_mem (by omega : k3 < ss.length)); show (List.length _ + List.length _) * 32 ≤ _; omega) (fun v94 Ms95 ho96 => (W.perm (pmC (pmC pr9)).symm (g9 7 ?_)))
    refine W.sub (sr9.cons _) (g9 2 ?_)
    exact ⟨Le.rfl, (k3 + 1, v94, Ms95), hs9, ⟨rfl, (by rw [Zf0 om9]; exact ho96), om9⟩, om9⟩
   try dsimp only at p98
   have hkk : ss.take k3 = ss := List.take_of_length_le om9
   refine g9 14 ?_
   refine W.giveO ho_14 (pmC pr9) (fun G97 hG97 hv97 => ?_)
   have q99 := hv97.form
   refine match q99 with | ⟨_, _, e_98⟩ => ?_
   subst e_98
   refine W.qcall ((Zdj hv97 (hR42.mono lec)).mono (fun v _ _ _ hv => hv.trans (congrArg Value.bool (decide_eq_true (by rw [hkk, ZjY t hq9, hDr.m]))))) rfl (g9 3 ?_)
   refine W.qcall (ZbW) rfl (g9 6 ?_)
   rfl
  exact absurd (t.sts.symm.trans (by obtain ⟨_, _, h0, _⟩ := q83; exact h0)) (by simp)
 have p73 := Zes h73
 try dsimp only at p73
 refine d9 [22, 23, 24] ?_
 refine WD.takeU 25 77 rfl rfl rfl rfl rfl (by kernel_rfl) (by kernel_rfl) (by kernel_rfl) (WD.takeU 26 77 rfl rfl rfl rfl rfl (by kernel_rfl) (by kernel_rfl) (by kernel_rfl) (WD.takeU 27 77 rfl rfl rfl rfl rfl (by kernel_rfl) (by kernel_rfl) (by kernel_rfl) (WD.takeU 28 77 rfl rfl rfl rfl rfl (by kernel_rfl) (by kernel_rfl) (by kernel_rfl) (WD.takeU 29 77 rfl rfl rfl rfl rfl (by kernel_rfl) (by kernel_rfl) (by kernel_rfl) (WD.takeU 30 77 rfl rfl rfl rfl rfl (by kernel_rfl) (by kernel_rfl) (by kernel_rfl) (d9 [31, 32, 33] ?_))))))
 refine g9 12 ?_
 refine WC.cn (fun h88 p88 => ?_) (fun h88 p88 => ?_)
 ·try dsimp only at p88
  refine g9 2 ?_
  refine W.qcall (ZbW) rfl (g9 6 ?_)
  rfl
 try dsimp only at p88
 have hq9 : Xg ld9 = true := by rcases hDr.r with ⟨_, h9⟩ | ⟨h8, _, _⟩; exact h9; omega
 refine g9 5 ?_
 refine W.call (Mp := []) (Zfz (hR55.mono lec) _ (by assumption)) rfl pr9 ?_
 intro v102 G100 _ hG100 q101
 have q103 := q101.1
 subst q103
 have q104 := q101.2
 refine Or.elim q104 (fun q105 => ?_) (fun q106 => ?_)
 ·refine match q105 with | ⟨u_s107, ssq, hssq, e_108, hv_s107, hqsq⟩ => ?_
  subst e_108
  have q110 := hv_s107.form
  refine match q110 with | ⟨sa_s107, sc_s107, e_109⟩ => ?_
  subst e_109
  have e9 : ss = ssq := Option.some.inj (t.sts.symm.trans hssq)
  subst e9
  have hss47q := hv_s107.len47
  refine g9 21 ?_
  refine WC.loop (X := (Nat) × Value × MH) (fun k3 => [(97, nt9 k3.1), (9, lV sa_hR42 (Zh L).length sc_hR42), (13, .bool true), (95, lV sa_s107 ss.length sc_s107), (96, nt9 ((ss).length)), (14, k3.2.1)]) (fun k3 G Ml => Ml = ((b1, ce9 23 [iV cfan, iV cleaf, iV cbud, iV cslots, iV crest]) :: (k3.2.2 ++ (Ms47 ++ []))) ∧ OwnR Zs 74 G k3.2.1 (Zak (ss.take k3.1)) k3.2.2 ∧ k3.1 ≤ ss.length) (fun k3 => ss.length - k3.1) (0, lV none 0 0, ([] : MH)) hs9 ?_ ?_
  ·exact ⟨rfl, (by exact OwnR.nil), Nat.zero_le _⟩
  rintro ⟨k3, v_14, M_14⟩ gG111 G111 _ hG111 ⟨rfl, ho_14, hk3⟩
  try dsimp only at ho_14 hk3
  have hrl9 := ZjZ t k3
  have hsl9 := t.len
  have hsm9 := t.sml.1
  refine WC.fr (f := ZX gG111 [(97, nt9 k3), (9, lV sa_hR42 (Zh L).length sc_hR42), (13, .bool true), (95, lV sa_s107 ss.length sc_s107), (96, nt9 ((ss).length)), (14, v_14)]) rfl (g9 6 ?_)
  refine WC.cd (fun h98 p98 => ?_) (fun h98 p98 => ?_)
  ·try dsimp only at p98
   refine g9 6 ?_
   have q115 := (hv_s107.mono hG111).at (i := k3) om9
   refine match q115 with | ⟨_, he112, ⟨_, _, _, _, _, _, _, _, qa_t113, qc_t113, e_114, hp_t113, hk_t113, hm_t113, hr_t113, hq_t113, hok_t113⟩⟩ => ?_
   subst e_114
   refine g9 2 ?_
   refine W.alloc Zag (fun b116 => (g9 8 ?_))
   refine W.app (e := Zs) ZI ZJ Xd rfl ZaB rfl rfl (ho_14) (hr_t113) (pmC (pmC pr9)) (by have h9 := t.rows_len (List.getElem_mem (by omega : k3 < ss.length)); show (List.length _ + List.length _) * 32 ≤ _; omega) (fun v117 Ms118 ho119 => (W.perm (pmC (pmC pr9)).symm (g9 7 ?_)))
   refine W.sub (sr9.cons _) (g9 2 ?_)
   exact ⟨Le.rfl, (k3 + 1, v117, Ms118), hs9, ⟨rfl, (by rw [Zf0 om9]; exact ho119), om9⟩, om9⟩
  try dsimp only at p98
  have hkk : ss.take k3 = ss := List.take_of_length_le om9
  refine g9 14 ?_
  refine W.giveO ho_14 (pmC pr9) (fun G120 hG120 hv120 => ?_)
  have q122 := hv120.form
  refine match q122 with | ⟨_, _, e_121⟩ => ?_
  subst e_121
  refine W.qcall ((Zdj hv120 (hR42.mono lec)).mono (fun v _ _ _ hv => hv.trans (congrArg Value.bool (decide_eq_true (by rw [hkk, ZjY t hq9, hDr.m]))))) rfl (g9 3 ?_)
  refine W.qcall (ZbW) rfl (g9 6 ?_)
  rfl
 exact absurd (t.sts.symm.trans (by obtain ⟨_, _, h0, _⟩ := q106; exact h0)) (by simp)

end Go.Proofs.YtbbemibbmbmamaaGreat
