/- Walks of stores, as far as their arenas go. -/
import Derived.MapKept
import Derived.Test.YtfmigmijckdldaaGreatQgU1
set_option maxRecDepth 100000
set_option maxHeartbeats 1600000
set_option linter.unusedVariables false
set_option linter.unusedSimpArgs false
set_option linter.unnecessarySimpa false
namespace Go.Proofs.YtfmigmijckdldaaGreat
open Go Go.Fw Go.RowKit
attribute [local irreducible] Ok W WC
theorem tset_fc {G : GH} {b_s : Nat} {c : Cfg} {b_a : Nat} {a : List Nd × List Bool} {Ms_a : MH} (h_a : ArR eNode 53 4 3 125 b_a G a Ms_a) {cs_x : List Value} {x : Nd} (h_x : NodeC G cs_x x) :
    Fc Tryz.prog 27 [pt9 b_s, .agg (List.toArray cs_x)] G ((b_s, ce9 78 [iV c.fan, iV c.leaf, iV c.bud, iV c.slots, iV c.rest, pt9 b_a]) :: (Ms_a)) (fun v G' M' => v = iV (layA a x.slot x).1 ∧ StA 53 4 3 125 78 b_s G' c (layA a x.slot x).2 M') := by
 obtain ⟨_, _, _, _, _, _, _, _, rfl, hp_x, hk_x, hm_x, hr_x, hok_x⟩ := h_x
 refine Fc.go [.tmp 4] Tryz.func27 Tryz.ntmps27 rfl (fun w0 => (WC.perm (M' := ((b_s, ce9 78 [iV c.fan, iV c.leaf, iV c.bud, iV c.slots, iV c.rest, pt9 b_a]) :: (Ms_a ++ []))) (by simp) (g9 2 ?_)))
 refine W.box (L := [iV _, iV _, lV _ _ _, lV _ _ _, sV _, .bool _, iV _, iV _, lV _ _ _, lV _ _ _]) rfl rfl (fun b1 => (g9 7 ?_))
 refine W.ok (ok_eqlPN pp27 rfl rfl) (g9 6 ?_)
 refine WC.dw (sn9.k9.k9) (d9 [0, 1, 2, 3, 4, 5, 6] ?_)
 refine WD.a1 7 rfl (W.cN (ncopy_fc (nk9 hp_x hk_x hm_x hr_x hok_x)) rfl (fun _ _ _ _ _ _ _ _ G2 hG2 hp_hv3 hk_hv3 hm_hv3 hr_hv3 hok_hv3 => (W.nn (WD.a1 8 rfl (W.call (Mp := Ms_a) (osetn (ArR.mono hG2 h_a) _ (nk9 hp_hv3 hk_hv3 hm_hv3 hr_hv3 hok_hv3)) rfl (pmC (pmC pr9)) ?_)))))
 intro v11 G8 Ms10 hG8 q9
 refine match q9 with | ⟨e_13, hR12⟩ => ?_
 subst e_13
 refine W.perm (pmC (pmC pr9)).symm (W.nn (d9 [9] ?_))
 refine g9 3 ?_
 refine ⟨.inr rfl, [_], ⟨rfl, trivial⟩, ((b_s, ce9 78 [iV c.fan, iV c.leaf, iV c.bud, iV c.slots, iV c.rest, pt9 b_a]) :: (Ms10 ++ [])), sr9.k9.cons _, ?_⟩
 exact ⟨rfl, _, _, congrArg _ (List.append_nil _), hR12⟩

theorem tnode_fc {G : GH} {b_s : Nat} {c : Cfg} {b_a : Nat} {a : List Nd × List Bool} {Ms_a : MH} (h_a : ArR eNode 53 4 3 125 b_a G a Ms_a) (i : Int) :
    Fc Tryz.prog 28 [pt9 b_s, iV i] G ((b_s, ce9 78 [iV c.fan, iV c.leaf, iV c.bud, iV c.slots, iV c.rest, pt9 b_a]) :: (Ms_a)) (fun v G' M' => (∃ cs, v = .tuple #[.agg (List.toArray cs), .bool (hasN a.2 i)] ∧ NodeC G' cs (getA a i Nd.zero)) ∧ M' = (b_s, ce9 78 [iV c.fan, iV c.leaf, iV c.bud, iV c.slots, iV c.rest, pt9 b_a]) :: Ms_a) := by
 refine Fc.go [.cell 4 53, .tmp 5] Tryz.func28 Tryz.ntmps28 rfl (fun w0 => (WC.perm (M' := ((b_s, ce9 78 [iV c.fan, iV c.leaf, iV c.bud, iV c.slots, iV c.rest, pt9 b_a]) :: (Ms_a ++ []))) (by simp) (g9 2 ?_)))
 refine W.alloc zr53 (fun b14 => (g9 7 ?_))
 refine W.ok (ok_eqlPN pp27 rfl rfl) (g9 12 ?_)
 refine W.call (Mp := Ms_a) (ogetn h_a _) rfl (pmC (pmC pr9)) ?_
 intro v18 G15 Ms17 hG15 q16
 refine match q16 with | ⟨⟨_, e_20, ⟨_, _, _, _, _, _, _, _, e_21, hp_hR19, hk_hR19, hm_hR19, hr_hR19, hok_hR19⟩⟩, eeq16⟩ => ?_
 subst e_20
 subst e_21
 have eeq16 := eeq16.symm
 subst eeq16
 refine W.perm (pmC (pmC pr9)).symm (g9 3 ?_)
 refine W.alloc zr53 (fun b22 => (g9 7 ?_))
 refine W.cN (ncopy_fc (nk9 hp_hR19 hk_hR19 hm_hR19 hr_hR19 hok_hR19)) rfl (fun _ _ _ _ _ _ _ _ G23 hG23 hp_hv24 hk_hv24 hm_hv24 hr_hv24 hok_hv24 => (g9 6 ?_))
 refine ⟨.inr rfl, [_, _], ⟨⟨_, _, _, _, _, rfl, nthM_mem (i := 1) rfl, ty53, (by simp), rfl, rfl⟩, rfl, trivial⟩, ((b_s, ce9 78 [iV c.fan, iV c.leaf, iV c.bud, iV c.slots, iV c.rest, pt9 b_a]) :: (Ms_a ++ [])), (sr9.k9.cons _).cons _, ?_⟩
 exact ⟨⟨_, rfl, (nk9 hp_hv24 hk_hv24 hm_hv24 hr_hv24 hok_hv24)⟩, congrArg _ (List.append_nil _)⟩

theorem troom_fc {G : GH} {b_s : Nat} {c : Cfg} {b_a : Nat} {a : List Nd × List Bool} {Ms_a : MH} (h_a : ArR eNode 53 4 3 125 b_a G a Ms_a) :
    Fc Tryz.prog 65 [pt9 b_s] G ((b_s, ce9 78 [iV c.fan, iV c.leaf, iV c.bud, iV c.slots, iV c.rest, pt9 b_a]) :: (Ms_a)) (fun v G' M' => v = iV ((freeN a.2).length : Int) ∧ M' = (b_s, ce9 78 [iV c.fan, iV c.leaf, iV c.bud, iV c.slots, iV c.rest, pt9 b_a]) :: Ms_a) := by
 refine Fc.go [.tmp 2] Tryz.func65 Tryz.ntmps65 rfl (fun w0 => (WC.perm (M' := ((b_s, ce9 78 [iV c.fan, iV c.leaf, iV c.bud, iV c.slots, iV c.rest, pt9 b_a]) :: (Ms_a ++ []))) (by simp) (g9 9 ?_)))
 refine W.ok (ok_eqlPN pp27 rfl rfl) (g9 11 ?_)
 refine W.call (Mp := Ms_a) (oroomn h_a) rfl (pmC pr9) ?_
 intro v32 G29 Ms31 hG29 q30
 refine match q30 with | ⟨e_34, eeq30⟩ => ?_
 subst e_34
 have eeq30 := eeq30.symm
 subst eeq30
 refine W.perm (pmC pr9).symm (g9 4 ?_)
 refine ⟨.inr rfl, [_], ⟨rfl, trivial⟩, ((b_s, ce9 78 [iV c.fan, iV c.leaf, iV c.bud, iV c.slots, iV c.rest, pt9 b_a]) :: (Ms_a ++ [])), sr9.k9, ?_⟩
 exact ⟨rfl, congrArg _ (List.append_nil _)⟩

theorem ttake_fc {G : GH} {b_s : Nat} {c : Cfg} {b_a : Nat} {a : List Nd × List Bool} {Ms_a : MH} (h_a : ArR eNode 53 4 3 125 b_a G a Ms_a) {cs_x : List Value} {x : Nd} (h_x : NodeC G cs_x x) :
    Fc Tryz.prog 26 [pt9 b_s, .agg (List.toArray cs_x)] G ((b_s, ce9 78 [iV c.fan, iV c.leaf, iV c.bud, iV c.slots, iV c.rest, pt9 b_a]) :: (Ms_a)) (fun v G' M' => v = .tuple #[iV (takeA a x).1.1, iV (takeA a x).1.2] ∧ StA 53 4 3 125 78 b_s G' c (takeA a x).2 M') := by
 obtain ⟨pa_x, pc_x, ka_x, kc_x, ma_x, mc_x, ra_x, rc_x, rfl, hp_x, hk_x, hm_x, hr_x, hok_x⟩ := h_x
 have hal : a.2.length ≤ 4096 := by obtain ⟨f, _, _, h, _⟩ := h_a; exact h
 have hai := nextA_i64 (x := Nd.zero) hal
 refine Fc.go [.tmp 4, .tmp 5] Tryz.func26 Tryz.ntmps26 rfl (fun w0 => (WC.perm (M' := ((b_s, ce9 78 [iV c.fan, iV c.leaf, iV c.bud, iV c.slots, iV c.rest, pt9 b_a]) :: (Ms_a ++ []))) (by simp) (g9 2 ?_)))
 refine W.box (L := [iV _, iV _, lV _ _ _, lV _ _ _, sV _, .bool _, iV _, iV _, lV _ _ _, lV _ _ _]) rfl rfl (fun b35 => (g9 8 ?_))
 refine W.ok (ok_eqlPN pp27 rfl rfl) (g9 11 ?_)
 refine W.ok (ok_build (L := [iV _, iV _, lV _ _ _, lV _ _ _, sV _, .bool _, iV _, iV _, lV _ _ _, lV _ _ _]) pl53 zr53 rfl rfl rfl) (W.call (Mp := Ms_a) (oallocn h_a (x := Nd.zero) ⟨_, _, _, _, _, _, _, _, rfl, SlR.nil, SlR.nil, SlR.nil, SlR.nil, Nd.zero_ok⟩) rfl (pmC (pmC pr9)) ?_)
 intro v39 G36 Ms38 hG36 q37
 refine match q37 with | ⟨e_41, hR40⟩ => ?_
 subst e_41
 refine W.perm (pmC (pmC pr9)).symm (g9 14 ?_)
 refine WC.cn (fun h20 p20 => ?_) (fun h20 p20 => ?_)
 ·refine g9 9 ?_
  refine ⟨.inr rfl, [_, _], ⟨rfl, rfl, trivial⟩, ((b_s, ce9 78 [iV c.fan, iV c.leaf, iV c.bud, iV c.slots, iV c.rest, pt9 b_a]) :: (Ms38 ++ [])), sr9.k9.cons _, ?_⟩
  have hE := takeA_f (a := a) (x := x) p20
  exact ⟨congrArg (fun r : Int × Int => Value.tuple #[iV r.1, iV r.2]) (congrArg Prod.fst hE).symm, StA.cast ⟨_, _, congrArg _ (List.append_nil _), hR40⟩ (congrArg Prod.snd hE).symm⟩
 refine g9 14 ?_
 refine W.call (Mp := ((b_s, ce9 78 [iV c.fan, iV c.leaf, iV c.bud, iV c.slots, iV c.rest, pt9 b_a]) :: Ms38)) (Mr := ((b35, ce9 53 [iV (nextA (a) Nd.zero).1.1, iV x.level, lV pa_x x.pivots.length pc_x, lV ka_x x.kids.length kc_x, sV x.high.b, .bool x.top, iV x.right, iV x.seen, lV ma_x x.msgs.length mc_x, lV ra_x x.rows.length rc_x]) :: [])) (tset_fc (c := c) hR40 (show NodeC _ _ { x with slot := (nextA a Nd.zero).1.1 } from ⟨_, _, _, _, _, _, _, _, rfl, (hp_x.mono hG36), (hk_x.mono hG36), (hm_x.mono hG36), (hr_x.mono hG36), ⟨hai, hok_x.2⟩⟩)) rfl (((pmC pr9).cons _).trans ((List.Perm.swap _ _ _).trans (pr9.cons _))) ?_
 intro v45 G42 Ms44 hG42 q43
 refine match q43 with | ⟨e_47, hS46⟩ => ?_
 subst e_47
 refine W.perm (pmC pr9).symm (g9 5 ?_)
 refine ⟨.inr rfl, [_, _], ⟨rfl, rfl, trivial⟩, (Ms44 ++ []), sr9.cons _, ?_⟩
 have hE := takeA_t (a := a) (x := x) p20
 exact ⟨congrArg (fun r : Int × Int => Value.tuple #[iV r.1, iV r.2]) (congrArg Prod.fst hE).symm, StA.cast (by have h := hS46; rw [List.append_nil]; exact h) (congrArg Prod.snd hE).symm⟩

theorem tnodes_fc {G : GH} {b_s : Nat} {c : Cfg} {b_a : Nat} {a : List Nd × List Bool} {Ms_a : MH} (h_a : ArR eNode 53 4 3 125 b_a G a Ms_a) :
    Fc Tryz.prog 11 [pt9 b_s] G ((b_s, ce9 78 [iV c.fan, iV c.leaf, iV c.bud, iV c.slots, iV c.rest, pt9 b_a]) :: (Ms_a)) (fun v G' M' => SlR eNode G' v ((usedN a.2).map (fun i => getA a i Nd.zero)) ∧ M' = (b_s, ce9 78 [iV c.fan, iV c.leaf, iV c.bud, iV c.slots, iV c.rest, pt9 b_a]) :: Ms_a) := by
 have hal : a.2.length ≤ 4096 := by obtain ⟨f, _, _, h, _⟩ := h_a; exact h
 have hul := usedK_len a.2 a.2.length
 rw [← used_eq] at hul
 refine Fc.go [.tmp 2] Tryz.func11 Tryz.ntmps11 rfl (fun w0 => (WC.perm (M' := ((b_s, ce9 78 [iV c.fan, iV c.leaf, iV c.bud, iV c.slots, iV c.rest, pt9 b_a]) :: (Ms_a ++ []))) (by simp) (g9 14 ?_)))
 refine W.ok (ok_eqlPN pp27 rfl rfl) (g9 12 ?_)
 refine W.call (Mp := Ms_a) (olistn h_a) rfl (pmC pr9) ?_
 intro v51 G48 Ms50 hG48 q49
 refine match q49 with | ⟨hR52, eeq49⟩ => ?_
 have eeq49 := eeq49.symm
 subst eeq49
 refine W.perm (pmC pr9).symm ?_
 have q54 := hR52.form
 refine match q54 with | ⟨sa_hR52, sc_hR52, e_53⟩ => ?_
 subst e_53
 refine g9 5 ?_
 refine WC.loop (X := (Nat) × Value × MH) (fun k => [(16, nt9 k.1), (0, pt9 b_s), (14, lV sa_hR52 ((usedN (a).2)).length sc_hR52), (15, nt9 (((usedN (a).2)).length)), (3, k.2.1)]) (fun k G Ml => Ml = ((b_s, ce9 78 [iV c.fan, iV c.leaf, iV c.bud, iV c.slots, iV c.rest, pt9 b_a]) :: (k.2.2 ++ (Ms_a ++ []))) ∧ OwnR eNode 53 G k.2.1 (((usedN a.2).take k.1).map (fun i => getA a i Nd.zero)) k.2.2 ∧ k.1 ≤ (usedN a.2).length) (fun k => (usedN a.2).length - k.1) (0, lV none 0 0, ([] : MH)) hs9 ?_ ?_
 ·exact ⟨rfl, (by simpa using OwnR.nil), om9⟩
 rintro ⟨k, v_3, M_3⟩ gG55 G55 _ hG55 ⟨rfl, ho_3, hk⟩
 try dsimp only at ho_3 hk
 refine WC.fr (f := setL gG55 [(16, nt9 k), (0, pt9 b_s), (14, lV sa_hR52 ((usedN (a).2)).length sc_hR52), (15, nt9 (((usedN (a).2)).length)), (3, v_3)]) rfl (g9 6 ?_)
 refine WC.cd (fun h17 p17 => ?_) (fun h17 p17 => ?_)
 ·refine g9 6 ?_
  refine (hR52.mono hG55).a2 (i := k) om9 (fun he56 hi57 => (g9 9 ?_))
  refine W.call (Mp := ((b_s, ce9 78 [iV c.fan, iV c.leaf, iV c.bud, iV c.slots, iV c.rest, pt9 b_a]) :: Ms_a)) (Mr := (M_3 ++ [])) (tnode_fc (c := c) (ArR.mono lec h_a) _) rfl (((pmA pr9).cons _).trans pr9) ?_
  intro v63 G60 Ms62 hG60 q61
  refine match q61 with | ⟨⟨_, e_65, ⟨_, _, _, _, _, _, _, _, e_66, hp_n64, hk_n64, hm_n64, hr_n64, hok_n64⟩⟩, e_67⟩ => ?_
  subst e_65
  subst e_66
  subst e_67
  refine W.perm (M' := ((b_s, ce9 78 [iV c.fan, iV c.leaf, iV c.bud, iV c.slots, iV c.rest, pt9 b_a]) :: (Ms_a ++ (M_3 ++ [])))) ((pr9.cons _).trans pr9).symm (g9 3 ?_)
  refine W.alloc zr53 (fun b68 => (g9 7 ?_))
  refine W.lit (e := eNode) (l := [(getA a ((usedN a.2)[k]'_) Nd.zero)]) (css := [[iV _, iV _, lV _ _ _, lV _ _ _, sV _, .bool _, iV _, iV _, lV _ _ _, lV _ _ _]]) sl24 ty53 zr53 rfl rfl rfl rfl rfl rfl ⟨(nk9 hp_n64 hk_n64 hm_n64 hr_n64 hok_n64), trivial⟩ (fun bl69 G69 hG69 hv69 => (W.app (e := eNode) sl24 ty53 zr53 rfl by53 rfl rfl ((ho_3.mono lec)) (hv69) (pmC (pmC (pmA pr9))) (by show (List.length _ + 1) * 152 ≤ _; rw [List.length_map, List.length_take]; omega) (fun v70 Ms71 ho72 => (W.perm (pmC (pmC pr9)).symm (g9 7 ?_)))))
  refine W.sub (sr9.cons _) (g9 2 ?_)
  exact ⟨lec, (k + 1, v70, Ms71), hs9, ⟨rfl, (by have h := ho72; rw [List.take_succ_eq_append_getElem om9, List.map_append]; exact h), om9⟩, om9⟩
 refine g9 11 ?_
 refine WC.giveO ho_3 (pmC pr9) (fun G73 hG73 hv73 => (WC.ret ?_))
 refine ⟨.inr rfl, [_], ⟨rfl, trivial⟩, ((b_s, ce9 78 [iV c.fan, iV c.leaf, iV c.bud, iV c.slots, iV c.rest, pt9 b_a]) :: (Ms_a ++ [])), sr9.k9, ?_⟩
 exact ⟨SlR.cast hv73 (by rw [List.take_of_length_le om9]), congrArg _ (List.append_nil _)⟩

end Go.Proofs.YtfmigmijckdldaaGreat

namespace Go.Fw
open Go Go.RowKit
structure VEnc (α : Type) where
 R : GH → Value → α → Prop
 mono : ∀ {G G' : GH} {v a}, Le G G' → R G v a → R G' v a
def vBool : VEnc Bool := ⟨fun _ v b => v = .bool b, fun _ h => h⟩
section
variable {α : Type}
def MpE (V : VEnc α) (G : GH) : List MapEntry → List (Int × α) → Prop
 | [], [] => True
 | e :: es, p :: m => e.key = .int .i64 p.1 ∧ V.R G e.val p.2 ∧ MpE V G es m
 | _, _ => False
theorem MpE.mono {V : VEnc α} {G G' : GH} (hl : Le G G') : ∀ {es : List MapEntry} {m : List (Int × α)}, MpE V G es m → MpE V G' es m
 | [], [], _ => trivial
 | e :: es, p :: m, h => ⟨h.1, V.mono hl h.2.1, h.2.2.mono hl⟩
 | [], _ :: _, h => h.elim
 | _ :: _, [], h => h.elim
def getM (m : List (Int × α)) (k : Int) : Option α := (m.find? fun p => decide (p.1 = k)).map (·.2)
def putM : List (Int × α) → Int → α → List (Int × α)
 | [], k, a => [(k, a)]
 | p :: m, k, a => if p.1 = k then (k, a) :: m else p :: putM m k a
def delM : List (Int × α) → Int → List (Int × α)
 | [], _ => []
 | p :: m, k => if p.1 = k then m else p :: delM m k
theorem getM_cons (p : Int × α) (m : List (Int × α)) (k : Int) : getM (p :: m) k = if p.1 = k then some p.2 else getM m k := by
 unfold getM
 by_cases h : p.1 = k
 ·rw [List.find?_cons_of_pos (by simpa using h), if_pos h]; rfl
 ·rw [List.find?_cons_of_neg (by simpa using h), if_neg h]
theorem getM_put : ∀ (m : List (Int × α)) (k : Int) (a : α) (j : Int), getM (putM m k a) j = if j = k then some a else getM m j
 | [], k, a, j => by
  rw [putM, getM_cons]
  by_cases h : k = j
  ·rw [if_pos h, if_pos h.symm]
  ·rw [if_neg h, if_neg (fun e => h e.symm)]
 | p :: m, k, a, j => by
  rw [putM]
  by_cases hp : p.1 = k
  ·rw [if_pos hp, getM_cons, getM_cons]
   by_cases h : k = j
   ·rw [if_pos h, if_pos h.symm]
   ·rw [if_neg h, if_neg (fun e => h e.symm), if_neg (by rw [hp]; exact h)]
  ·rw [if_neg hp, getM_cons, getM_cons, getM_put m k a j]
   by_cases h : p.1 = j
   ·rw [if_pos h, if_pos h, if_neg (fun e => hp (h.trans e))]
   ·rw [if_neg h, if_neg h]
theorem same_int (k j : Int) : Instr.sameNow (.int .i64) (.int .i64 k) (.int .i64 j) = some (k == j) := by simp [Instr.sameNow]
theorem find_mp {V : VEnc α} {G : GH} {k : Int} : ∀ {es : List MapEntry} {m : List (Int × α)} (i : Nat), MpE V G es m →
  (getM m k = none ∧ Instr.findNow (.int .i64) (.int .i64 k) es i = some none ∧ (∀ x a n, V.R G x a → MpE V G (es ++ [⟨.int .i64 k, x, n⟩]) (putM m k a)) ∧ delM m k = m) ∨
  ∃ j e a, getM m k = some a ∧ es[j]? = some e ∧ Instr.findNow (.int .i64) (.int .i64 k) es i = some (some (i + j, e.val)) ∧ e.key = .int .i64 k ∧ V.R G e.val a ∧
   (∀ x b, V.R G x b → MpE V G (es.modify j fun e => { e with key := .int .i64 k, val := x }) (putM m k b)) ∧ MpE V G (es.eraseIdx j) (delM m k)
 | [], [], i, _ => .inl ⟨rfl, rfl, fun x a n hx => ⟨rfl, hx, trivial⟩, rfl⟩
 | e :: es, p :: m, i, h => by
  by_cases hk : p.1 = k
  ·refine .inr ⟨0, e, p.2, by rw [getM_cons, if_pos hk], rfl, ?_, by rw [h.1, hk], h.2.1, fun x b hx => ?_, ?_⟩
   ·rw [Instr.findNow, h.1, same_int, hk]; simp
   ·rw [putM, if_pos hk]
    simp only [List.modify_zero_cons]
    exact ⟨rfl, hx, h.2.2⟩
   ·rw [delM, if_pos hk]; exact h.2.2
  ·have hf : ∀ i, Instr.findNow (.int .i64) (.int .i64 k) (e :: es) i = Instr.findNow (.int .i64) (.int .i64 k) es (i + 1) := fun i => by
    rw [Instr.findNow, h.1, same_int]
    have : (k == p.1) = false := by simpa using fun e => hk e.symm
    rw [this]
   rcases find_mp (V := V) (k := k) (i + 1) h.2.2 with ⟨h1, h2, h3, h4⟩ | ⟨j, e', a, h1, h2, h3, h4, h5, h6, h7⟩
   ·refine .inl ⟨by rw [getM_cons, if_neg hk]; exact h1, by rw [hf]; exact h2, fun x a n hx => ?_, by rw [delM, if_neg hk, h4]⟩
    rw [putM, if_neg hk]
    exact ⟨h.1, h.2.1, h3 x a n hx⟩
   ·refine .inr ⟨j + 1, e', a, by rw [getM_cons, if_neg hk]; exact h1, by simpa using h2, by rw [hf, h3]; congr 3; omega, h4, h5, fun x b hx => ?_, ?_⟩
    ·rw [putM, if_neg hk]
     simp only [List.modify_succ_cons]
     exact ⟨h.1, h.2.1, h6 x b hx⟩
    ·rw [delM, if_neg hk]
     exact ⟨h.1, h.2.1, h7⟩
 | [], _ :: _, _, h => h.elim
 | _ :: _, [], _, h => h.elim
def mapIK (P : Program) (t : TypeId) : Option TypeId :=
 match P.underlying t with
 | some (.map kt e) => match P.underlying kt with
  | some (.int .i64) => some e
  | _ => none
 | _ => none
theorem mapIK_ok {P : Program} {t e : TypeId} (h : mapIK P t = some e) : ∃ kt, P.underlying t = some (.map kt e) ∧ P.underlying kt = some (.int .i64) ∧ ∀ b n v (w : World), (Instr.checkKey b (n + 1) kt v).run P w = .ok () w := by
 unfold mapIK at h
 split at h
 ·rename_i kt e' h1
  split at h
  ·rename_i h2
   cases h
   refine ⟨kt, h1, h2, fun b n v w => ?_⟩
   simp only [Instr.checkKey, Sem.run_bind, run_underlying h2, Result.andThen_ok]
   rfl
  ·cases h
 ·cases h
def MpR (V : VEnc α) (b : Nat) (G : GH) (m : List (Int × α)) (M : MH) : Prop := ∃ (es : List MapEntry) (clock : Nat), M = [(b, .map es.toArray clock)] ∧ MpE V G es m
theorem MpR.mono {V : VEnc α} {b : Nat} {G G' : GH} {m : List (Int × α)} {M : MH} (hl : Le G G') (h : MpR V b G m M) : MpR V b G' m M := by
 obtain ⟨es, c, h1, h2⟩ := h; exact ⟨es, c, h1, h2.mono hl⟩
end
section
variable {α : Type} {E : Env} {f : Fr} {G : GH} {M Mk Ms Mr : MH} {ops rest : List Oper} {q : Bool} {K : Kt} {d : Nat} {ty : TypeId} {pos : String} {aft : Array Edge} {t et : TypeId} {x y kk : Operand} {b : Nat} {k : Int} {m : List (Int × α)} {V : VEnc α}
def zvK (P : Program) (t : TypeId) : Option Value := (P.info? t).bind (·.zero)
theorem look_run {P : Program} {es : List MapEntry} {clock : Nat} {z0 : Value} {z : α} (ht : mapIK P t = some et) (hz : zvK P et = some z0) (hzz : V.R G z0 z) (he : MpE V G es m) :
  ∃ v, V.R G v ((getM m k).getD z) ∧ ∀ (w : World) (ok : Bool), w.heap[b]? = some (.map es.toArray clock) → (Instr.lookup t (.map (some b)) (.int .i64 k) ok).run P w = .ok (if ok = true then .tuple #[v, .bool (getM m k).isSome] else v) w := by
 obtain ⟨kt, h1, h2, h3⟩ := mapIK_ok ht
 have hzv : ∀ w, (zeroValue et).run P w = .ok z0 w := fun w => by
  unfold zvK at hz
  cases hi : P.info? et with
  | none => rw [hi] at hz; cases hz
  | some info => rw [hi] at hz; simp at hz; simp [zeroValue, typeInfo, hi, hz]
 rcases find_mp (k := k) 0 he with ⟨g1, g2, _, _⟩ | ⟨j, e, a, g1, g2, g3, g4, g5, _, _⟩
 ·refine ⟨z0, by rw [g1]; exact hzz, fun w ok hb => ?_⟩
  have hgo := MapKept.run_getObj_map (P := P) hb
  have hfk := MapKept.run_findKey (P := P) (w := w) h2 g2
  simp only [Instr.lookup, Sem.run_bind, run_underlying h1, Result.andThen_ok, hgo, Sem.run_pure]
  rw [h3]
  simp only [Result.andThen_ok]
  rw [hfk, g1]
  simp [hzv]
 ·refine ⟨e.val, by rw [g1]; exact g5, fun w ok hb => ?_⟩
  have hgo := MapKept.run_getObj_map (P := P) hb
  have hfk := MapKept.run_findKey (P := P) (w := w) h2 g3
  simp only [Instr.lookup, Sem.run_bind, run_underlying h1, Result.andThen_ok, hgo, Sem.run_pure]
  rw [h3]
  simp only [Result.andThen_ok]
  rw [hfk, g1]
  simp
theorem mem_own {es : List MapEntry} {clock : Nat} (hp : ([(b, Obj.map es.toArray clock)] ++ Mr).Perm M) {w : World} (hr : E.real G M w) : w.heap[b]? = some (.map es.toArray clock) :=
 hr.r.mu (b, .map es.toArray clock) (hp.mem_iff.1 (by simp))
theorem look_own {z0 : Value} {z : α} {ok : Bool} (ht : mapIK E.P t = some et) (hz : zvK E.P et = some z0) (hzz : V.R G z0 z) (hx : ev f x = .map (some b)) (hk : ev f kk = .int .i64 k) (hm : MpR V b G m Ms) (hp : (Ms ++ Mr).Perm M) :
  ∃ v, V.R G v ((getM m k).getD z) ∧ Ok E f G M ⟨some d, .lookup t x kk ok, ty, pos, aft, none⟩ (if ok = true then .tuple #[v, .bool (getM m k).isSome] else v) := by
 obtain ⟨es, clock, rfl, he⟩ := hm
 obtain ⟨v, h1, h2⟩ := look_run (b := b) (clock := clock) (k := k) ht hz hzz he
 refine ⟨v, h1, fun w hr => ?_⟩
 have := h2 w ok (mem_own hp hr)
 simp [execOp, hx, hk, this]
theorem setMap_real {es : List MapEntry} {clock : Nat} {o : Obj} {w : World} (hr : E.real G ((b, Obj.map es.toArray clock) :: Mr) w) : E.real G ((b, o) :: Mr) { w with heap := w.heap.setIfInBounds b o } :=
 ⟨Real.set (M₁ := []) hr.r, hr.le, hr.nw⟩
theorem W.mapUp {v : Value} {a : α} (ht : mapIK E.P t = some et) (hx : ev f x = .map (some b)) (hk : ev f kk = .int .i64 k) (hy : ev f y = v) (hm : MpR V b G m Ms) (hp : (Ms ++ Mr).Perm M) (ha : V.R G v a)
  (h : ∀ Ms', MpR V b G (putM m k a) Ms' → W E ops.toArray false rest f G (Ms' ++ Mr) K) : W E ops.toArray false (⟨none, .mapUpdate t x kk y, ty, pos, aft, none⟩ :: rest) f G M K := by
 intro a' w Q hi hr0 hK
 obtain ⟨es, clock, rfl, he⟩ := hm
 have hr := hr0.perm hp
 obtain ⟨kt, h1, h2, h3⟩ := mapIK_ok ht
 have hb : w.heap[b]? = some (.map es.toArray clock) := hr.r.mu (b, .map es.toArray clock) (by simp)
 have hgo := MapKept.run_getObj_map (P := E.P) hb
 have key : ∃ es' clock', MpE V G es' (putM m k a) ∧ (Instr.mapUpdate t (.map (some b)) (.int .i64 k) v).run E.P w = .ok () { w with heap := w.heap.setIfInBounds b (.map es'.toArray clock') } := by
  rcases find_mp (k := k) 0 he with ⟨g1, g2, g3, _⟩ | ⟨j, e, a2, g1, g2, g3, g4, g5, g6, _⟩
  ·refine ⟨_, clock + 1, g3 v a clock ha, ?_⟩
   have hfk := MapKept.run_findKey (P := E.P) (w := w) h2 g2
   have hset := MapKept.run_setObj_map (P := E.P) (.map (es.toArray.push ⟨.int .i64 k, v, clock⟩) (clock + 1)) hb
   simp only [Instr.mapUpdate, Sem.run_bind, run_underlying h1, Result.andThen_ok, hgo]
   rw [h3]
   simp only [Result.andThen_ok]
   rw [hfk]
   simp only [Result.andThen_ok, hset]
   congr 4
   simp
  ·refine ⟨_, clock, g6 v a ha, ?_⟩
   rw [Nat.zero_add] at g3
   have hfk := MapKept.run_findKey (P := E.P) (w := w) h2 g3
   have hset := MapKept.run_setObj_map (P := E.P) (.map (es.toArray.modify j fun e => { e with key := .int .i64 k, val := v }) clock) hb
   simp only [Instr.mapUpdate, Sem.run_bind, run_underlying h1, Result.andThen_ok, hgo]
   rw [h3]
   simp only [Result.andThen_ok]
   rw [hfk]
   have hsb : Instr.sameBits 10000 (((es.toArray[j]?).map (·.key)).getD (.int .i64 k)) (.int .i64 k) = true := by
    simp [g2, g4, Instr.sameBits]
   simp only [Result.andThen_ok, Instr.keyThatStays, hsb, if_true, Sem.run_pure]
   simp only [Sem.run_bind, Sem.run_pure, Result.andThen_ok, hset]
   congr 4
   simp
 obtain ⟨es', clock', k1, k2⟩ := key
 have hrun : (execOp (ev f) ⟨none, .mapUpdate t x kk y, ty, pos, aft, none⟩).run E.P w = .ok .skip { w with heap := w.heap.setIfInBounds b (.map es'.toArray clock') } := by
  simp [execOp, hx, hk, hy, k2]
 refine wpList_plain rfl fun K' hK' => ?_
 unfold Oper.wp
 rw [hi.eval, hrun]
 exact hK' _ _ (h _ ⟨es', clock', rfl, k1⟩ _ _ Q (hi.put_none undef) (setMap_real hr) hK)
theorem W.makeMap (h : ∀ b, MpR V b G [] [(b, .map #[] 0)] → W E ops.toArray false rest (upd f d (.map (some b))) G ((b, .map #[] 0) :: M) K) (hd : Nat.blt d E.n = true := by rfl) :
  W E ops.toArray false (⟨some d, .makeMap t none, ty, pos, aft, none⟩ :: rest) f G M K := by
 intro a w Q hi hr hK
 have hrun : (execOp (ev f) ⟨some d, .makeMap t none, ty, pos, aft, none⟩).run E.P w = .ok (.value (.map (some w.heap.size))) (w.alloc (.map #[] 0)) := by
  have h0 : (Instr.makeMap t none).run E.P w = .ok (.map (some w.heap.size)) (w.alloc (.map #[] 0)) := by simp [Instr.makeMap, newObj, Sem.run, bind, Sem.bind, pure]
  simp [execOp, h0]
 refine wpList_plain rfl fun K' hK' => ?_
 unfold Oper.wp
 rw [hi.eval, hrun]
 exact hK' _ _ (h _ ⟨[], 0, rfl, trivial⟩ _ _ Q (hi.put hd _) (hr.alloc _) hK)
end
theorem or3 {a b c d : Prop} (h : a ∨ (b ∧ (c ∨ d))) : a ∨ (b ∧ c) ∨ (b ∧ d) := h.imp id fun ⟨h1, h2⟩ => h2.imp (fun h3 => ⟨h1, h3⟩) (fun h3 => ⟨h1, h3⟩)
theorem leafN_ok {s : Int} (hs : i64 s) : (leafN s).Ok := ⟨hs, ⟨by show (-9223372036854775808 : Int) ≤ 0; omega, by show (0 : Int) ≤ 9223372036854775807; omega⟩, ⟨by show (-9223372036854775808 : Int) ≤ -1; omega, by show (-1 : Int) ≤ 9223372036854775807; omega⟩, ⟨by show (-9223372036854775808 : Int) ≤ 0; omega, by show (0 : Int) ≤ 9223372036854775807; omega⟩⟩
theorem pick_first {n : Nat} (h : 0 < n) : arOf n [] = arOf n [] ∧ takeL n [] (leafN 0) = ((0, 0), [leafN 0]) := ⟨rfl, by rw [takeL_t (by simpa using h)]; rfl⟩
def placedF (i : Int) : List Nd → Bool
 | [] => true
 | n :: l => decide (n.slot = i) && placedF (i + 1) l
theorem placed_iff : ∀ {l : List Nd} {i : Int}, placedF i l = true ↔ ∀ k (h : k < l.length), l[k].slot = i + k
 | [], i => by simp [placedF]
 | n :: l, i => by
  rw [placedF, Bool.and_eq_true, decide_eq_true_iff, placed_iff]
  constructor
  ·rintro ⟨h1, h2⟩ k hk
   cases k with
   | zero => simpa using h1
   | succ k => have := h2 k (by simp at hk; omega); simp; omega
  ·intro h
   refine ⟨by have := h 0 (by simp); simpa using this, fun k hk => ?_⟩
   have := h (k + 1) (by simp; omega)
   simp at this; omega
theorem placed_app : ∀ (a b : List Nd) (i : Int), placedF i (a ++ b) = (placedF i a && placedF (i + a.length) b)
 | [], b, i => by simp [placedF]
 | n :: a, b, i => by
  have e : i + ((n :: a).length : Nat) = i + 1 + (a.length : Nat) := by simp; omega
  rw [List.cons_append, placedF, placedF, placed_app a b, e, Bool.and_assoc]
theorem placed_succ {l : List Nd} {k : Nat} (hk : k < l.length) : placedF 0 (l.take (k + 1)) = (placedF 0 (l.take k) && decide (l[k].slot = k)) := by
 rw [List.take_succ_eq_append_getElem hk, placed_app]
 have e : (List.take k l).length = k := by rw [List.length_take]; omega
 rw [e]; simp [placedF]
theorem placed_step {l : List Nd} {k : Nat} (hk : k < l.length) (h : placedF 0 (l.take k) = true) (hs : l[k].slot = k) : placedF 0 (l.take (k + 1)) = true := by rw [placed_succ hk, h, decide_eq_true hs]; rfl
theorem placed_at {l : List Nd} (h : placedF 0 l = true) {k : Nat} (hk : k < l.length) : l[k].slot = k := by have := placed_iff.1 h k hk; omega
theorem placed_not {l : List Nd} {k : Nat} (hk : k < l.length) (h : ¬ l[k].slot = k) : placedF 0 l = false := by
 cases e : placedF 0 l
 ·rfl
 ·exact absurd (placed_at e hk) h
def ldN (l : List Nd) (k : Nat) : List Nd := if k = 0 then [leafN 0] else l.take k
theorem ld_len {l : List Nd} {k : Nat} (hk : k ≤ l.length) (h0 : 0 < k) : (ldN l k).length = k := by unfold ldN; rw [if_neg om9, List.length_take]; omega
theorem ld_0 {l : List Nd} (h : 0 < l.length) (hs : l[0].slot = 0) : (putL (ldN l 0) l[0]).2 = ldN l 1 := by
 have e : ldN l 0 = [leafN 0] := rfl
 rw [e, putL_t (by rw [hs]; exact ⟨om9, by simp⟩), hs]
 unfold ldN
 rw [if_neg om9]
 cases l with
 | nil => simp at h
 | cons n l => rfl
theorem ld_take {l : List Nd} {n k : Nat} (hk : k < l.length) (h0 : 0 < k) (hn : k < n) (hs : l[k].slot = k) : takeL n (ldN l k) l[k] = (((k : Int), 0), ldN l (k + 1)) := by
 have hl := ld_len (l := l) (k := k) om9 h0
 rw [takeL_t om9, hl]
 refine congrArg (Prod.mk _) ?_
 unfold ldN
 rw [if_neg om9, if_neg om9, List.take_succ_eq_append_getElem hk]
 congr 2
 rw [← hs]
theorem ld_full {l : List Nd} {n k : Nat} (hk : k ≤ l.length) (h0 : 0 < k) (hn : ¬ k < n) (x : Nd) : takeL n (ldN l k) x = ((0, 4), ldN l k) := takeL_f (by rw [ld_len hk h0]; exact hn)
theorem ld_put {l : List Nd} {k : Nat} (hk : k < l.length) (hs : l[k].slot = k) : (putL (ldN l (k + 1)) l[k]).2 = ldN l (k + 1) := by
 have hl := ld_len (l := l) (k := k + 1) om9 om9
 rw [putL_t (by rw [hs, hl]; omega), hs]
 show (ldN l (k + 1)).set ((k : Int)).toNat l[k] = _
 rw [Int.toNat_natCast]
 unfold ldN
 rw [if_neg om9]
 refine List.ext_getElem (by simp) fun i h1 h2 => ?_
 rw [List.getElem_set]
 split
 ·rename_i e; subst e; rw [List.getElem_take]
 ·rfl
theorem ld_all {l : List Nd} (h : 0 < l.length) : ldN l l.length = l := by unfold ldN; rw [if_neg om9, List.take_of_length_le (Nat.le_refl _)]
end Go.Fw

namespace Go.Fw
abbrev Ls := List (List Msg)
def stN (l : List Msg) : Int := Hd.st (l, 0)
theorem stN_at {l : List Msg} (h : 0 < l.length) : stN l = l[0].stamp := Hd.st_at (a := (l, 0)) h
structure Best (cur : Ls) (b : Nat) : Prop where
 lt : b < cur.length
 ne : 0 < cur[b].length
 min : ∀ j (h : j < cur.length), 0 < cur[j].length → stN cur[b] ≤ stN cur[j] ∧ (j < b → stN cur[b] < stN cur[j])
theorem Best.uniq {cur : Ls} {b c : Nat} (hb : Best cur b) (hc : Best cur c) : b = c := by
 have h1 := hb.min c hc.lt hc.ne
 have h2 := hc.min b hb.lt hb.ne
 rcases Nat.lt_trichotomy b c with h | h | h
 ·have := h2.2 h; omega
 ·exact h
 ·have := h1.2 h; omega
def totN (cur : Ls) : Nat := (cur.map List.length).sum
theorem totN_app (a b : Ls) : totN (a ++ b) = totN a + totN b := by simp [totN]
theorem totN_cons (a : List Msg) (b : Ls) : totN (a :: b) = a.length + totN b := by simp [totN]
open Classical in
noncomputable def mergeF : Nat → Ls → List Msg
 | 0, _ => []
 | f + 1, cur => if h : ∃ b, Best cur b then (cur[h.choose]'(h.choose_spec.lt))[0]'(h.choose_spec.ne) :: mergeF f (cur.set h.choose ((cur[h.choose]'(h.choose_spec.lt)).drop 1)) else []
noncomputable def mergeN (cur : Ls) : List Msg := mergeF (totN cur) cur
theorem mergeF_best {f : Nat} {cur : Ls} {b : Nat} (hb : Best cur b) : mergeF (f + 1) cur = (cur[b]'hb.lt)[0]'hb.ne :: mergeF f (cur.set b ((cur[b]'hb.lt).drop 1)) := by
 have h : ∃ b, Best cur b := ⟨b, hb⟩
 have e : h.choose = b := h.choose_spec.uniq hb
 rw [mergeF, dif_pos h]
 simp only [e]
theorem set_split {cur : Ls} {b : Nat} (h : b < cur.length) (t : List Msg) : cur.set b t = cur.take b ++ t :: cur.drop (b + 1) := by
 rw [List.set_eq_take_append_cons_drop, if_pos h]
theorem at_split {cur : Ls} {b : Nat} (h : b < cur.length) : cur = cur.take b ++ cur[b] :: cur.drop (b + 1) := by
 rw [← List.drop_eq_getElem_cons h, List.take_append_drop]
theorem totN_set {cur : Ls} {b : Nat} (hb : Best cur b) : totN (cur.set b ((cur[b]'hb.lt).drop 1)) + 1 = totN cur := by
 have h := hb.ne
 rw [set_split hb.lt]
 conv => rhs; rw [at_split hb.lt]
 rw [totN_app, totN_app, totN_cons, totN_cons, List.length_drop]
 omega
theorem merge_step {cur : Ls} {b : Nat} (hb : Best cur b) : mergeN cur = (cur[b]'hb.lt)[0]'hb.ne :: mergeN (cur.set b ((cur[b]'hb.lt).drop 1)) := by
 unfold mergeN
 rw [← totN_set hb, mergeF_best hb]
theorem totN_zero {cur : Ls} (h : ∀ i (hi : i < cur.length), cur[i].length = 0) : totN cur = 0 := by
 unfold totN
 rw [List.sum_eq_zero_iff_forall_eq_nat]
 intro x hx
 obtain ⟨l, hl, rfl⟩ := List.mem_map.1 hx
 obtain ⟨i, hi, rfl⟩ := List.getElem_of_mem hl
 exact h i hi
theorem merge_nil {cur : Ls} (h : ∀ i (hi : i < cur.length), cur[i].length = 0) : mergeN cur = [] := by
 unfold mergeN
 rw [totN_zero h]; rfl
theorem merge_tot : ∀ (n : Nat) (cur : Ls), totN cur = n → (mergeN cur).length ≤ n
 | 0, cur, h => by unfold mergeN; rw [h]; exact Nat.le_refl _
 | n + 1, cur, h => by
  by_cases hb : ∃ b, Best cur b
  ·obtain ⟨b, hb⟩ := hb
   rw [merge_step hb, List.length_cons]
   have := merge_tot n (cur.set b ((cur[b]'hb.lt).drop 1)) (by have := totN_set hb; omega)
   omega
  ·unfold mergeN; rw [h, mergeF, dif_neg hb]; simp
theorem merge_len (cur : Ls) : (mergeN cur).length ≤ totN cur := merge_tot _ cur rfl
end Go.Fw

namespace Go.Fw
abbrev nats (ps : List Nat) : List Int := ps.map fun n : Nat => (n : Int)
def curN (ls : Ls) (ps : List Nat) : Ls := List.zipWith (fun l p => l.drop p) ls ps
theorem curN_len {ls : Ls} {ps : List Nat} (h : ps.length = ls.length) : (curN ls ps).length = ls.length := by simp [curN, h]
theorem curN_at {ls : Ls} {ps : List Nat} {i : Nat} (h : i < ls.length) (h2 : i < ps.length) (h3 : i < (curN ls ps).length) : (curN ls ps)[i] = ls[i].drop ps[i] := by simp [curN]
theorem curN_atlen {ls : Ls} {ps : List Nat} {i : Nat} (h : i < ls.length) (h2 : i < ps.length) (h3 : i < (curN ls ps).length) : (curN ls ps)[i].length = ls[i].length - ps[i] := by rw [curN_at h h2, List.length_drop]
theorem curN_zero (ls : Ls) : curN ls (List.replicate ls.length 0) = ls := by
 refine List.ext_getElem (by rw [curN_len (by simp)]) fun i h1 h2 => ?_
 rw [curN_at h2 (by simpa using h2)]
 simp
theorem curN_st {ls : Ls} {ps : List Nat} {i : Nat} (h : i < ls.length) (h2 : i < ps.length) (h3 : i < (curN ls ps).length) (h4 : ps[i] < ls[i].length) : stN (curN ls ps)[i] = (ls[i])[ps[i]].stamp := by
 rw [curN_at h h2, stN_at (by rw [List.length_drop]; omega), List.getElem_drop]
 simp
theorem curN_hd {ls : Ls} {ps : List Nat} {i : Nat} (h : i < ls.length) (h2 : i < ps.length) (h3 : i < (curN ls ps).length) (h4 : ps[i] < ls[i].length) (h5 : 0 < (curN ls ps)[i].length) : ((curN ls ps)[i])[0] = (ls[i])[ps[i]] := by
 rw [List.getElem_of_eq (curN_at h h2 h3) h5, List.getElem_drop]
 simp
theorem curN_set {ls : Ls} {ps : List Nat} {b : Nat} (hl : ps.length = ls.length) (h : b < ls.length) (h2 : b < ps.length) (h3 : b < (curN ls ps).length) : (curN ls ps).set b ((curN ls ps)[b].drop 1) = curN ls (ps.set b (ps[b] + 1)) := by
 have e1 := curN_len hl
 have e2 := curN_len (ls := ls) (ps := ps.set b (ps[b] + 1)) (by rw [List.length_set]; exact hl)
 refine List.ext_getElem (by rw [List.length_set]; omega) fun i h4 h5 => ?_
 have e3 := curN_at (ls := ls) (ps := ps.set b (ps[b] + 1)) (i := i) om9 (by rw [List.length_set]; omega) h5
 rw [e3, List.getElem_set, List.getElem_set]
 split
 ·rename_i e
  subst e
  rw [curN_at h h2, List.drop_drop]
 ·rw [curN_at om9 om9]
theorem len_tot {ls : Ls} {i : Nat} (h : i < ls.length) : ls[i].length ≤ totN ls := by
 conv => rhs; rw [at_split h]
 rw [totN_app, totN_cons]; omega
def BI (C : Ls) (j : Nat) (c : Int) : Prop := (c = -1 ∧ ∀ q (h : q < C.length), q < j → C[q].length = 0) ∨
 ∃ b : Nat, ∃ h : b < C.length, c = b ∧ b < j ∧ 0 < C[b].length ∧ ∀ q (hq : q < C.length), q < j → 0 < C[q].length → stN C[b] ≤ stN C[q] ∧ (q < b → stN C[b] < stN C[q])
theorem BI_nil (C : Ls) : BI C 0 (-1) := .inl ⟨rfl, fun q _ h => by omega⟩
theorem BI_skip {C : Ls} {j : Nat} {c : Int} (h : BI C j c) (hj : j < C.length) (hz : C[j].length = 0) : BI C (j + 1) c := by
 rcases h with ⟨h1, h2⟩ | ⟨b, hb, h1, h2, h3, h4⟩
 ·exact .inl ⟨h1, fun q hq hqj => by
   by_cases e : q = j
   ·subst e; exact hz
   ·exact h2 q hq om9⟩
 ·exact .inr ⟨b, hb, h1, om9, h3, fun q hq hqj hn => by
   by_cases e : q = j
   ·subst e; omega
   ·exact h4 q hq om9 hn⟩
theorem BI_first {C : Ls} {j : Nat} {c : Int} (h : BI C j c) (hc : c < 0) (hj : j < C.length) (hn : 0 < C[j].length) : BI C (j + 1) j := by
 rcases h with ⟨h1, h2⟩ | ⟨b, hb, h1, h2, h3, h4⟩
 ·exact .inr ⟨j, hj, rfl, om9, hn, fun q hq hqj hqn => by
   by_cases e : q = j
   ·subst e; exact ⟨Int.le_refl _, fun h => by omega⟩
   ·have := h2 q hq om9; omega⟩
 ·omega
theorem BI_less {C : Ls} {j b : Nat} (h : BI C j b) (hb : b < C.length) (hj : j < C.length) (hn : 0 < C[j].length) (hl : stN C[j] < stN C[b]) : BI C (j + 1) j := by
 rcases h with ⟨h1, h2⟩ | ⟨b', hb', h1, h2, h3, h4⟩
 ·omega
 ·have e : b' = b := om9
  subst e
  exact .inr ⟨j, hj, rfl, om9, hn, fun q hq hqj hqn => by
   by_cases e : q = j
   ·subst e; exact ⟨Int.le_refl _, fun h => by omega⟩
   ·have := h4 q hq om9 hqn
    exact ⟨om9, fun _ => by omega⟩⟩
theorem BI_keep {C : Ls} {j b : Nat} (h : BI C j b) (hb : b < C.length) (hj : j < C.length) (hl : ¬ stN C[j] < stN C[b]) : BI C (j + 1) b := by
 rcases h with ⟨h1, h2⟩ | ⟨b', hb', h1, h2, h3, h4⟩
 ·omega
 ·have e : b' = b := om9
  subst e
  exact .inr ⟨b', hb', rfl, om9, h3, fun q hq hqj hqn => by
   by_cases e : q = j
   ·subst e; exact ⟨om9, fun h => by omega⟩
   ·exact h4 q hq om9 hqn⟩
theorem BI_best {C : Ls} {j : Nat} {c : Int} (h : BI C j c) (hc : ¬ c < 0) : ∃ b : Nat, ∃ hb : b < C.length, c = b ∧ b < j ∧ 0 < C[b].length := by
 rcases h with ⟨h1, h2⟩ | ⟨b, hb, h1, h2, h3, h4⟩
 ·omega
 ·exact ⟨b, hb, h1, h2, h3⟩
theorem BI_end {C : Ls} {j : Nat} {c : Int} (h : BI C j c) (hj : C.length ≤ j) (hc : c < 0) : mergeN C = [] := by
 rcases h with ⟨h1, h2⟩ | ⟨b, hb, h1, h2, h3, h4⟩
 ·exact merge_nil fun i hi => h2 i hi om9
 ·omega
theorem BI_done {C : Ls} {j b : Nat} (h : BI C j b) (hj : C.length ≤ j) : Best C b := by
 rcases h with ⟨h1, h2⟩ | ⟨b', hb, h1, h2, h3, h4⟩
 ·omega
 ·have e : b' = b := om9
  subst e
  exact ⟨hb, h3, fun q hq hqn => h4 q hq om9 hqn⟩
end Go.Fw

namespace Go.Fw
open Go Go.RowKit
structure Seat where
 n : Nd
 s : Span
 ms : List Msg
instance : Inhabited Seat := ⟨⟨Nd.zero, Span.zero, []⟩⟩
def SeatC (G : GH) (cs : List Value) (x : Seat) : Prop :=
 ∃ a1 c1 a2 c2 a3 c3 a4 c4 a5 c5, cs = [.int .i64 x.n.slot, .int .i64 x.n.level, .slice a1 x.n.pivots.length c1, .slice a2 x.n.kids.length c2, .string x.n.high.b, .bool x.n.top, .int .i64 x.n.right, .int .i64 x.n.seen, .slice a3 x.n.msgs.length c3, .slice a4 x.n.rows.length c4, .string x.s.lo.b, .string x.s.hi.b, .bool x.s.opn, .slice a5 x.ms.length c5] ∧
  SlR eStr G (.slice a1 x.n.pivots.length c1) x.n.pivots ∧ SlR eInt G (.slice a2 x.n.kids.length c2) x.n.kids ∧ SlR eMsg G (.slice a3 x.n.msgs.length c3) x.n.msgs ∧ SlR ePair G (.slice a4 x.n.rows.length c4) x.n.rows ∧ SlR eMsg G (.slice a5 x.ms.length c5) x.ms ∧ x.n.Ok
theorem SeatC.mono {G G' : GH} {cs x} (hl : Le G G') (h : SeatC G cs x) : SeatC G' cs x := by
 obtain ⟨a1, c1, a2, c2, a3, c3, a4, c4, a5, c5, h0, h1, h2, h3, h4, h5, h6⟩ := h
 exact ⟨a1, c1, a2, c2, a3, c3, a4, c4, a5, c5, h0, h1.mono hl, h2.mono hl, h3.mono hl, h4.mono hl, h5.mono hl, h6⟩
def eSeat : Enc Seat where
 k := 14
 w := 216
 R := SeatC
 mono := fun hl h => h.mono hl
 len := fun h => by obtain ⟨a1, c1, a2, c2, a3, c3, a4, c4, a5, c5, h0, _⟩ := h; rw [h0]; rfl
 one := fun h u hu => by
  obtain ⟨a1, c1, a2, c2, a3, c3, a4, c4, a5, c5, h0, _⟩ := h
  rw [h0] at hu
  simp at hu
  rcases hu with rfl | rfl | rfl | rfl | rfl | rfl | rfl | rfl | rfl | rfl | rfl | rfl | rfl | rfl <;> rfl
theorem WD.doneP {E : Env} {f : Fr} {G : GH} {M M1 M' Mk : MH} {ops : Array Oper} {K : Kt} {fuel : Nat} {listed : Array Bool} (hr : Region.ready .any ops listed = []) (hs : M1.Sublist M) (hp : M'.Perm M1) (h : K f G M') : WD E ops fuel listed f G M Mk K := fun _ a w Q hi hw _ hK =>
 wpAnyH_done hr (hK _ _ _ _ _ hi ⟨(hw.r.sub hs).perm hp, hw.le, hw.nw⟩ h) fuel
def atS (l : List Nd) (i : Int) : List Nd := l.filter fun n => decide (n.slot = i)
def findN (l : List Nd) (i : Int) : Nd × Bool := ((atS l i).getLast?.getD Nd.zero, decide ((atS l i).length = 1))
theorem atS_t {l : List Nd} {i : Int} {k : Nat} (hk : k < l.length) (h : l[k].slot = i) : atS (l.take (k + 1)) i = atS (l.take k) i ++ [l[k]] := filt_t hk (decide_eq_true h)
theorem atS_f {l : List Nd} {i : Int} {k : Nat} (hk : k < l.length) (h : ¬ l[k].slot = i) : atS (l.take (k + 1)) i = atS (l.take k) i := filt_f hk (decide_eq_false h)
theorem atS_len (l : List Nd) (i : Int) (k : Nat) : (atS (l.take k) i).length ≤ l.length := filt_le _ l k
theorem SlR.nok {G : GH} {v : Value} {l : List Nd} (h : SlR eNode G v l) : ∀ n ∈ l, n.Ok := by
 intro n hn
 obtain ⟨i, hi, rfl⟩ := List.getElem_of_mem hn
 obtain ⟨cs, _, hr⟩ := h.at hi
 obtain ⟨_, _, _, _, _, _, _, _, _, _, _, _, _, hok⟩ := hr
 exact hok
theorem find_b {l : List Nd} {i : Int} {k : Nat} (h : l.length ≤ k) : decide ((((atS (l.take k) i).length : Nat) : Int) = 1) = (findN l i).2 := by
 rw [List.take_of_length_le h]; exact decide_eq_decide.2 om9
theorem find_n {l : List Nd} {i : Int} {k : Nat} (h : l.length ≤ k) : (atS (l.take k) i).getLast?.getD Nd.zero = (findN l i).1 := by
 rw [List.take_of_length_le h]; rfl
theorem last_snoc {l : List Nd} {x d : Nd} : (l ++ [x]).getLast?.getD d = x := by simp
noncomputable def kidSt (l : List Nd) (x : Seat) (j : Nat) : Seat :=
 ⟨(findN l (x.n.kids.getD j 0)).1, x.s.meet (rangeN x.n.pivots (j : Int)), mergeN [clips (x.s.meet (rangeN x.n.pivots (j : Int))) x.n.msgs, clips (x.s.meet (rangeN x.n.pivots (j : Int))) x.ms]⟩
def kidOk (l : List Nd) (x : Seat) (j : Nat) : Bool := (findN l (x.n.kids.getD j 0)).2 && decide ((findN l (x.n.kids.getD j 0)).1.level = x.n.level - 1)
noncomputable def kidsF (l : List Nd) (x : Seat) (j : Nat) : List Seat := (List.range j).map (kidSt l x)
noncomputable def kidsO (l : List Nd) (x : Seat) : Option (List Seat) :=
 if x.n.level = 0 then some []
 else if x.n.level < 0 ∨ rightN x.n.pivots x.n.kids.length = false then none
 else if (List.range x.n.kids.length).all (kidOk l x) = true then some (kidsF l x x.n.kids.length) else none
noncomputable def kidsD (l : List Nd) (x : Seat) : List Seat := (kidsO l x).getD []
theorem kidsO_0 {l : List Nd} {x : Seat} (h : x.n.level = 0) : kidsO l x = some [] := if_pos h
theorem kidsO_n {l : List Nd} {x : Seat} (h0 : ¬ x.n.level = 0) (h : x.n.level < 0 ∨ rightN x.n.pivots x.n.kids.length = false) : kidsO l x = none := by rw [kidsO, if_neg h0, if_pos h]
theorem kidsO_f {l : List Nd} {x : Seat} {j : Nat} (h0 : ¬ x.n.level = 0) (hj : j < x.n.kids.length) (hf : kidOk l x j = false) : kidsO l x = none := by
 rw [kidsO, if_neg h0]
 split
 ·rfl
 ·rw [if_neg]
  intro h
  have := List.all_eq_true.1 h j (List.mem_range.2 hj)
  rw [hf] at this; cases this
theorem kidsO_t {l : List Nd} {x : Seat} (h0 : ¬ x.n.level = 0) (h1 : ¬ x.n.level < 0) (h2 : rightN x.n.pivots x.n.kids.length = true) (h : ∀ j, j < x.n.kids.length → kidOk l x j = true) : kidsO l x = some (kidsF l x x.n.kids.length) := by
 rw [kidsO, if_neg h0, if_neg (by rintro (h | h); exact h1 h; rw [h2] at h; cases h), if_pos]
 exact List.all_eq_true.2 fun j hj => h j (List.mem_range.1 hj)
theorem kidsF_succ (l : List Nd) (x : Seat) (j : Nat) : kidsF l x (j + 1) = kidsF l x j ++ [kidSt l x j] := by simp [kidsF, List.range_succ]
theorem kidsF_len (l : List Nd) (x : Seat) (j : Nat) : (kidsF l x j).length = j := by simp [kidsF]
noncomputable def seatsF (l : List Nd) : Nat → Nat → List Seat → Option (List Seat)
 | 0, _, _ => none
 | f + 1, i, out => if h : i < out.length then if l.length < out.length then none else match kidsO l out[i] with
   | none => none
   | some ks => seatsF l f (i + 1) (out ++ ks)
  else some out
noncomputable def rootS (l : List Nd) (root : Int) : Seat := ⟨(findN l root).1, Span.all, []⟩
noncomputable def seatsN (l : List Nd) (root : Int) : Option (List Seat) := if (findN l root).2 = true then seatsF l (l.length + 2) 0 [rootS l root] else none
theorem seatsF_done {l : List Nd} {f i : Nat} {out : List Seat} (h : ¬ i < out.length) : seatsF l (f + 1) i out = some out := by rw [seatsF, dif_neg h]
theorem seatsF_long {l : List Nd} {f i : Nat} {out : List Seat} (h : i < out.length) (hl : l.length < out.length) : seatsF l (f + 1) i out = none := by rw [seatsF, dif_pos h, if_pos hl]
theorem seatsF_none {l : List Nd} {f i : Nat} {out : List Seat} (h : i < out.length) (hk : kidsO l out[i] = none) : seatsF l (f + 1) i out = none := by
 rw [seatsF, dif_pos h]
 split
 ·rfl
 ·rw [hk]
theorem seatsF_some {l : List Nd} {f i : Nat} {out ks : List Seat} (h : i < out.length) (hl : ¬ l.length < out.length) (hk : kidsO l out[i] = some ks) : seatsF l (f + 1) i out = seatsF l f (i + 1) (out ++ ks) := by
 rw [seatsF, dif_pos h, if_neg hl, hk]
structure QOk (l : List Nd) (root : Int) (i : Nat) (out : List Seat) : Prop where
 le : i ≤ out.length
 pos : 0 < out.length
 len : i ≤ l.length
 eq : seatsN l root = seatsF l (l.length + 2 - i) i out
theorem QOk.init {l : List Nd} {root : Int} (h : (findN l root).2 = true) : QOk l root 0 [rootS l root] := ⟨Nat.zero_le _, by simp, Nat.zero_le _, by rw [seatsN, if_pos h]; rfl⟩
theorem fuel_succ {n i : Nat} (h : i ≤ n) : n + 2 - i = (n + 1 - i) + 1 := om9
theorem QOk.done {l : List Nd} {root : Int} {i : Nat} {out : List Seat} (h : QOk l root i out) (hi : ¬ i < out.length) : seatsN l root = some out := by
 rw [h.eq, fuel_succ h.len, seatsF_done hi]
theorem QOk.long {l : List Nd} {root : Int} {i : Nat} {out : List Seat} (h : QOk l root i out) (hi : i < out.length) (hl : l.length < out.length) : seatsN l root = none := by
 rw [h.eq, fuel_succ h.len, seatsF_long hi hl]
theorem QOk.none {l : List Nd} {root : Int} {i : Nat} {out : List Seat} (h : QOk l root i out) (hi : i < out.length) (hk : kidsO l out[i] = none) : seatsN l root = none := by
 rw [h.eq, fuel_succ h.len, seatsF_none hi hk]
theorem QOk.next {l : List Nd} {root : Int} {i : Nat} {out ks : List Seat} (h : QOk l root i out) (hi : i < out.length) (hl : ¬ l.length < out.length) (hk : kidsO l out[i] = some ks) : QOk l root (i + 1) (out ++ ks) :=
 ⟨by rw [List.length_append]; omega, by rw [List.length_append]; omega, om9, by rw [h.eq, fuel_succ h.len, seatsF_some hi hl hk]; congr 1; omega⟩
def Sml (l : List Nd) : Prop := l.length ≤ 4096 ∧ ∀ n ∈ l, n.kids.length ≤ 4000 ∧ n.pivots.length ≤ 4000 ∧ n.msgs.length ≤ 4000 ∧ n.rows.length ≤ 4000 ∧ n.high.b.size ≤ 4000 ∧ (∀ m ∈ n.msgs, m.key.b.size ≤ 4000 ∧ m.hi.b.size ≤ 4000 ∧ m.val.b.size ≤ 4000) ∧ (∀ p ∈ n.pivots, p.b.size ≤ 4000) ∧ ∀ p ∈ n.rows, p.key.b.size ≤ 4000 ∧ p.val.b.size ≤ 4000
theorem Sml.zero : (Nd.zero.kids.length ≤ 4000 ∧ Nd.zero.pivots.length ≤ 4000 ∧ Nd.zero.msgs.length ≤ 4000 ∧ Nd.zero.rows.length ≤ 4000 ∧ Nd.zero.high.b.size ≤ 4000 ∧ (∀ m ∈ Nd.zero.msgs, m.key.b.size ≤ 4000 ∧ m.hi.b.size ≤ 4000 ∧ m.val.b.size ≤ 4000) ∧ (∀ p ∈ Nd.zero.pivots, p.b.size ≤ 4000) ∧ ∀ p ∈ Nd.zero.rows, p.key.b.size ≤ 4000 ∧ p.val.b.size ≤ 4000) := by
 refine ⟨by decide, by decide, by decide, by decide, by decide, ?_, ?_, ?_⟩ <;> (intro m hm; cases hm)
theorem Sml.find {l : List Nd} (h : Sml l) (i : Int) : (findN l i).1 = Nd.zero ∨ (findN l i).1 ∈ l := by
 unfold findN
 cases e : (atS l i).getLast? with
 | none => exact .inl rfl
 | some n => exact .inr (List.mem_filter.1 (List.mem_of_getLast? e)).1
theorem best_or (C : Ls) : (∀ q (h : q < C.length), C[q].length = 0) ∨ ∃ b, Best C b := by
 have key : ∀ j, j ≤ C.length → ∃ c : Int, BI C j c := by
  intro j
  induction j with
  | zero => intro _; exact ⟨-1, BI_nil C⟩
  | succ j ih =>
   intro hj
   obtain ⟨c, hc⟩ := ih om9
   by_cases hz : C[j].length = 0
   ·exact ⟨c, BI_skip hc om9 hz⟩
   ·by_cases h0 : c < 0
    ·exact ⟨j, BI_first hc h0 om9 om9⟩
    ·obtain ⟨b, hb, rfl, hbj, _⟩ := BI_best hc h0
     by_cases hl : stN C[j] < stN C[b]
     ·exact ⟨j, BI_less hc hb om9 om9 hl⟩
     ·exact ⟨b, BI_keep hc hb om9 hl⟩
 obtain ⟨c, hc⟩ := key C.length (Nat.le_refl _)
 by_cases h0 : c < 0
 ·rcases hc with ⟨h1, h2⟩ | ⟨b, hb, h1, _⟩
  ·exact .inl fun q h => h2 q h h
  ·omega
 ·obtain ⟨b, hb, rfl, _, _⟩ := BI_best hc h0
  exact .inr ⟨b, BI_done hc (Nat.le_refl _)⟩
theorem flat_nil {C : Ls} (h : ∀ q (h : q < C.length), C[q].length = 0) : C.flatten = [] := by
 rw [List.flatten_eq_nil_iff]
 intro L hL
 obtain ⟨i, hi, rfl⟩ := List.getElem_of_mem hL
 exact List.eq_nil_of_length_eq_zero (h i hi)
theorem perm_hd {A R X : List Msg} (h : 0 < X.length) : (X[0] :: (A ++ (X.drop 1 ++ R))).Perm (A ++ (X ++ R)) := by
 cases X with
 | nil => simp at h
 | cons x X => exact List.perm_middle.symm
theorem flat_best {C : Ls} {b : Nat} (hb : Best C b) : ((C[b]'hb.lt)[0]'hb.ne :: (C.set b ((C[b]'hb.lt).drop 1)).flatten).Perm C.flatten := by
 have e1 : (C.set b ((C[b]'hb.lt).drop 1)).flatten = (C.take b).flatten ++ ((C[b]'hb.lt).drop 1 ++ (C.drop (b + 1)).flatten) := by
  rw [set_split hb.lt, List.flatten_append, List.flatten_cons]
 have e2 : C.flatten = (C.take b).flatten ++ (C[b]'hb.lt ++ (C.drop (b + 1)).flatten) := by
  conv => lhs; rw [at_split hb.lt]
  rw [List.flatten_append, List.flatten_cons]
 have h := perm_hd (A := (C.take b).flatten) (R := (C.drop (b + 1)).flatten) hb.ne
 rw [← e1, ← e2] at h
 exact h
theorem merge_perm : ∀ (n : Nat) (C : Ls), totN C = n → (mergeN C).Perm C.flatten := by
 intro n
 induction n with
 | zero =>
  intro C h
  rcases best_or C with h1 | ⟨b, hb⟩
  ·rw [merge_nil h1, flat_nil h1]
  ·have := totN_set hb; omega
 | succ n ih =>
  intro C h
  rcases best_or C with h1 | ⟨b, hb⟩
  ·rw [merge_nil h1, flat_nil h1]
  ·rw [merge_step hb]
   exact ((ih _ (by have := totN_set hb; omega)).cons _).trans (flat_best hb)
theorem merge_mem {C : Ls} {m : Msg} : m ∈ mergeN C ↔ ∃ L ∈ C, m ∈ L := by
 rw [(merge_perm _ C rfl).mem_iff, List.mem_flatten]
def Rst (l : List Msg) : Prop := l.Pairwise fun a b => a.stamp < b.stamp
theorem merge_sorted : ∀ (n : Nat) (C : Ls) (S : List Msg), totN C = n → (∀ L ∈ C, Rst L) → S.Perm C.flatten → Rst S → mergeN C = S := by
 intro n
 induction n with
 | zero =>
  intro C S h _ hp _
  rcases best_or C with h1 | ⟨b, hb⟩
  ·rw [flat_nil h1] at hp
   rw [merge_nil h1, List.Perm.eq_nil hp]
  ·have := totN_set hb; omega
 | succ n ih =>
  intro C S h hC hp hS
  rcases best_or C with h1 | ⟨b, hb⟩
  ·rw [flat_nil h1] at hp
   rw [merge_nil h1, List.Perm.eq_nil hp]
  ·have hf := flat_best hb
   rw [merge_step hb]
   cases S with
   | nil => have := (hp.trans hf.symm).length_eq; simp at this
   | cons s S =>
    have hp2 := hp.trans hf.symm
    have e : s = (C[b]'hb.lt)[0]'hb.ne := by
     have hs : s ∈ C.flatten := hp.mem_iff.1 (by simp)
     have hc : (C[b]'hb.lt)[0]'hb.ne ∈ s :: S := hp2.mem_iff.2 (by simp)
     rcases List.mem_cons.1 hc with h | h
     ·exact h.symm
     ·have h2 := (List.pairwise_cons.1 hS).1 _ h
      obtain ⟨L, hL, hsL⟩ := List.mem_flatten.1 hs
      obtain ⟨j, hj, rfl⟩ := List.getElem_of_mem hL
      obtain ⟨q, hq, rfl⟩ := List.getElem_of_mem hsL
      have h3 := (hb.min j hj om9).1
      rw [stN_at hb.ne, stN_at (show 0 < C[j].length by omega)] at h3
      have h4 : (C[j][0]'om9).stamp ≤ C[j][q].stamp := by
       by_cases e0 : q = 0
       ·subst e0; exact Int.le_refl _
       ·exact Int.le_of_lt (List.pairwise_iff_getElem.1 (hC _ (List.getElem_mem hj)) 0 q om9 hq om9)
      omega
    subst e
    congr 1
    refine ih _ S (by have := totN_set hb; omega) ?_ (List.Perm.cons_inv hp2) (List.pairwise_cons.1 hS).2
    intro L hL
    rcases List.mem_or_eq_of_mem_set hL with h | h
    ·exact hC _ h
    ·subst h; exact List.Pairwise.sublist (List.drop_sublist _ _) (hC _ (List.getElem_mem _))
theorem meet_sizes {a b : Span} {n : Nat} (ha : a.lo.b.size ≤ n ∧ a.hi.b.size ≤ n) (hb : b.lo.b.size ≤ n ∧ b.hi.b.size ≤ n) : (a.meet b).lo.b.size ≤ n ∧ (a.meet b).hi.b.size ≤ n := by
 unfold Span.meet
 refine norm_sizes ?_ ?_
 ·dsimp only; split; exact hb.1; exact ha.1
 ·dsimp only; split; exact hb.2; exact ha.2
theorem range_sizes {p : List Str} {i : Int} {n : Nat} (h : ∀ k ∈ p, k.b.size ≤ n) : (rangeN p i).lo.b.size ≤ n ∧ (rangeN p i).hi.b.size ≤ n := by
 have h0 : Str.nil.b.size = 0 := rfl
 have hg : ∀ j, (p.getD j Str.nil).b.size ≤ n := by
  intro j
  by_cases hj : j < p.length
  ·rw [getD_in hj]; exact h _ (List.getElem_mem _)
  ·rw [getD_out om9]; omega
 unfold rangeN
 split
 ·exact ⟨by show Str.nil.b.size ≤ n; omega, by show Str.nil.b.size ≤ n; omega⟩
 ·refine norm_sizes ?_ (hg _)
  dsimp only; split
  ·exact hg _
  ·omega
theorem clip_szs {m : Msg} {s : Span} {n : Nat} (hm : m.key.b.size ≤ n ∧ m.hi.b.size ≤ n ∧ m.val.b.size ≤ n) (hs : s.lo.b.size ≤ n ∧ s.hi.b.size ≤ n) (h : (m.clip s).2 = true) : (m.clip s).1.key.b.size ≤ n ∧ (m.clip s).1.hi.b.size ≤ n ∧ (m.clip s).1.val.b.size ≤ n := by
 rw [(clip_of h).2]
 by_cases h4 : m.kind = 4
 ·rw [if_pos h4]
  have e : m.span = ⟨m.key, m.hi, m.opn⟩ := by unfold Msg.span; rw [if_pos h4]
  have := meet_sizes (a := m.span) (b := s) (by rw [e]; exact ⟨hm.1, hm.2.1⟩) hs
  exact ⟨this.1, this.2, hm.2.2⟩
 ·rw [if_neg h4]; exact hm
theorem clips_szs {l : List Msg} {s : Span} {n : Nat} (hm : ∀ m ∈ l, m.key.b.size ≤ n ∧ m.hi.b.size ≤ n ∧ m.val.b.size ≤ n) (hs : s.lo.b.size ≤ n ∧ s.hi.b.size ≤ n) : ∀ m ∈ clips s l, m.key.b.size ≤ n ∧ m.hi.b.size ≤ n ∧ m.val.b.size ≤ n := fun m h => by
 obtain ⟨a, ha, h1, rfl⟩ := clips_mem h
 exact clip_szs (hm a ha) hs h1
structure SeatS (l : List Nd) (p : Nat) (x : Seat) : Prop where
 nd : x.n = Nd.zero ∨ x.n ∈ l
 ms : x.ms.length ≤ 4000 * p
 sp : x.s.lo.b.size ≤ 4000 ∧ x.s.hi.b.size ≤ 4000
 key : ∀ m ∈ x.ms, m.key.b.size ≤ 4000 ∧ m.hi.b.size ≤ 4000 ∧ m.val.b.size ≤ 4000
def NdS (n : Nd) : Prop := n.kids.length ≤ 4000 ∧ n.pivots.length ≤ 4000 ∧ n.msgs.length ≤ 4000 ∧ n.rows.length ≤ 4000 ∧ n.high.b.size ≤ 4000 ∧ (∀ m ∈ n.msgs, m.key.b.size ≤ 4000 ∧ m.hi.b.size ≤ 4000 ∧ m.val.b.size ≤ 4000) ∧ (∀ p ∈ n.pivots, p.b.size ≤ 4000) ∧ ∀ p ∈ n.rows, p.key.b.size ≤ 4000 ∧ p.val.b.size ≤ 4000
theorem Sml.at {l : List Nd} (h : Sml l) {n : Nd} (hn : n = Nd.zero ∨ n ∈ l) : NdS n := by
 rcases hn with rfl | hn
 ·exact Sml.zero
 ·exact h.2 n hn
theorem SeatS.root {l : List Nd} (h : Sml l) (root : Int) : SeatS l 0 (rootS l root) := ⟨h.find root, Nat.le_refl _, ⟨by show Str.nil.b.size ≤ 4000; decide, by show Str.nil.b.size ≤ 4000; decide⟩, fun m hm => by cases hm⟩
theorem kid_sp {l : List Nd} (h : Sml l) {p : Nat} {x : Seat} (hx : SeatS l p x) (j : Nat) : (x.s.meet (rangeN x.n.pivots (j : Int))).lo.b.size ≤ 4000 ∧ (x.s.meet (rangeN x.n.pivots (j : Int))).hi.b.size ≤ 4000 :=
 meet_sizes hx.sp (range_sizes (h.at hx.nd).2.2.2.2.2.2.1)
theorem kid_tot {l : List Nd} (h : Sml l) {p : Nat} {x : Seat} (hx : SeatS l p x) (s : Span) : totN [clips s x.n.msgs, clips s x.ms] ≤ 4000 * (p + 1) := by
 have h1 : (clips s x.n.msgs).length ≤ x.n.msgs.length := clips_le
 have h2 : (clips s x.ms).length ≤ x.ms.length := clips_le
 have h3 := (h.at hx.nd).2.2.1
 have h4 := hx.ms
 have h5 : totN [] = 0 := rfl
 rw [totN_cons, totN_cons, h5]
 omega
theorem SeatS.kid {l : List Nd} (h : Sml l) {p q : Nat} {x : Seat} (hx : SeatS l p x) (hq : p < q) (j : Nat) : SeatS l q (kidSt l x j) := by
 refine ⟨h.find _, ?_, kid_sp h hx j, ?_⟩
 ·have h1 := merge_len [clips (x.s.meet (rangeN x.n.pivots (j : Int))) x.n.msgs, clips (x.s.meet (rangeN x.n.pivots (j : Int))) x.ms]
  have h2 := kid_tot h hx (x.s.meet (rangeN x.n.pivots (j : Int)))
  show (mergeN _).length ≤ _
  omega
 ·intro m hm
  obtain ⟨L, hL, hmL⟩ := merge_mem.1 hm
  simp only [List.mem_cons, List.not_mem_nil, or_false] at hL
  rcases hL with rfl | rfl
  ·exact clips_szs (h.at hx.nd).2.2.2.2.2.1 (kid_sp h hx j) m hmL
  ·exact clips_szs hx.key (kid_sp h hx j) m hmL
def QS (l : List Nd) (out : List Seat) : Prop := ∀ p (h : p < out.length), SeatS l p out[p]
theorem QS.init {l : List Nd} (h : Sml l) (root : Int) : QS l [rootS l root] := fun p hp => by
 have : p = 0 := by simp at hp; omega
 subst this; exact SeatS.root h root
theorem QS.snoc {l : List Nd} (h : Sml l) {out : List Seat} (ho : QS l out) {i : Nat} {x : Seat} (hx : SeatS l i x) (hi : i < out.length) (j : Nat) : QS l (out ++ [kidSt l x j]) := fun p hp => by
 rw [List.getElem_append]
 split
 ·exact ho p (by assumption)
 ·simp only [List.getElem_singleton]
  exact hx.kid h om9 j
theorem kidOk_a {l : List Nd} {x : Seat} {j : Nat} (hj : j < x.n.kids.length) (h : (findN l x.n.kids[j]).2 = false) : kidOk l x j = false := by
 unfold kidOk
 rw [List.getD_eq_getElem?_getD, List.getElem?_eq_getElem hj]
 show ((findN l x.n.kids[j]).2 && _) = false
 rw [h]; rfl
theorem kidOk_b {l : List Nd} {x : Seat} {j : Nat} (hj : j < x.n.kids.length) (h : ¬ (findN l x.n.kids[j]).1.level = x.n.level - 1) : kidOk l x j = false := by
 unfold kidOk
 rw [List.getD_eq_getElem?_getD, List.getElem?_eq_getElem hj]
 show (_ && decide ((findN l x.n.kids[j]).1.level = x.n.level - 1)) = false
 rw [decide_eq_false h, Bool.and_false]
theorem kidOk_all {l : List Nd} {x : Seat} {j : Nat} (hj : j < x.n.kids.length) (ha : ∀ j2, j2 < j → kidOk l x j2 = true) (h : (findN l x.n.kids[j]).2 = true) (h2 : (findN l x.n.kids[j]).1.level = x.n.level - 1) : ∀ j2, j2 < j + 1 → kidOk l x j2 = true := by
 intro j2 hj2
 by_cases e : j2 = j
 ·subst e
  unfold kidOk
  rw [List.getD_eq_getElem?_getD, List.getElem?_eq_getElem hj]
  show ((findN l x.n.kids[j2]).2 && decide ((findN l x.n.kids[j2]).1.level = x.n.level - 1)) = true
  rw [h, decide_eq_true h2]; rfl
 ·exact ha j2 om9
theorem kid_rel {G : GH} {cs : List Value} {l : List Nd} {x : Seat} {j : Nat} (hj : j < x.n.kids.length) (h : SeatC G cs ⟨(findN l x.n.kids[j]).1, x.s.meet (rangeN x.n.pivots (j : Int)), (kidSt l x j).ms⟩) : SeatC G cs (kidSt l x j) := by
 have e : kidSt l x j = ⟨(findN l x.n.kids[j]).1, x.s.meet (rangeN x.n.pivots (j : Int)), (kidSt l x j).ms⟩ := by
  unfold kidSt
  rw [List.getD_eq_getElem?_getD, List.getElem?_eq_getElem hj]; rfl
 rw [e]; exact h
theorem seats_none {l : List Nd} {i : Int} (h : (findN l i).2 = false) : seatsN l i = none := by unfold seatsN; rw [if_neg (by simp [h])]
end Go.Fw
