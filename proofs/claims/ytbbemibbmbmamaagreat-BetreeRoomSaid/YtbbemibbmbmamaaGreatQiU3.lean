/- Walks of stores, as far as their arenas go. -/
import Derived.MapKept
import Derived.Test.YtbbemibbmbmamaaGreatQiMi
set_option maxRecDepth 100000
set_option maxHeartbeats 1600000
set_option linter.unusedVariables false
set_option linter.unusedSimpArgs false
set_option linter.unnecessarySimpa false
namespace Go.Proofs.YtbbemibbmbmamaaGreat
open Go Go.Fw Go.RowKit
attribute [local irreducible] Ok W WC
theorem Zkr {G : GH} {b_s : Nat} {c : Cfg} {b_a : Nat} {a : List Nd × List Bool} {Ms_a : MH} (h_a : ArR ZF 60 4 3 189 b_a G a Ms_a) {cs_x : List Value} {x : Nd} (h_x : NodeC G cs_x x) :
    Fc Tryz.prog 140 [pt9 b_s, .agg (List.toArray cs_x)] G ((b_s, ce9 139 [iV c.fan, iV c.leaf, iV c.bud, iV c.slots, iV c.rest, pt9 b_a]) :: (Ms_a)) (fun v G' M' => v = iV (XV a x.slot x).1 ∧ StA 60 4 3 189 139 b_s G' c (XV a x.slot x).2 M') := by
 obtain ⟨_, _, _, _, _, _, _, _, rfl, hp_x, hk_x, hm_x, hr_x, hok_x⟩ := h_x
 refine Fc.go [.tmp 4] Tryz.func140 Tryz.ntmps140 rfl (fun w0 => (WC.perm (M' := ((b_s, ce9 139 [iV c.fan, iV c.leaf, iV c.bud, iV c.slots, iV c.rest, pt9 b_a]) :: (Ms_a ++ []))) (by simp) (g9 2 ?_)))
 refine W.box (L := [iV _, iV _, lV _ _ _, lV _ _ _, sV _, .bool _, iV _, iV _, lV _ _ _, lV _ _ _]) rfl rfl (fun b1 => (g9 7 ?_))
 refine W.ok (XB Zao rfl rfl) (g9 6 ?_)
 refine WC.dw (sn9.k9.k9) (d9 [0, 1, 2, 3, 4, 5, 6] ?_)
 refine WD.a1 7 rfl (W.cN (XM (nk9 hp_x hk_x hm_x hr_x hok_x)) rfl (fun _ _ _ _ _ _ _ _ G2 hG2 hp_hv3 hk_hv3 hm_hv3 hr_hv3 hok_hv3 => (W.nn (WD.a1 8 rfl (W.call (Mp := Ms_a) (Znq (ArR.mono hG2 h_a) _ (nk9 hp_hv3 hk_hv3 hm_hv3 hr_hv3 hok_hv3)) rfl (pmC (pmC pr9)) ?_)))))
 intro v11 G8 Ms10 hG8 q9
 refine match q9 with | ⟨e_13, hR12⟩ => ?_
 subst e_13
 refine W.perm (pmC (pmC pr9)).symm (W.nn (d9 [9] ?_))
 refine g9 3 ?_
 refine ⟨.inr rfl, [_], ⟨rfl, trivial⟩, ((b_s, ce9 139 [iV c.fan, iV c.leaf, iV c.bud, iV c.slots, iV c.rest, pt9 b_a]) :: (Ms10 ++ [])), sr9.k9.cons _, ?_⟩
 exact ⟨rfl, _, _, congrArg _ (List.append_nil _), hR12⟩

theorem Zks {G : GH} {b_s : Nat} {c : Cfg} {b_a : Nat} {a : List Nd × List Bool} {Ms_a : MH} (h_a : ArR ZF 60 4 3 189 b_a G a Ms_a) (i : Int) :
    Fc Tryz.prog 67 [pt9 b_s, iV i] G ((b_s, ce9 139 [iV c.fan, iV c.leaf, iV c.bud, iV c.slots, iV c.rest, pt9 b_a]) :: (Ms_a)) (fun v G' M' => (∃ cs, v = .tuple #[.agg (List.toArray cs), .bool (YY a.2 i)] ∧ NodeC G' cs (Jz a i Nd.zero)) ∧ M' = (b_s, ce9 139 [iV c.fan, iV c.leaf, iV c.bud, iV c.slots, iV c.rest, pt9 b_a]) :: Ms_a) := by
 refine Fc.go [.cell 4 60, .tmp 5] Tryz.func67 Tryz.ntmps67 rfl (fun w0 => (WC.perm (M' := ((b_s, ce9 139 [iV c.fan, iV c.leaf, iV c.bud, iV c.slots, iV c.rest, pt9 b_a]) :: (Ms_a ++ []))) (by simp) (g9 2 ?_)))
 refine W.alloc Zp (fun b14 => (g9 7 ?_))
 refine W.ok (XB Zao rfl rfl) (g9 12 ?_)
 refine W.call (Mp := Ms_a) (Zns h_a _) rfl (pmC (pmC pr9)) ?_
 intro v18 G15 Ms17 hG15 q16
 refine match q16 with | ⟨⟨_, e_20, ⟨_, _, _, _, _, _, _, _, e_21, hp_hR19, hk_hR19, hm_hR19, hr_hR19, hok_hR19⟩⟩, eeq16⟩ => ?_
 subst e_20
 subst e_21
 have eeq16 := eeq16.symm
 subst eeq16
 refine W.perm (pmC (pmC pr9)).symm (g9 3 ?_)
 refine W.alloc Zp (fun b22 => (g9 7 ?_))
 refine W.cN (XM (nk9 hp_hR19 hk_hR19 hm_hR19 hr_hR19 hok_hR19)) rfl (fun _ _ _ _ _ _ _ _ G23 hG23 hp_hv24 hk_hv24 hm_hv24 hr_hv24 hok_hv24 => (g9 6 ?_))
 refine ⟨.inr rfl, [_, _], ⟨⟨_, _, _, _, _, rfl, YF (i := 1) rfl, Yp, (by simp), rfl, rfl⟩, rfl, trivial⟩, ((b_s, ce9 139 [iV c.fan, iV c.leaf, iV c.bud, iV c.slots, iV c.rest, pt9 b_a]) :: (Ms_a ++ [])), (sr9.k9.cons _).cons _, ?_⟩
 exact ⟨⟨_, rfl, (nk9 hp_hv24 hk_hv24 hm_hv24 hr_hv24 hok_hv24)⟩, congrArg _ (List.append_nil _)⟩

theorem ZrY {G : GH} {b_s : Nat} {c : Cfg} {b_a : Nat} {a : List Nd × List Bool} {Ms_a : MH} (h_a : ArR ZF 60 4 3 189 b_a G a Ms_a) :
    Fc Tryz.prog 189 [pt9 b_s] G ((b_s, ce9 139 [iV c.fan, iV c.leaf, iV c.bud, iV c.slots, iV c.rest, pt9 b_a]) :: (Ms_a)) (fun v G' M' => v = iV ((Y8 a.2).length : Int) ∧ M' = (b_s, ce9 139 [iV c.fan, iV c.leaf, iV c.bud, iV c.slots, iV c.rest, pt9 b_a]) :: Ms_a) := by
 refine Fc.go [.tmp 2] Tryz.func189 Tryz.ntmps189 rfl (fun w0 => (WC.perm (M' := ((b_s, ce9 139 [iV c.fan, iV c.leaf, iV c.bud, iV c.slots, iV c.rest, pt9 b_a]) :: (Ms_a ++ []))) (by simp) (g9 9 ?_)))
 refine W.ok (XB Zao rfl rfl) (g9 11 ?_)
 refine W.call (Mp := Ms_a) (Znt h_a) rfl (pmC pr9) ?_
 intro v38 G35 Ms37 hG35 q36
 refine match q36 with | ⟨e_40, eeq36⟩ => ?_
 subst e_40
 have eeq36 := eeq36.symm
 subst eeq36
 refine W.perm (pmC pr9).symm (g9 4 ?_)
 refine ⟨.inr rfl, [_], ⟨rfl, trivial⟩, ((b_s, ce9 139 [iV c.fan, iV c.leaf, iV c.bud, iV c.slots, iV c.rest, pt9 b_a]) :: (Ms_a ++ [])), sr9.k9, ?_⟩
 exact ⟨rfl, congrArg _ (List.append_nil _)⟩

theorem Zkt {G : GH} {b_s : Nat} {c : Cfg} {b_a : Nat} {a : List Nd × List Bool} {Ms_a : MH} (h_a : ArR ZF 60 4 3 189 b_a G a Ms_a) {cs_x : List Value} {x : Nd} (h_x : NodeC G cs_x x) :
    Fc Tryz.prog 84 [pt9 b_s, .agg (List.toArray cs_x)] G ((b_s, ce9 139 [iV c.fan, iV c.leaf, iV c.bud, iV c.slots, iV c.rest, pt9 b_a]) :: (Ms_a)) (fun v G' M' => v = .tuple #[iV (Zbw a x).1.1, iV (Zbw a x).1.2] ∧ StA 60 4 3 189 139 b_s G' c (Zbw a x).2 M') := by
 obtain ⟨pa_x, pc_x, ka_x, kc_x, ma_x, mc_x, ra_x, rc_x, rfl, hp_x, hk_x, hm_x, hr_x, hok_x⟩ := h_x
 have hal : a.2.length ≤ 4096 := by obtain ⟨f, _, _, h, _⟩ := h_a; exact h
 have hai := Zn4 (x := Nd.zero) hal
 refine Fc.go [.tmp 4, .tmp 5] Tryz.func84 Tryz.ntmps84 rfl (fun w0 => (WC.perm (M' := ((b_s, ce9 139 [iV c.fan, iV c.leaf, iV c.bud, iV c.slots, iV c.rest, pt9 b_a]) :: (Ms_a ++ []))) (by simp) (g9 2 ?_)))
 refine W.box (L := [iV _, iV _, lV _ _ _, lV _ _ _, sV _, .bool _, iV _, iV _, lV _ _ _, lV _ _ _]) rfl rfl (fun b41 => (g9 8 ?_))
 refine W.ok (XB Zao rfl rfl) (g9 11 ?_)
 refine W.ok (ZE (L := [iV _, iV _, lV _ _ _, lV _ _ _, sV _, .bool _, iV _, iV _, lV _ _ _, lV _ _ _]) Zap Zp rfl rfl rfl) (W.call (Mp := Ms_a) (Znr h_a (x := Nd.zero) ⟨_, _, _, _, _, _, _, _, rfl, SlR.nil, SlR.nil, SlR.nil, SlR.nil, Nd.zero_ok⟩) rfl (pmC (pmC pr9)) ?_)
 intro v45 G42 Ms44 hG42 q43
 refine match q43 with | ⟨e_47, hR46⟩ => ?_
 subst e_47
 refine W.perm (pmC (pmC pr9)).symm (g9 14 ?_)
 refine WC.cn (fun h20 p20 => ?_) (fun h20 p20 => ?_)
 ·refine g9 9 ?_
  refine ⟨.inr rfl, [_, _], ⟨rfl, rfl, trivial⟩, ((b_s, ce9 139 [iV c.fan, iV c.leaf, iV c.bud, iV c.slots, iV c.rest, pt9 b_a]) :: (Ms44 ++ [])), sr9.k9.cons _, ?_⟩
  have hE := Zh2 (a := a) (x := x) p20
  exact ⟨congrArg (fun r : Int × Int => Value.tuple #[iV r.1, iV r.2]) (congrArg Prod.fst hE).symm, StA.cast ⟨_, _, congrArg _ (List.append_nil _), hR46⟩ (congrArg Prod.snd hE).symm⟩
 refine g9 14 ?_
 refine W.call (Mp := ((b_s, ce9 139 [iV c.fan, iV c.leaf, iV c.bud, iV c.slots, iV c.rest, pt9 b_a]) :: Ms44)) (Mr := ((b41, ce9 60 [iV (Ym (a) Nd.zero).1.1, iV x.level, lV pa_x x.pivots.length pc_x, lV ka_x x.kids.length kc_x, sV x.high.b, .bool x.top, iV x.right, iV x.seen, lV ma_x x.msgs.length mc_x, lV ra_x x.rows.length rc_x]) :: [])) (Zkr (c := c) hR46 (show NodeC _ _ { x with slot := (Ym a Nd.zero).1.1 } from ⟨_, _, _, _, _, _, _, _, rfl, (hp_x.mono hG42), (hk_x.mono hG42), (hm_x.mono hG42), (hr_x.mono hG42), ⟨hai, hok_x.2⟩⟩)) rfl (((pmC pr9).cons _).trans ((List.Perm.swap _ _ _).trans (pr9.cons _))) ?_
 intro v51 G48 Ms50 hG48 q49
 refine match q49 with | ⟨e_53, hS52⟩ => ?_
 subst e_53
 refine W.perm (pmC pr9).symm (g9 5 ?_)
 refine ⟨.inr rfl, [_, _], ⟨rfl, rfl, trivial⟩, (Ms50 ++ []), sr9.cons _, ?_⟩
 have hE := Zh1 (a := a) (x := x) p20
 exact ⟨congrArg (fun r : Int × Int => Value.tuple #[iV r.1, iV r.2]) (congrArg Prod.fst hE).symm, StA.cast (by have h := hS52; rw [List.append_nil]; exact h) (congrArg Prod.snd hE).symm⟩

theorem ZrZ {G : GH} {b_s : Nat} {c : Cfg} {b_a : Nat} {a : List Nd × List Bool} {Ms_a : MH} (h_a : ArR ZF 60 4 3 189 b_a G a Ms_a) :
    Fc Tryz.prog 52 [pt9 b_s] G ((b_s, ce9 139 [iV c.fan, iV c.leaf, iV c.bud, iV c.slots, iV c.rest, pt9 b_a]) :: (Ms_a)) (fun v G' M' => SlR ZF G' v ((XF a.2).map (fun i => Jz a i Nd.zero)) ∧ M' = (b_s, ce9 139 [iV c.fan, iV c.leaf, iV c.bud, iV c.slots, iV c.rest, pt9 b_a]) :: Ms_a) := by
 have hal : a.2.length ≤ 4096 := by obtain ⟨f, _, _, h, _⟩ := h_a; exact h
 have hul := ZhV a.2 a.2.length
 rw [← ZhW] at hul
 refine Fc.go [.tmp 2] Tryz.func52 Tryz.ntmps52 rfl (fun w0 => (WC.perm (M' := ((b_s, ce9 139 [iV c.fan, iV c.leaf, iV c.bud, iV c.slots, iV c.rest, pt9 b_a]) :: (Ms_a ++ []))) (by simp) (g9 14 ?_)))
 refine W.ok (XB Zao rfl rfl) (g9 12 ?_)
 refine W.call (Mp := Ms_a) (Znu h_a) rfl (pmC pr9) ?_
 intro v57 G54 Ms56 hG54 q55
 refine match q55 with | ⟨hR58, eeq55⟩ => ?_
 have eeq55 := eeq55.symm
 subst eeq55
 refine W.perm (pmC pr9).symm ?_
 have q60 := hR58.form
 refine match q60 with | ⟨sa_hR58, sc_hR58, e_59⟩ => ?_
 subst e_59
 refine g9 5 ?_
 refine WC.loop (X := (Nat) × Value × MH) (fun k => [(16, nt9 k.1), (0, pt9 b_s), (14, lV sa_hR58 ((XF (a).2)).length sc_hR58), (15, nt9 (((XF (a).2)).length)), (3, k.2.1)]) (fun k G Ml => Ml = ((b_s, ce9 139 [iV c.fan, iV c.leaf, iV c.bud, iV c.slots, iV c.rest, pt9 b_a]) :: (k.2.2 ++ (Ms_a ++ []))) ∧ OwnR ZF 60 G k.2.1 (((XF a.2).take k.1).map (fun i => Jz a i Nd.zero)) k.2.2 ∧ k.1 ≤ (XF a.2).length) (fun k => (XF a.2).length - k.1) (0, lV none 0 0, ([] : MH)) hs9 ?_ ?_
 ·exact ⟨rfl, (by simpa using OwnR.nil), om9⟩
 rintro ⟨k, v_3, M_3⟩ gG61 G61 _ hG61 ⟨rfl, ho_3, hk⟩
 try dsimp only at ho_3 hk
 refine WC.fr (f := ZZ gG61 [(16, nt9 k), (0, pt9 b_s), (14, lV sa_hR58 ((XF (a).2)).length sc_hR58), (15, nt9 (((XF (a).2)).length)), (3, v_3)]) rfl (g9 6 ?_)
 refine WC.cd (fun h17 p17 => ?_) (fun h17 p17 => ?_)
 ·refine g9 6 ?_
  refine (hR58.mono hG61).a2 (i := k) om9 (fun he62 hi63 => (g9 9 ?_))
  refine W.call (Mp := ((b_s, ce9 139 [iV c.fan, iV c.leaf, iV c.bud, iV c.slots, iV c.rest, pt9 b_a]) :: Ms_a)) (Mr := (M_3 ++ [])) (Zks (c := c) (ArR.mono lec h_a) _) rfl (((pmA pr9).cons _).trans pr9) ?_
  intro v69 G66 Ms68 hG66 q67
  refine match q67 with | ⟨⟨_, e_71, ⟨_, _, _, _, _, _, _, _, e_72, hp_n70, hk_n70, hm_n70, hr_n70, hok_n70⟩⟩, e_73⟩ => ?_
  subst e_71
  subst e_72
  subst e_73
  refine W.perm (M' := ((b_s, ce9 139 [iV c.fan, iV c.leaf, iV c.bud, iV c.slots, iV c.rest, pt9 b_a]) :: (Ms_a ++ (M_3 ++ [])))) ((pr9.cons _).trans pr9).symm (g9 3 ?_)
  refine W.alloc Zp (fun b74 => (g9 7 ?_))
  refine W.lit (e := ZF) (l := [(Jz a ((XF a.2)[k]'_) Nd.zero)]) (css := [[iV _, iV _, lV _ _ _, lV _ _ _, sV _, .bool _, iV _, iV _, lV _ _ _, lV _ _ _]]) Xj Yp Zp rfl rfl rfl rfl rfl rfl ⟨(nk9 hp_n70 hk_n70 hm_n70 hr_n70 hok_n70), trivial⟩ (fun bl75 G75 hG75 hv75 => (W.app (e := ZF) Xj Yp Zp rfl Zan rfl rfl ((ho_3.mono lec)) (hv75) (pmC (pmC (pmA pr9))) (by show (List.length _ + 1) * 152 ≤ _; rw [List.length_map, List.length_take]; omega) (fun v76 Ms77 ho78 => (W.perm (pmC (pmC pr9)).symm (g9 7 ?_)))))
  refine W.sub (sr9.cons _) (g9 2 ?_)
  exact ⟨lec, (k + 1, v76, Ms77), hs9, ⟨rfl, (by have h := ho78; rw [List.take_succ_eq_append_getElem om9, List.map_append]; exact h), om9⟩, om9⟩
 refine g9 11 ?_
 refine WC.giveO ho_3 (pmC pr9) (fun G79 hG79 hv79 => (WC.ret ?_))
 refine ⟨.inr rfl, [_], ⟨rfl, trivial⟩, ((b_s, ce9 139 [iV c.fan, iV c.leaf, iV c.bud, iV c.slots, iV c.rest, pt9 b_a]) :: (Ms_a ++ [])), sr9.k9, ?_⟩
 exact ⟨SlR.cast hv79 (by rw [List.take_of_length_le om9]), congrArg _ (List.append_nil _)⟩

end Go.Proofs.YtbbemibbmbmamaaGreat

namespace Go.Fw
open Go Go.RowKit
structure VEnc (α : Type) where
 R : GH → Value → α → Prop
 mono : ∀ {G G' : GH} {v a}, Le G G' → R G v a → R G' v a
def ZdK : VEnc Bool := ⟨fun _ v b => v = .bool b, fun _ h => h⟩
section
variable {α : Type}
def MpE (V : VEnc α) (G : GH) : List MapEntry → List (Int × α) → Prop
 | [], [] => True
 | e :: es, p :: m => e.key = .int .i64 p.1 ∧ V.R G e.val p.2 ∧ MpE V G es m
 | _, _ => False
theorem MpE.mono {V : VEnc α} {G G' : GH} (hl : Le G G') : ∀ {es : List MapEntry} {m : List (Int × α)}, MpE V G es m → MpE V G' es m
 | [], [], _ => trivial
 | e :: es, p :: m, h => ⟨h.1, V.mono hl h.2.1, h.2.2.mono hl⟩
 | [], _ :: _, h => h.elim
 | _ :: _, [], h => h.elim
def Xy (m : List (Int × α)) (k : Int) : Option α := (m.find? fun p => decide (p.1 = k)).map (·.2)
def Ji : List (Int × α) → Int → α → List (Int × α)
 | [], k, a => [(k, a)]
 | p :: m, k, a => if p.1 = k then (k, a) :: m else p :: Ji m k a
def ZbR : List (Int × α) → Int → List (Int × α)
 | [], _ => []
 | p :: m, k => if p.1 = k then m else p :: ZbR m k
theorem ZaL (p : Int × α) (m : List (Int × α)) (k : Int) : Xy (p :: m) k = if p.1 = k then some p.2 else Xy m k := by
 unfold Xy
 by_cases h : p.1 = k
 ·rw [List.find?_cons_of_pos (by simpa using h), if_pos h]; rfl
 ·rw [List.find?_cons_of_neg (by simpa using h), if_neg h]
theorem Zku : ∀ (m : List (Int × α)) (k : Int) (a : α) (j : Int), Xy (Ji m k a) j = if j = k then some a else Xy m j
 | [], k, a, j => by
  rw [Ji, ZaL]
  by_cases h : k = j
  ·rw [if_pos h, if_pos h.symm]
  ·rw [if_neg h, if_neg (fun e => h e.symm)]
 | p :: m, k, a, j => by
  rw [Ji]
  by_cases hp : p.1 = k
  ·rw [if_pos hp, ZaL, ZaL]
   by_cases h : k = j
   ·rw [if_pos h, if_pos h.symm]
   ·rw [if_neg h, if_neg (fun e => h e.symm), if_neg (by rw [hp]; exact h)]
  ·rw [if_neg hp, ZaL, ZaL, Zku m k a j]
   by_cases h : p.1 = j
   ·rw [if_pos h, if_pos h, if_neg (fun e => hp (h.trans e))]
   ·rw [if_neg h, if_neg h]
theorem Zkv (k j : Int) : Instr.sameNow (.int .i64) (.int .i64 k) (.int .i64 j) = some (k == j) := by simp [Instr.sameNow]
theorem Zf4 {V : VEnc α} {G : GH} {k : Int} : ∀ {es : List MapEntry} {m : List (Int × α)} (i : Nat), MpE V G es m →
  (Xy m k = none ∧ Instr.findNow (.int .i64) (.int .i64 k) es i = some none ∧ (∀ x a n, V.R G x a → MpE V G (es ++ [⟨.int .i64 k, x, n⟩]) (Ji m k a)) ∧ ZbR m k = m) ∨
  ∃ j e a, Xy m k = some a ∧ es[j]? = some e ∧ Instr.findNow (.int .i64) (.int .i64 k) es i = some (some (i + j, e.val)) ∧ e.key = .int .i64 k ∧ V.R G e.val a ∧
   (∀ x b, V.R G x b → MpE V G (es.modify j fun e => { e with key := .int .i64 k, val := x }) (Ji m k b)) ∧ MpE V G (es.eraseIdx j) (ZbR m k)
 | [], [], i, _ => .inl ⟨rfl, rfl, fun x a n hx => ⟨rfl, hx, trivial⟩, rfl⟩
 | e :: es, p :: m, i, h => by
  by_cases hk : p.1 = k
  ·refine .inr ⟨0, e, p.2, by rw [ZaL, if_pos hk], rfl, ?_, by rw [h.1, hk], h.2.1, fun x b hx => ?_, ?_⟩
   ·rw [Instr.findNow, h.1, Zkv, hk]; simp
   ·rw [Ji, if_pos hk]
    simp only [List.modify_zero_cons]
    exact ⟨rfl, hx, h.2.2⟩
   ·rw [ZbR, if_pos hk]; exact h.2.2
  ·have hf : ∀ i, Instr.findNow (.int .i64) (.int .i64 k) (e :: es) i = Instr.findNow (.int .i64) (.int .i64 k) es (i + 1) := fun i => by
    rw [Instr.findNow, h.1, Zkv]
    have : (k == p.1) = false := by simpa using fun e => hk e.symm
    rw [this]
   rcases Zf4 (V := V) (k := k) (i + 1) h.2.2 with ⟨h1, h2, h3, h4⟩ | ⟨j, e', a, h1, h2, h3, h4, h5, h6, h7⟩
   ·refine .inl ⟨by rw [ZaL, if_neg hk]; exact h1, by rw [hf]; exact h2, fun x a n hx => ?_, by rw [ZbR, if_neg hk, h4]⟩
    rw [Ji, if_neg hk]
    exact ⟨h.1, h.2.1, h3 x a n hx⟩
   ·refine .inr ⟨j + 1, e', a, by rw [ZaL, if_neg hk]; exact h1, by simpa using h2, by rw [hf, h3]; congr 3; omega, h4, h5, fun x b hx => ?_, ?_⟩
    ·rw [Ji, if_neg hk]
     simp only [List.modify_succ_cons]
     exact ⟨h.1, h.2.1, h6 x b hx⟩
    ·rw [ZbR, if_neg hk]
     exact ⟨h.1, h.2.1, h7⟩
 | [], _ :: _, _, h => h.elim
 | _ :: _, [], _, h => h.elim
def Za8 (P : Program) (t : TypeId) : Option TypeId :=
 match P.underlying t with
 | some (.map kt e) => match P.underlying kt with
  | some (.int .i64) => some e
  | _ => none
 | _ => none
theorem Zkw {P : Program} {t e : TypeId} (h : Za8 P t = some e) : ∃ kt, P.underlying t = some (.map kt e) ∧ P.underlying kt = some (.int .i64) ∧ ∀ b n v (w : World), (Instr.checkKey b (n + 1) kt v).run P w = .ok () w := by
 unfold Za8 at h
 split at h
 ·rename_i kt e' h1
  split at h
  ·rename_i h2
   cases h
   refine ⟨kt, h1, h2, fun b n v w => ?_⟩
   simp only [Instr.checkKey, Sem.run_bind, run_underlying h2, Result.andThen_ok]
   rfl
  ·cases h
 ·cases h
def MpR (V : VEnc α) (b : Nat) (G : GH) (m : List (Int × α)) (M : MH) : Prop := ∃ (es : List MapEntry) (clock : Nat), M = [(b, .map es.toArray clock)] ∧ MpE V G es m
theorem MpR.mono {V : VEnc α} {b : Nat} {G G' : GH} {m : List (Int × α)} {M : MH} (hl : Le G G') (h : MpR V b G m M) : MpR V b G' m M := by
 obtain ⟨es, c, h1, h2⟩ := h; exact ⟨es, c, h1, h2.mono hl⟩
end
section
variable {α : Type} {E : Env} {f : Fr} {G : GH} {M Mk Ms Mr : MH} {ops rest : List Oper} {q : Bool} {K : Kt} {d : Nat} {ty : TypeId} {pos : String} {aft : Array Edge} {t et : TypeId} {x y kk : Operand} {b : Nat} {k : Int} {m : List (Int × α)} {V : VEnc α}
def zvK (P : Program) (t : TypeId) : Option Value := (P.info? t).bind (·.zero)
theorem Zr0 {P : Program} {es : List MapEntry} {clock : Nat} {z0 : Value} {z : α} (ht : Za8 P t = some et) (hz : zvK P et = some z0) (hzz : V.R G z0 z) (he : MpE V G es m) :
  ∃ v, V.R G v ((Xy m k).getD z) ∧ ∀ (w : World) (ok : Bool), w.heap[b]? = some (.map es.toArray clock) → (Instr.lookup t (.map (some b)) (.int .i64 k) ok).run P w = .ok (if ok = true then .tuple #[v, .bool (Xy m k).isSome] else v) w := by
 obtain ⟨kt, h1, h2, h3⟩ := Zkw ht
 have hzv : ∀ w, (zeroValue et).run P w = .ok z0 w := fun w => by
  unfold zvK at hz
  cases hi : P.info? et with
  | none => rw [hi] at hz; cases hz
  | some info => rw [hi] at hz; simp at hz; simp [zeroValue, typeInfo, hi, hz]
 rcases Zf4 (k := k) 0 he with ⟨g1, g2, _, _⟩ | ⟨j, e, a, g1, g2, g3, g4, g5, _, _⟩
 ·refine ⟨z0, by rw [g1]; exact hzz, fun w ok hb => ?_⟩
  have hgo := MapKept.run_getObj_map (P := P) hb
  have hfk := MapKept.run_findKey (P := P) (w := w) h2 g2
  simp only [Instr.lookup, Sem.run_bind, run_underlying h1, Result.andThen_ok, hgo, Sem.run_pure]
  rw [h3]
  simp only [Result.andThen_ok]
  rw [hfk, g1]
  simp [hzv]
 ·refine ⟨e.val, by rw [g1]; exact g5, fun w ok hb => ?_⟩
  have hgo := MapKept.run_getObj_map (P := P) hb
  have hfk := MapKept.run_findKey (P := P) (w := w) h2 g3
  simp only [Instr.lookup, Sem.run_bind, run_underlying h1, Result.andThen_ok, hgo, Sem.run_pure]
  rw [h3]
  simp only [Result.andThen_ok]
  rw [hfk, g1]
  simp
theorem Zr1 {es : List MapEntry} {clock : Nat} (hp : ([(b, Obj.map es.toArray clock)] ++ Mr).Perm M) {w : World} (hr : E.real G M w) : w.heap[b]? = some (.map es.toArray clock) :=
 hr.r.mu (b, .map es.toArray clock) (hp.mem_iff.1 (by simp))
theorem Zr2 {z0 : Value} {z : α} {ok : Bool} (ht : Za8 E.P t = some et) (hz : zvK E.P et = some z0) (hzz : V.R G z0 z) (hx : ev f x = .map (some b)) (hk : ev f kk = .int .i64 k) (hm : MpR V b G m Ms) (hp : (Ms ++ Mr).Perm M) :
  ∃ v, V.R G v ((Xy m k).getD z) ∧ Ok E f G M ⟨some d, .lookup t x kk ok, ty, pos, aft, none⟩ (if ok = true then .tuple #[v, .bool (Xy m k).isSome] else v) := by
 obtain ⟨es, clock, rfl, he⟩ := hm
 obtain ⟨v, h1, h2⟩ := Zr0 (b := b) (clock := clock) (k := k) ht hz hzz he
 refine ⟨v, h1, fun w hr => ?_⟩
 have := h2 w ok (Zr1 hp hr)
 simp [execOp, hx, hk, this]
theorem Zr3 {es : List MapEntry} {clock : Nat} {o : Obj} {w : World} (hr : E.real G ((b, Obj.map es.toArray clock) :: Mr) w) : E.real G ((b, o) :: Mr) { w with heap := w.heap.setIfInBounds b o } :=
 ⟨Real.set (M₁ := []) hr.r, hr.le, hr.nw⟩
theorem W.mapUp {v : Value} {a : α} (ht : Za8 E.P t = some et) (hx : ev f x = .map (some b)) (hk : ev f kk = .int .i64 k) (hy : ev f y = v) (hm : MpR V b G m Ms) (hp : (Ms ++ Mr).Perm M) (ha : V.R G v a)
  (h : ∀ Ms', MpR V b G (Ji m k a) Ms' → W E ops.toArray false rest f G (Ms' ++ Mr) K) : W E ops.toArray false (⟨none, .mapUpdate t x kk y, ty, pos, aft, none⟩ :: rest) f G M K := by
 intro a' w Q hi hr0 hK
 obtain ⟨es, clock, rfl, he⟩ := hm
 have hr := hr0.perm hp
 obtain ⟨kt, h1, h2, h3⟩ := Zkw ht
 have hb : w.heap[b]? = some (.map es.toArray clock) := hr.r.mu (b, .map es.toArray clock) (by simp)
 have hgo := MapKept.run_getObj_map (P := E.P) hb
 have key : ∃ es' clock', MpE V G es' (Ji m k a) ∧ (Instr.mapUpdate t (.map (some b)) (.int .i64 k) v).run E.P w = .ok () { w with heap := w.heap.setIfInBounds b (.map es'.toArray clock') } := by
  rcases Zf4 (k := k) 0 he with ⟨g1, g2, g3, _⟩ | ⟨j, e, a2, g1, g2, g3, g4, g5, g6, _⟩
  ·refine ⟨_, clock + 1, g3 v a clock ha, ?_⟩
   have hfk := MapKept.run_findKey (P := E.P) (w := w) h2 g2
   have hset := MapKept.run_setObj_map (P := E.P) (.map (es.toArray.push ⟨.int .i64 k, v, clock⟩) (clock + 1)) hb
   simp only [Instr.mapUpdate, Sem.run_bind, run_underlying h1, Result.andThen_ok, hgo]
   rw [h3]
   simp only [Result.andThen_ok]
   rw [hfk]
   simp only [Result.andThen_ok, hset]
   congr 4
   simp
  ·refine ⟨_, clock, g6 v a ha, ?_⟩
   rw [Nat.zero_add] at g3
   have hfk := MapKept.run_findKey (P := E.P) (w := w) h2 g3
   have hset := MapKept.run_setObj_map (P := E.P) (.map (es.toArray.modify j fun e => { e with key := .int .i64 k, val := v }) clock) hb
   simp only [Instr.mapUpdate, Sem.run_bind, run_underlying h1, Result.andThen_ok, hgo]
   rw [h3]
   simp only [Result.andThen_ok]
   rw [hfk]
   have hsb : Instr.sameBits 10000 (((es.toArray[j]?).map (·.key)).getD (.int .i64 k)) (.int .i64 k) = true := by
    simp [g2, g4, Instr.sameBits]
   simp only [Result.andThen_ok, Instr.keyThatStays, hsb, if_true, Sem.run_pure]
   simp only [Sem.run_bind, Sem.run_pure, Result.andThen_ok, hset]
   congr 4
   simp
 obtain ⟨es', clock', k1, k2⟩ := key
 have hrun : (execOp (ev f) ⟨none, .mapUpdate t x kk y, ty, pos, aft, none⟩).run E.P w = .ok .skip { w with heap := w.heap.setIfInBounds b (.map es'.toArray clock') } := by
  simp [execOp, hx, hk, hy, k2]
 refine wpList_plain rfl fun K' hK' => ?_
 unfold Oper.wp
 rw [hi.eval, hrun]
 exact hK' _ _ (h _ ⟨es', clock', rfl, k1⟩ _ _ Q (hi.put_none undef) (Zr3 hr) hK)
theorem W.makeMap (h : ∀ b, MpR V b G [] [(b, .map #[] 0)] → W E ops.toArray false rest (upd f d (.map (some b))) G ((b, .map #[] 0) :: M) K) (hd : Nat.blt d E.n = true := by rfl) :
  W E ops.toArray false (⟨some d, .makeMap t none, ty, pos, aft, none⟩ :: rest) f G M K := by
 intro a w Q hi hr hK
 have hrun : (execOp (ev f) ⟨some d, .makeMap t none, ty, pos, aft, none⟩).run E.P w = .ok (.value (.map (some w.heap.size))) (w.alloc (.map #[] 0)) := by
  have h0 : (Instr.makeMap t none).run E.P w = .ok (.map (some w.heap.size)) (w.alloc (.map #[] 0)) := by simp [Instr.makeMap, newObj, Sem.run, bind, Sem.bind, pure]
  simp [execOp, h0]
 refine wpList_plain rfl fun K' hK' => ?_
 unfold Oper.wp
 rw [hi.eval, hrun]
 exact hK' _ _ (h _ ⟨[], 0, rfl, trivial⟩ _ _ Q (hi.put hd _) (hr.alloc _) hK)
end
theorem Zr4 {s : Int} (hs : i64 s) : (Xc s).Ok := ⟨hs, ⟨by show (-9223372036854775808 : Int) ≤ 0; omega, by show (0 : Int) ≤ 9223372036854775807; omega⟩, ⟨by show (-9223372036854775808 : Int) ≤ -1; omega, by show (-1 : Int) ≤ 9223372036854775807; omega⟩, ⟨by show (-9223372036854775808 : Int) ≤ 0; omega, by show (0 : Int) ≤ 9223372036854775807; omega⟩⟩
theorem Zr5 {n : Nat} (h : 0 < n) : Yo n [] = Yo n [] ∧ JS n [] (Xc 0) = ((0, 0), [Xc 0]) := ⟨rfl, by rw [ZeS (by simpa using h)]; rfl⟩
end Go.Fw

namespace Go.Fw
abbrev Ls := List (List Msg)
def stN (l : List Msg) : Int := Hd.st (l, 0)
theorem Zkx {l : List Msg} (h : 0 < l.length) : stN l = l[0].stamp := Hd.st_at (a := (l, 0)) h
structure Best (cur : Ls) (b : Nat) : Prop where
 lt : b < cur.length
 ne : 0 < cur[b].length
 min : ∀ j (h : j < cur.length), 0 < cur[j].length → stN cur[b] ≤ stN cur[j] ∧ (j < b → stN cur[b] < stN cur[j])
theorem Best.uniq {cur : Ls} {b c : Nat} (hb : Best cur b) (hc : Best cur c) : b = c := by
 have h1 := hb.min c hc.lt hc.ne
 have h2 := hc.min b hb.lt hb.ne
 rcases Nat.lt_trichotomy b c with h | h | h
 ·have := h2.2 h; omega
 ·exact h
 ·have := h1.2 h; omega
def Y5 (cur : Ls) : Nat := (cur.map List.length).sum
theorem Zky (a b : Ls) : Y5 (a ++ b) = Y5 a + Y5 b := by simp [Y5]
theorem ZcF (a : List Msg) (b : Ls) : Y5 (a :: b) = a.length + Y5 b := by simp [Y5]
open Classical in
noncomputable def ZbS : Nat → Ls → List Msg
 | 0, _ => []
 | f + 1, cur => if h : ∃ b, Best cur b then (cur[h.choose]'(h.choose_spec.lt))[0]'(h.choose_spec.ne) :: ZbS f (cur.set h.choose ((cur[h.choose]'(h.choose_spec.lt)).drop 1)) else []
noncomputable def ZQ (cur : Ls) : List Msg := ZbS (Y5 cur) cur
theorem Zr6 {f : Nat} {cur : Ls} {b : Nat} (hb : Best cur b) : ZbS (f + 1) cur = (cur[b]'hb.lt)[0]'hb.ne :: ZbS f (cur.set b ((cur[b]'hb.lt).drop 1)) := by
 have h : ∃ b, Best cur b := ⟨b, hb⟩
 have e : h.choose = b := h.choose_spec.uniq hb
 rw [ZbS, dif_pos h]
 simp only [e]
theorem ZdL {cur : Ls} {b : Nat} (h : b < cur.length) (t : List Msg) : cur.set b t = cur.take b ++ t :: cur.drop (b + 1) := by
 rw [List.set_eq_take_append_cons_drop, if_pos h]
theorem Zf5 {cur : Ls} {b : Nat} (h : b < cur.length) : cur = cur.take b ++ cur[b] :: cur.drop (b + 1) := by
 rw [← List.drop_eq_getElem_cons h, List.take_append_drop]
theorem ZbT {cur : Ls} {b : Nat} (hb : Best cur b) : Y5 (cur.set b ((cur[b]'hb.lt).drop 1)) + 1 = Y5 cur := by
 have h := hb.ne
 rw [ZdL hb.lt]
 conv => rhs; rw [Zf5 hb.lt]
 rw [Zky, Zky, ZcF, ZcF, List.length_drop]
 omega
theorem ZdM {cur : Ls} {b : Nat} (hb : Best cur b) : ZQ cur = (cur[b]'hb.lt)[0]'hb.ne :: ZQ (cur.set b ((cur[b]'hb.lt).drop 1)) := by
 unfold ZQ
 rw [← ZbT hb, Zr6 hb]
theorem Zr7 {cur : Ls} (h : ∀ i (hi : i < cur.length), cur[i].length = 0) : Y5 cur = 0 := by
 unfold Y5
 rw [List.sum_eq_zero_iff_forall_eq_nat]
 intro x hx
 obtain ⟨l, hl, rfl⟩ := List.mem_map.1 hx
 obtain ⟨i, hi, rfl⟩ := List.getElem_of_mem hl
 exact h i hi
theorem Zf6 {cur : Ls} (h : ∀ i (hi : i < cur.length), cur[i].length = 0) : ZQ cur = [] := by
 unfold ZQ
 rw [Zr7 h]; rfl
def Z1 (k : Int) : Ls → List Hd
 | [] => []
 | l :: ls => (if 0 < l.length then [(l, k)] else []) ++ Z1 (k + 1) ls
theorem ZbU : ∀ (a b : Ls) (k : Int), Z1 k (a ++ b) = Z1 k a ++ Z1 (k + a.length) b
 | [], b, k => by simp [Z1]
 | l :: a, b, k => by
  have e : k + ((l :: a).length : Nat) = k + 1 + (a.length : Nat) := by simp; omega
  rw [e]
  simp only [List.cons_append, Z1, ZbU a b, List.append_assoc]
theorem Zf7 : ∀ (ls : Ls) (k : Int), (Z1 k ls).length ≤ ls.length
 | [], _ => Nat.le_refl _
 | l :: ls, k => by
  have := Zf7 ls (k + 1)
  unfold Z1
  split <;> simp <;> omega
theorem ZdN : ∀ {ls : Ls} {k : Int} {h : Hd}, h ∈ Z1 k ls ↔ ∃ i, ∃ hi : i < ls.length, h = (ls[i], k + (i : Nat)) ∧ 0 < ls[i].length
 | [], k, h => by simp [Z1]
 | l :: ls, k, h => by
  rw [Z1, List.mem_append, ZdN]
  constructor
  ·rintro (h1 | ⟨i, hi, h1, h2⟩)
   ·split at h1
    ·rename_i h3
     rw [List.mem_singleton] at h1
     exact ⟨0, by simp, by simp [h1], h3⟩
    ·cases h1
   ·exact ⟨i + 1, by simp; omega, by rw [h1]; simp; omega, by simpa using h2⟩
  ·rintro ⟨i, hi, h1, h2⟩
   cases i with
   | zero =>
    left
    have h2 : 0 < l.length := h2
    rw [if_pos h2]
    simp [h1]
   | succ i => exact .inr ⟨i, by simp at hi; omega, by rw [h1]; simp; omega, by simpa using h2⟩
theorem Zr8 {H : List Hd} {ls : Ls} {k : Nat} (hk : k < ls.length) (hp : H.Perm (Z1 0 (ls.take k))) (hne : 0 < ls[k].length) : ((ls[k], (k : Int)) :: H).Perm (Z1 0 (ls.take (k + 1))) := by
 rw [List.take_succ_eq_append_getElem hk, ZbU]
 have e : (List.take k ls).length = k := by rw [List.length_take]; omega
 rw [e]
 simp only [Z1, if_pos hne, Int.zero_add, List.append_nil]
 exact (List.perm_append_singleton _ _).symm.trans (hp.append_right _)
theorem Zr9 {H : List Hd} {ls : Ls} {k : Nat} (hk : k < ls.length) (hp : H.Perm (Z1 0 (ls.take k))) (hne : ¬ 0 < ls[k].length) : H.Perm (Z1 0 (ls.take (k + 1))) := by
 rw [List.take_succ_eq_append_getElem hk, ZbU]
 simp only [Z1, if_neg hne, List.append_nil]
 exact hp
theorem Zsa {H : List Hd} {cur : Ls} (hH : Heap Hd.lt H) (hp : H.Perm (Z1 0 cur)) (hl : 0 < H.length) : ∃ b, ∃ hb : Best cur b, nth H 0 = (cur[b]'hb.lt, (b : Int)) := by
 have hm : H[0] ∈ Z1 0 cur := hp.mem_iff.1 (List.getElem_mem hl)
 obtain ⟨b, hb, e, hne⟩ := ZdN.1 hm
 rw [Int.zero_add] at e
 refine ⟨b, ⟨hb, hne, fun j hj hjn => ?_⟩, by rw [Yl hl]; exact e⟩
 have hm2 : (cur[j], ((j : Nat) : Int)) ∈ H := hp.mem_iff.2 (ZdN.2 ⟨j, hj, by rw [Int.zero_add], hjn⟩)
 obtain ⟨c, hc, e2⟩ := List.getElem_of_mem hm2
 have := Zez Hd.lo hH c hc
 rw [Yl hc, Yl hl, e, e2] at this
 have h5 : (decide (stN cur[j] < stN cur[b]) || (decide (stN cur[j] = stN cur[b]) && decide (((j : Nat) : Int) < ((b : Nat) : Int)))) = false := this
 simp only [Bool.or_eq_false_iff, Bool.and_eq_false_iff, decide_eq_false_iff_not] at h5
 omega
theorem Zkz {H H' : List Hd} {cur : Ls} {b : Nat} (hb : Best cur b) (hp : H.Perm (Z1 0 cur)) (h : ((cur[b]'hb.lt, (b : Int)) :: H').Perm H) :
  H'.Perm (Z1 0 (cur.take b) ++ Z1 (b + 1) (cur.drop (b + 1))) := by
 have e : Z1 0 cur = Z1 0 (cur.take b) ++ (cur[b]'hb.lt, (b : Int)) :: Z1 (b + 1) (cur.drop (b + 1)) := by
  conv => lhs; rw [Zf5 hb.lt]
  rw [ZbU]
  have e : (List.take b cur).length = b := by rw [List.length_take]; have := hb.lt; omega
  rw [e]
  simp only [Z1, if_pos hb.ne, Int.zero_add, List.singleton_append]
 rw [e] at hp
 exact List.Perm.cons_inv (h.trans (hp.trans List.perm_middle))
theorem Zsb {cur : Ls} {b : Nat} (hb : b < cur.length) {t : List Msg} (ht : 0 < t.length) : Z1 0 (cur.set b t) = Z1 0 (cur.take b) ++ (t, (b : Int)) :: Z1 (b + 1) (cur.drop (b + 1)) := by
 rw [ZdL hb, ZbU]
 have e : (List.take b cur).length = b := by rw [List.length_take]; omega
 rw [e]
 simp only [Z1, if_pos ht, Int.zero_add, List.singleton_append]
theorem Zsc {cur : Ls} {b : Nat} (hb : b < cur.length) {t : List Msg} (ht : ¬ 0 < t.length) : Z1 0 (cur.set b t) = Z1 0 (cur.take b) ++ Z1 (b + 1) (cur.drop (b + 1)) := by
 rw [ZdL hb, ZbU]
 have e : (List.take b cur).length = b := by rw [List.length_take]; omega
 rw [e]
 simp only [Z1, if_neg ht, Int.zero_add, List.nil_append]
theorem ZkA {H : List Hd} {cur : Ls} {b : Nat} (hH : Heap Hd.lt H) (hp : H.Perm (Z1 0 cur)) (hl : 0 < H.length) (hb : Best cur b) (he : nth H 0 = (cur[b]'hb.lt, (b : Int))) {el : Hd} (hel : el = ((cur[b]'hb.lt).drop 1, (b : Int))) (ht : 0 < el.1.length) :
  Heap Hd.lt (Zaj Hd.lt (Y2 Hd.lt H) el) ∧ (Zaj Hd.lt (Y2 Hd.lt H) el).Perm (Z1 0 (cur.set b ((cur[b]'hb.lt).drop 1))) := by
 obtain ⟨h1, h2, h3⟩ := Zc3 Hd.lo hH hl
 obtain ⟨h4, h5⟩ := ZeA Hd.lo h1 el
 refine ⟨h4, h5.trans ?_⟩
 rw [he] at h2
 subst hel
 rw [Zsb hb.lt ht]
 exact ((Zkz hb hp h2).cons _).trans List.perm_middle.symm
theorem ZkB {H : List Hd} {cur : Ls} {b : Nat} (hH : Heap Hd.lt H) (hp : H.Perm (Z1 0 cur)) (hl : 0 < H.length) (hb : Best cur b) (he : nth H 0 = (cur[b]'hb.lt, (b : Int))) (ht : ¬ 0 < ((cur[b]'hb.lt).drop 1).length) :
  Heap Hd.lt (Y2 Hd.lt H) ∧ (Y2 Hd.lt H).Perm (Z1 0 (cur.set b ((cur[b]'hb.lt).drop 1))) := by
 obtain ⟨h1, h2, h3⟩ := Zc3 Hd.lo hH hl
 rw [he] at h2
 rw [Zsc hb.lt ht]
 exact ⟨h1, Zkz hb hp h2⟩
theorem Zsd {H : List Hd} {cur : Ls} (hp : H.Perm (Z1 0 cur)) (h0 : H.length = 0) : ZQ cur = [] := by
 refine Zf6 fun i hi => ?_
 cases hc : cur[i].length with
 | zero => rfl
 | succ n =>
  have hm : (cur[i], ((i : Nat) : Int)) ∈ H := hp.mem_iff.2 (ZdN.2 ⟨i, hi, by rw [Int.zero_add], om9⟩)
  rw [List.eq_nil_of_length_eq_zero h0] at hm; cases hm
theorem ZkC : ∀ (n : Nat) (cur : Ls), Y5 cur = n → (ZQ cur).length ≤ n
 | 0, cur, h => by unfold ZQ; rw [h]; exact Nat.le_refl _
 | n + 1, cur, h => by
  by_cases hb : ∃ b, Best cur b
  ·obtain ⟨b, hb⟩ := hb
   rw [ZdM hb, List.length_cons]
   have := ZkC n (cur.set b ((cur[b]'hb.lt).drop 1)) (by have := ZbT hb; omega)
   omega
  ·unfold ZQ; rw [h, ZbS, dif_neg hb]; simp
theorem Zse (cur : Ls) : (ZQ cur).length ≤ Y5 cur := ZkC _ cur rfl
end Go.Fw

namespace Go.Fw
theorem ZkD {f : List Msg → List Msg} (hf : ∀ l, (f l).length ≤ l.length) : ∀ (ls : Ls), Y5 (ls.map f) ≤ Y5 ls
 | [] => Nat.le_refl _
 | l :: ls => by
  have := hf l
  have ih := ZkD hf ls
  rw [List.map_cons, ZcF, ZcF]; omega
def BI (C : Ls) (j : Nat) (c : Int) : Prop := (c = -1 ∧ ∀ q (h : q < C.length), q < j → C[q].length = 0) ∨
 ∃ b : Nat, ∃ h : b < C.length, c = b ∧ b < j ∧ 0 < C[b].length ∧ ∀ q (hq : q < C.length), q < j → 0 < C[q].length → stN C[b] ≤ stN C[q] ∧ (q < b → stN C[b] < stN C[q])
theorem BI_nil (C : Ls) : BI C 0 (-1) := .inl ⟨rfl, fun q _ h => by omega⟩
theorem BI_skip {C : Ls} {j : Nat} {c : Int} (h : BI C j c) (hj : j < C.length) (hz : C[j].length = 0) : BI C (j + 1) c := by
 rcases h with ⟨h1, h2⟩ | ⟨b, hb, h1, h2, h3, h4⟩
 ·exact .inl ⟨h1, fun q hq hqj => by
   by_cases e : q = j
   ·subst e; exact hz
   ·exact h2 q hq om9⟩
 ·exact .inr ⟨b, hb, h1, om9, h3, fun q hq hqj hn => by
   by_cases e : q = j
   ·subst e; omega
   ·exact h4 q hq om9 hn⟩
theorem BI_first {C : Ls} {j : Nat} {c : Int} (h : BI C j c) (hc : c < 0) (hj : j < C.length) (hn : 0 < C[j].length) : BI C (j + 1) j := by
 rcases h with ⟨h1, h2⟩ | ⟨b, hb, h1, h2, h3, h4⟩
 ·exact .inr ⟨j, hj, rfl, om9, hn, fun q hq hqj hqn => by
   by_cases e : q = j
   ·subst e; exact ⟨Int.le_refl _, fun h => by omega⟩
   ·have := h2 q hq om9; omega⟩
 ·omega
theorem BI_less {C : Ls} {j b : Nat} (h : BI C j b) (hb : b < C.length) (hj : j < C.length) (hn : 0 < C[j].length) (hl : stN C[j] < stN C[b]) : BI C (j + 1) j := by
 rcases h with ⟨h1, h2⟩ | ⟨b', hb', h1, h2, h3, h4⟩
 ·omega
 ·have e : b' = b := om9
  subst e
  exact .inr ⟨j, hj, rfl, om9, hn, fun q hq hqj hqn => by
   by_cases e : q = j
   ·subst e; exact ⟨Int.le_refl _, fun h => by omega⟩
   ·have := h4 q hq om9 hqn
    exact ⟨om9, fun _ => by omega⟩⟩
theorem BI_keep {C : Ls} {j b : Nat} (h : BI C j b) (hb : b < C.length) (hj : j < C.length) (hl : ¬ stN C[j] < stN C[b]) : BI C (j + 1) b := by
 rcases h with ⟨h1, h2⟩ | ⟨b', hb', h1, h2, h3, h4⟩
 ·omega
 ·have e : b' = b := om9
  subst e
  exact .inr ⟨b', hb', rfl, om9, h3, fun q hq hqj hqn => by
   by_cases e : q = j
   ·subst e; exact ⟨om9, fun h => by omega⟩
   ·exact h4 q hq om9 hqn⟩
theorem BI_best {C : Ls} {j : Nat} {c : Int} (h : BI C j c) (hc : ¬ c < 0) : ∃ b : Nat, ∃ hb : b < C.length, c = b ∧ b < j ∧ 0 < C[b].length := by
 rcases h with ⟨h1, h2⟩ | ⟨b, hb, h1, h2, h3, h4⟩
 ·omega
 ·exact ⟨b, hb, h1, h2, h3⟩
theorem BI_done {C : Ls} {j b : Nat} (h : BI C j b) (hj : C.length ≤ j) : Best C b := by
 rcases h with ⟨h1, h2⟩ | ⟨b', hb, h1, h2, h3, h4⟩
 ·omega
 ·have e : b' = b := om9
  subst e
  exact ⟨hb, h3, fun q hq hqn => h4 q hq om9 hqn⟩
end Go.Fw

namespace Go.Fw
open Go Go.RowKit
structure Seat where
 n : Nd
 s : Span
 ms : List Msg
instance : Inhabited Seat := ⟨⟨Nd.zero, Span.zero, []⟩⟩
theorem WD.doneP {E : Env} {f : Fr} {G : GH} {M M1 M' Mk : MH} {ops : Array Oper} {K : Kt} {fuel : Nat} {listed : Array Bool} (hr : Region.ready .any ops listed = []) (hs : M1.Sublist M) (hp : M'.Perm M1) (h : K f G M') : WD E ops fuel listed f G M Mk K := fun _ a w Q hi hw _ hK =>
 wpAnyH_done hr (hK _ _ _ _ _ hi ⟨(hw.r.sub hs).perm hp, hw.le, hw.nw⟩ h) fuel
def atS (l : List Nd) (i : Int) : List Nd := l.filter fun n => decide (n.slot = i)
def Zw (l : List Nd) (i : Int) : Nd × Bool := ((atS l i).getLast?.getD Nd.zero, decide ((atS l i).length = 1))
theorem Zsf {l : List Nd} {i : Int} {k : Nat} (hk : k < l.length) (h : l[k].slot = i) : atS (l.take (k + 1)) i = atS (l.take k) i ++ [l[k]] := ZaC hk (decide_eq_true h)
theorem Zsg {l : List Nd} {i : Int} {k : Nat} (hk : k < l.length) (h : ¬ l[k].slot = i) : atS (l.take (k + 1)) i = atS (l.take k) i := Zai hk (decide_eq_false h)
theorem find_b {l : List Nd} {i : Int} {k : Nat} (h : l.length ≤ k) : decide ((((atS (l.take k) i).length : Nat) : Int) = 1) = (Zw l i).2 := by
 rw [List.take_of_length_le h]; exact decide_eq_decide.2 om9
noncomputable def Zb (l : List Nd) (x : Seat) (j : Nat) : Seat :=
 ⟨(Zw l (x.n.kids.getD j 0)).1, x.s.meet (Zf x.n.pivots (j : Int)), ZQ [Zc (x.s.meet (Zf x.n.pivots (j : Int))) x.n.msgs, Zc (x.s.meet (Zf x.n.pivots (j : Int))) x.ms]⟩
def XQ (l : List Nd) (x : Seat) (j : Nat) : Bool := (Zw l (x.n.kids.getD j 0)).2 && decide ((Zw l (x.n.kids.getD j 0)).1.level = x.n.level - 1)
noncomputable def Xp (l : List Nd) (x : Seat) (j : Nat) : List Seat := (List.range j).map (Zb l x)
noncomputable def Z7 (l : List Nd) (x : Seat) : Option (List Seat) :=
 if x.n.level = 0 then some []
 else if x.n.level < 0 ∨ YC x.n.pivots x.n.kids.length = false then none
 else if (List.range x.n.kids.length).all (XQ l x) = true then some (Xp l x x.n.kids.length) else none
noncomputable def Zk (l : List Nd) (x : Seat) : List Seat := (Z7 l x).getD []
theorem ZaM {l : List Nd} {x : Seat} (h : x.n.level = 0) : Z7 l x = some [] := if_pos h
theorem Zsh {l : List Nd} {x : Seat} (h0 : ¬ x.n.level = 0) (h1 : ¬ x.n.level < 0) (h2 : YC x.n.pivots x.n.kids.length = true) (h : ∀ j, j < x.n.kids.length → XQ l x j = true) : Z7 l x = some (Xp l x x.n.kids.length) := by
 rw [Z7, if_neg h0, if_neg (by rintro (h | h); exact h1 h; rw [h2] at h; cases h), if_pos]
 exact List.all_eq_true.2 fun j hj => h j (List.mem_range.1 hj)
theorem Zac (l : List Nd) (x : Seat) (j : Nat) : (Xp l x j).length = j := by simp [Xp]
noncomputable def X3 (l : List Nd) : Nat → Nat → List Seat → Option (List Seat)
 | 0, _, _ => none
 | f + 1, i, out => if h : i < out.length then if l.length < out.length then none else match Z7 l out[i] with
   | none => none
   | some ks => X3 l f (i + 1) (out ++ ks)
  else some out
noncomputable def Zm (l : List Nd) (root : Int) : Seat := ⟨(Zw l root).1, Span.all, []⟩
noncomputable def JJ (l : List Nd) (root : Int) : Option (List Seat) := if (Zw l root).2 = true then X3 l (l.length + 2) 0 [Zm l root] else none
theorem Zf8 {l : List Nd} {f i : Nat} {out : List Seat} (h : ¬ i < out.length) : X3 l (f + 1) i out = some out := by rw [X3, dif_neg h]
theorem Zsi {l : List Nd} {f i : Nat} {out : List Seat} (h : i < out.length) (hl : l.length < out.length) : X3 l (f + 1) i out = none := by rw [X3, dif_pos h, if_pos hl]
theorem ZkE {l : List Nd} {f i : Nat} {out : List Seat} (h : i < out.length) (hk : Z7 l out[i] = none) : X3 l (f + 1) i out = none := by
 rw [X3, dif_pos h]
 split
 ·rfl
 ·rw [hk]
theorem Zf9 {l : List Nd} {f i : Nat} {out ks : List Seat} (h : i < out.length) (hl : ¬ l.length < out.length) (hk : Z7 l out[i] = some ks) : X3 l (f + 1) i out = X3 l f (i + 1) (out ++ ks) := by
 rw [X3, dif_pos h, if_neg hl, hk]
structure QOk (l : List Nd) (root : Int) (i : Nat) (out : List Seat) : Prop where
 le : i ≤ out.length
 pos : 0 < out.length
 len : i ≤ l.length
 eq : JJ l root = X3 l (l.length + 2 - i) i out
theorem Zsj {n i : Nat} (h : i ≤ n) : n + 2 - i = (n + 1 - i) + 1 := om9
theorem QOk.none {l : List Nd} {root : Int} {i : Nat} {out : List Seat} (h : QOk l root i out) (hi : i < out.length) (hk : Z7 l out[i] = none) : JJ l root = none := by
 rw [h.eq, Zsj h.len, ZkE hi hk]
def Sml (l : List Nd) : Prop := l.length ≤ 4096 ∧ ∀ n ∈ l, n.kids.length ≤ 4000 ∧ n.pivots.length ≤ 4000 ∧ n.msgs.length ≤ 4000 ∧ n.rows.length ≤ 4000 ∧ n.high.b.size ≤ 4000 ∧ (∀ m ∈ n.msgs, m.key.b.size ≤ 4000 ∧ m.hi.b.size ≤ 4000 ∧ m.val.b.size ≤ 4000) ∧ (∀ p ∈ n.pivots, p.b.size ≤ 4000) ∧ ∀ p ∈ n.rows, p.key.b.size ≤ 4000 ∧ p.val.b.size ≤ 4000
theorem Sml.zero : (Nd.zero.kids.length ≤ 4000 ∧ Nd.zero.pivots.length ≤ 4000 ∧ Nd.zero.msgs.length ≤ 4000 ∧ Nd.zero.rows.length ≤ 4000 ∧ Nd.zero.high.b.size ≤ 4000 ∧ (∀ m ∈ Nd.zero.msgs, m.key.b.size ≤ 4000 ∧ m.hi.b.size ≤ 4000 ∧ m.val.b.size ≤ 4000) ∧ (∀ p ∈ Nd.zero.pivots, p.b.size ≤ 4000) ∧ ∀ p ∈ Nd.zero.rows, p.key.b.size ≤ 4000 ∧ p.val.b.size ≤ 4000) := by
 refine ⟨by decide, by decide, by decide, by decide, by decide, ?_, ?_, ?_⟩ <;> (intro m hm; cases hm)
theorem ZkF (C : Ls) : (∀ q (h : q < C.length), C[q].length = 0) ∨ ∃ b, Best C b := by
 have key : ∀ j, j ≤ C.length → ∃ c : Int, BI C j c := by
  intro j
  induction j with
  | zero => intro _; exact ⟨-1, BI_nil C⟩
  | succ j ih =>
   intro hj
   obtain ⟨c, hc⟩ := ih om9
   by_cases hz : C[j].length = 0
   ·exact ⟨c, BI_skip hc om9 hz⟩
   ·by_cases h0 : c < 0
    ·exact ⟨j, BI_first hc h0 om9 om9⟩
    ·obtain ⟨b, hb, rfl, hbj, _⟩ := BI_best hc h0
     by_cases hl : stN C[j] < stN C[b]
     ·exact ⟨j, BI_less hc hb om9 om9 hl⟩
     ·exact ⟨b, BI_keep hc hb om9 hl⟩
 obtain ⟨c, hc⟩ := key C.length (Nat.le_refl _)
 by_cases h0 : c < 0
 ·rcases hc with ⟨h1, h2⟩ | ⟨b, hb, h1, _⟩
  ·exact .inl fun q h => h2 q h h
  ·omega
 ·obtain ⟨b, hb, rfl, _, _⟩ := BI_best hc h0
  exact .inr ⟨b, BI_done hc (Nat.le_refl _)⟩
theorem ZkG {C : Ls} (h : ∀ q (h : q < C.length), C[q].length = 0) : C.flatten = [] := by
 rw [List.flatten_eq_nil_iff]
 intro L hL
 obtain ⟨i, hi, rfl⟩ := List.getElem_of_mem hL
 exact List.eq_nil_of_length_eq_zero (h i hi)
theorem Zsk {A R X : List Msg} (h : 0 < X.length) : (X[0] :: (A ++ (X.drop 1 ++ R))).Perm (A ++ (X ++ R)) := by
 cases X with
 | nil => simp at h
 | cons x X => exact List.perm_middle.symm
theorem Zsl {C : Ls} {b : Nat} (hb : Best C b) : ((C[b]'hb.lt)[0]'hb.ne :: (C.set b ((C[b]'hb.lt).drop 1)).flatten).Perm C.flatten := by
 have e1 : (C.set b ((C[b]'hb.lt).drop 1)).flatten = (C.take b).flatten ++ ((C[b]'hb.lt).drop 1 ++ (C.drop (b + 1)).flatten) := by
  rw [ZdL hb.lt, List.flatten_append, List.flatten_cons]
 have e2 : C.flatten = (C.take b).flatten ++ (C[b]'hb.lt ++ (C.drop (b + 1)).flatten) := by
  conv => lhs; rw [Zf5 hb.lt]
  rw [List.flatten_append, List.flatten_cons]
 have h := Zsk (A := (C.take b).flatten) (R := (C.drop (b + 1)).flatten) hb.ne
 rw [← e1, ← e2] at h
 exact h
def Rst (l : List Msg) : Prop := l.Pairwise fun a b => a.stamp < b.stamp
theorem ZkH : ∀ (n : Nat) (C : Ls) (S : List Msg), Y5 C = n → (∀ L ∈ C, Rst L) → S.Perm C.flatten → Rst S → ZQ C = S := by
 intro n
 induction n with
 | zero =>
  intro C S h _ hp _
  rcases ZkF C with h1 | ⟨b, hb⟩
  ·rw [ZkG h1] at hp
   rw [Zf6 h1, List.Perm.eq_nil hp]
  ·have := ZbT hb; omega
 | succ n ih =>
  intro C S h hC hp hS
  rcases ZkF C with h1 | ⟨b, hb⟩
  ·rw [ZkG h1] at hp
   rw [Zf6 h1, List.Perm.eq_nil hp]
  ·have hf := Zsl hb
   rw [ZdM hb]
   cases S with
   | nil => have := (hp.trans hf.symm).length_eq; simp at this
   | cons s S =>
    have hp2 := hp.trans hf.symm
    have e : s = (C[b]'hb.lt)[0]'hb.ne := by
     have hs : s ∈ C.flatten := hp.mem_iff.1 (by simp)
     have hc : (C[b]'hb.lt)[0]'hb.ne ∈ s :: S := hp2.mem_iff.2 (by simp)
     rcases List.mem_cons.1 hc with h | h
     ·exact h.symm
     ·have h2 := (List.pairwise_cons.1 hS).1 _ h
      obtain ⟨L, hL, hsL⟩ := List.mem_flatten.1 hs
      obtain ⟨j, hj, rfl⟩ := List.getElem_of_mem hL
      obtain ⟨q, hq, rfl⟩ := List.getElem_of_mem hsL
      have h3 := (hb.min j hj om9).1
      rw [Zkx hb.ne, Zkx (show 0 < C[j].length by omega)] at h3
      have h4 : (C[j][0]'om9).stamp ≤ C[j][q].stamp := by
       by_cases e0 : q = 0
       ·subst e0; exact Int.le_refl _
       ·exact Int.le_of_lt (List.pairwise_iff_getElem.1 (hC _ (List.getElem_mem hj)) 0 q om9 hq om9)
      omega
    subst e
    congr 1
    refine ih _ S (by have := ZbT hb; omega) ?_ (List.Perm.cons_inv hp2) (List.pairwise_cons.1 hS).2
    intro L hL
    rcases List.mem_or_eq_of_mem_set hL with h | h
    ·exact hC _ h
    ·subst h; exact List.Pairwise.sublist (List.drop_sublist _ _) (hC _ (List.getElem_mem _))
theorem ZdO {a b : Span} {n : Nat} (ha : a.lo.b.size ≤ n ∧ a.hi.b.size ≤ n) (hb : b.lo.b.size ≤ n ∧ b.hi.b.size ≤ n) : (a.meet b).lo.b.size ≤ n ∧ (a.meet b).hi.b.size ≤ n := by
 unfold Span.meet
 refine ZcY ?_ ?_
 ·dsimp only; split; exact hb.1; exact ha.1
 ·dsimp only; split; exact hb.2; exact ha.2
theorem ZcG {p : List Str} {i : Int} {n : Nat} (h : ∀ k ∈ p, k.b.size ≤ n) : (Zf p i).lo.b.size ≤ n ∧ (Zf p i).hi.b.size ≤ n := by
 have h0 : Str.nil.b.size = 0 := rfl
 have hg : ∀ j, (p.getD j Str.nil).b.size ≤ n := by
  intro j
  by_cases hj : j < p.length
  ·rw [JQ hj]; exact h _ (List.getElem_mem _)
  ·rw [ZgL om9]; omega
 unfold Zf
 split
 ·exact ⟨by show Str.nil.b.size ≤ n; omega, by show Str.nil.b.size ≤ n; omega⟩
 ·refine ZcY ?_ (hg _)
  dsimp only; split
  ·exact hg _
  ·omega
structure SeatS (l : List Nd) (p : Nat) (x : Seat) : Prop where
 nd : x.n = Nd.zero ∨ x.n ∈ l
 ms : x.ms.length ≤ 4000 * p
 sp : x.s.lo.b.size ≤ 4000 ∧ x.s.hi.b.size ≤ 4000
 key : ∀ m ∈ x.ms, m.key.b.size ≤ 4000 ∧ m.hi.b.size ≤ 4000 ∧ m.val.b.size ≤ 4000
def NdS (n : Nd) : Prop := n.kids.length ≤ 4000 ∧ n.pivots.length ≤ 4000 ∧ n.msgs.length ≤ 4000 ∧ n.rows.length ≤ 4000 ∧ n.high.b.size ≤ 4000 ∧ (∀ m ∈ n.msgs, m.key.b.size ≤ 4000 ∧ m.hi.b.size ≤ 4000 ∧ m.val.b.size ≤ 4000) ∧ (∀ p ∈ n.pivots, p.b.size ≤ 4000) ∧ ∀ p ∈ n.rows, p.key.b.size ≤ 4000 ∧ p.val.b.size ≤ 4000
theorem Sml.at {l : List Nd} (h : Sml l) {n : Nd} (hn : n = Nd.zero ∨ n ∈ l) : NdS n := by
 rcases hn with rfl | hn
 ·exact Sml.zero
 ·exact h.2 n hn
def ZaN (ss : List Seat) (i : Nat) : Int := if i + 1 < ss.length ∧ (ss.getD (i + 1) default).n.level = (ss.getD i default).n.level then (ss.getD (i + 1) default).n.slot else -1
def LinkedP (ss : List Seat) : Prop := ∀ i (h : i < ss.length), ss[i].n.right = ZaN ss i
instance (ss : List Seat) : Decidable (LinkedP ss) := by unfold LinkedP; infer_instance
def PlacedP (x : Seat) : Prop := (x.n.top = x.s.opn ∧ x.n.high = x.s.hi) ∧ (∀ i (h : i < x.n.rows.length), x.s.has x.n.rows[i].key = true) ∧ (∀ i (h : i < x.n.pivots.length), x.s.has x.n.pivots[i] = true ∧ x.n.pivots[i] ≠ x.s.lo) ∧ ∀ i (h : i < x.n.msgs.length), x.n.msgs[i].span.meet x.s = x.n.msgs[i].span.norm
instance (x : Seat) : Decidable (PlacedP x) := by unfold PlacedP; infer_instance
def ZcH (ss : List Seat) (i : Int) : List Seat := ss.filter fun x => decide (x.n.slot = i)
def OnceP (l : List Nd) (ss : List Seat) : Prop := l.length = ss.length ∧ ∀ i (h : i < l.length), (ZcH ss l[i].slot).length = 1
instance (l : List Nd) (ss : List Seat) : Decidable (OnceP l ss) := by unfold OnceP; infer_instance
def StampP (x : Seat) : Prop := ∀ j (h : j < x.ms.length), x.n.seen < x.ms[j].stamp
instance (x : Seat) : Decidable (StampP x) := by unfold StampP; infer_instance
def SeatP (c : Cfg) (x : Seat) : Prop := x.n.R c.fan c.leaf c.bud ∧ PlacedP x ∧ x.n.slot < c.slots ∧ StampP x
instance (c : Cfg) (x : Seat) : Decidable (SeatP c x) := by unfold SeatP; infer_instance
def SoundQ (c : Cfg) (l : List Nd) (ss : List Seat) : Prop := (OnceP l ss ∧ LinkedP ss ∧ (l.length : Int) ≤ c.slots) ∧ ∀ i (h : i < ss.length), SeatP c ss[i]
instance (c : Cfg) (l : List Nd) (ss : List Seat) : Decidable (SoundQ c l ss) := by unfold SoundQ; infer_instance
def SlotsP (l : List Nd) : Prop := ∀ i (h : i < l.length), l[i].slot = (i : Int) ∧ l[i].seen ≤ 1099511627776
instance (l : List Nd) : Decidable (SlotsP l) := by unfold SlotsP; infer_instance
theorem Zga {ss : List Seat} {i : Nat} (h : ¬ i + 1 < ss.length) : ZaN ss i = -1 := by
 unfold ZaN
 exact if_neg fun h2 => h h2.1
theorem Zsm {l : List Nd} {r : Seat} : ∀ (f i : Nat) (out ss : List Seat), X3 l f i out = some ss → out = r :: (out.take i).flatMap (Zk l) → (∀ x ∈ out.take i, (Z7 l x).isSome = true) →
  ss = r :: ss.flatMap (Zk l) ∧ ∀ x ∈ ss, (Z7 l x).isSome = true := by
 intro f
 induction f with
 | zero => intro i out ss h; cases h
 | succ f ih =>
  intro i out ss h he hs
  by_cases hi : i < out.length
  ·by_cases hl : l.length < out.length
   ·rw [Zsi hi hl] at h; cases h
   ·cases hk : Z7 l out[i] with
    | none => rw [ZkE hi hk] at h; cases h
    | some ks =>
     rw [Zf9 hi hl hk] at h
     have e : (out ++ ks).take (i + 1) = out.take i ++ [out[i]] := by
      rw [List.take_append_of_le_length om9, List.take_succ_eq_append_getElem hi]
     refine ih _ _ _ h ?_ ?_
     ·rw [e, List.flatMap_append, ← List.cons_append, ← he]
      congr 1
      simp [Zk, hk]
     ·intro x hx
      rw [e, List.mem_append, List.mem_singleton] at hx
      rcases hx with hx | rfl
      ·exact hs x hx
      ·rw [hk]; rfl
  ·rw [Zf8 hi] at h
   cases h
   rw [List.take_of_length_le om9] at he hs
   exact ⟨he, hs⟩
theorem ZkI {l : List Nd} {root : Int} {ss : List Seat} (h : JJ l root = some ss) : (Zw l root).2 = true ∧ ss = Zm l root :: ss.flatMap (Zk l) ∧ ∀ x ∈ ss, (Z7 l x).isSome = true := by
 unfold JJ at h
 split at h
 ·rename_i hf
  exact ⟨hf, Zsm _ _ _ _ h rfl (fun x hx => by simp at hx)⟩
 ·cases h
theorem Z8 {l : List Nd} {x : Seat} (h : (Z7 l x).isSome = true) (h0 : ¬ x.n.level = 0) : Zk l x = Xp l x x.n.kids.length ∧ 0 < x.n.level ∧ YC x.n.pivots x.n.kids.length = true ∧ ∀ j, j < x.n.kids.length → XQ l x j = true := by
 unfold Zk Z7 at *
 rw [if_neg h0] at h ⊢
 split at h
 ·cases h
 ·rename_i h1
  rw [if_neg h1]
  split at h
  ·rename_i h2
   rw [if_pos h2]
   refine ⟨rfl, om9, by simpa using fun h => h1 (.inr h), fun j hj => List.all_eq_true.1 h2 j (List.mem_range.2 hj)⟩
  ·cases h
theorem Xz {l : List Nd} {x : Seat} (h0 : x.n.level = 0) : Zk l x = [] := by rw [Zk, ZaM h0]; rfl
theorem ZkJ {l : List Nd} (h : SlotsP l) (i : Int) : ∀ k, k ≤ l.length → atS (l.take k) i = if h : 0 ≤ i ∧ i < k ∧ i.toNat < l.length then [l[i.toNat]] else []
 | 0, _ => by rw [dif_neg om9]; rfl
 | k + 1, hk => by
  have ih := ZkJ h i k om9
  have hs := (h k om9).1
  by_cases e : l[k].slot = i
  ·rw [Zsf om9 e, ih, dif_neg om9, dif_pos ⟨om9, om9, om9⟩, List.nil_append]
   congr 2; omega
  ·rw [Zsg om9 e, ih]
   by_cases e2 : 0 ≤ i ∧ i < k ∧ i.toNat < l.length
   ·rw [dif_pos e2, dif_pos ⟨e2.1, om9, e2.2.2⟩]
   ·rw [dif_neg e2, dif_neg om9]
theorem Zgb {l : List Nd} (h : SlotsP l) (i : Int) : atS l i = if h : 0 ≤ i ∧ i < l.length ∧ i.toNat < l.length then [l[i.toNat]] else [] := by
 have := ZkJ h i l.length (Nat.le_refl _)
 rwa [List.take_length] at this
theorem Zgc {l : List Nd} (h : SlotsP l) {i : Nat} (hi : i < l.length) : Zw l i = (l[i], true) := by
 unfold Zw
 rw [Zgb h, dif_pos ⟨om9, om9, om9⟩]
 simp
theorem Zsn {l : List Nd} (h : SlotsP l) {i : Int} (hi : ¬ (0 ≤ i ∧ i < l.length)) : Zw l i = (Nd.zero, false) := by
 unfold Zw
 rw [Zgb h, dif_neg om9]
 rfl
theorem Zau {l : List Nd} (h : SlotsP l) (i : Int) : Zw l i = (Za l i, decide (0 ≤ i ∧ i < l.length)) := by
 by_cases hi : 0 ≤ i ∧ i < l.length
 ·obtain ⟨k, rfl⟩ : ∃ k : Nat, i = k := ⟨i.toNat, om9⟩
  rw [Zgc h om9, Zam om9, decide_eq_true hi]
 ·rw [Zsn h hi, decide_eq_false hi]
  congr 1
  unfold Za
  split
  ·rw [List.getD_eq_getElem?_getD, List.getElem?_eq_none om9]; rfl
  ·rfl
structure Tree (c : Cfg) (l : List Nd) (ss : List Seat) : Prop where
 cfg : CfgR c
 pos : 0 < l.length
 sml : Sml l
 slot : SlotsP l
 sts : JJ l 0 = some ss
 q : SoundQ c l ss
variable {c : Cfg} {l : List Nd} {ss : List Seat}
theorem Tree.fix (t : Tree c l ss) : ss = Zm l 0 :: ss.flatMap (Zk l) := (ZkI t.sts).2.1
theorem Tree.root (t : Tree c l ss) : Zm l 0 ∈ ss := by rw [t.fix]; simp
theorem Tree.kids (t : Tree c l ss) {x : Seat} (hx : x ∈ ss) : (Z7 l x).isSome = true := (ZkI t.sts).2.2 x hx
theorem Tree.kid (t : Tree c l ss) {x y : Seat} (hx : x ∈ ss) (hy : y ∈ Zk l x) : y ∈ ss := by rw [t.fix]; exact List.mem_cons_of_mem _ (List.mem_flatMap.2 ⟨x, hx, hy⟩)
theorem Tree.seat (t : Tree c l ss) {x : Seat} (hx : x ∈ ss) : SeatP c x := by
 obtain ⟨i, hi, rfl⟩ := List.getElem_of_mem hx
 exact t.q.2 i hi
theorem Tree.lvl (t : Tree c l ss) {x : Seat} (hx : x ∈ ss) : 0 ≤ x.n.level := (t.seat hx).1.1.2.1
theorem Tree.rootn (t : Tree c l ss) : (Zm l 0).n = Za l 0 := by
 show (Zw l 0).1 = _
 rw [Zau t.slot]
theorem Tree.at (t : Tree c l ss) {x : Seat} (hx : x ∈ ss) (h0 : ¬ x.n.level = 0) {j : Nat} (hj : j < x.n.kids.length) :
  Zb l x j ∈ ss ∧ (0 ≤ x.n.kids[j] ∧ x.n.kids[j] < l.length) ∧ (Zb l x j).n = Za l x.n.kids[j] ∧ (Zb l x j).n.level = x.n.level - 1 := by
 obtain ⟨h1, h2, h3, h4⟩ := Z8 (t.kids hx) h0
 have hk := h4 j hj
 unfold XQ at hk
 have ej : x.n.kids.getD j 0 = x.n.kids[j] := by rw [List.getD_eq_getElem?_getD, List.getElem?_eq_getElem hj]; rfl
 rw [ej, Zau t.slot, Bool.and_eq_true, decide_eq_true_eq, decide_eq_true_eq] at hk
 have en : (Zb l x j).n = Za l x.n.kids[j] := by
  show (Zw l (x.n.kids.getD j 0)).1 = _
  rw [ej, Zau t.slot]
 refine ⟨t.kid hx ?_, hk.1, en, by rw [en]; exact hk.2⟩
 rw [h1]
 exact List.mem_map.2 ⟨j, List.mem_range.2 hj, rfl⟩
theorem YI (h : SlotsP l) {i : Int} (hi : 0 ≤ i ∧ i < l.length) : (Za l i).slot = i ∧ Za l i ∈ l := by
 obtain ⟨k, rfl⟩ : ∃ k : Nat, i = k := ⟨i.toNat, om9⟩
 rw [Zam om9]
 exact ⟨(h k om9).1, List.getElem_mem _⟩
theorem Tree.nd (t : Tree c l ss) {x : Seat} (hx : x ∈ ss) : ∃ h : 0 ≤ x.n.slot ∧ x.n.slot < l.length, x.n = Za l x.n.slot ∧ x.n ∈ l := by
 have key : ∃ i : Int, (0 ≤ i ∧ i < l.length) ∧ x.n = Za l i := by
  rw [t.fix] at hx
  rcases List.mem_cons.1 hx with rfl | hx
  ·exact ⟨0, ⟨om9, by have := t.pos; omega⟩, t.rootn⟩
  ·obtain ⟨y, hy, hk⟩ := List.mem_flatMap.1 hx
   by_cases h0 : y.n.level = 0
   ·rw [Xz h0] at hk; cases hk
   ·rw [(Z8 (t.kids hy) h0).1] at hk
    obtain ⟨j, hj, rfl⟩ := List.mem_map.1 hk
    have := t.at hy h0 (List.mem_range.1 hj)
    exact ⟨_, this.2.1, this.2.2.1⟩
 obtain ⟨i, hi, e⟩ := key
 obtain ⟨h1, h2⟩ := YI t.slot hi
 have hs : x.n.slot = i := by rw [e]; exact h1
 exact ⟨om9, by rw [hs]; exact e, by rw [e]; exact h2⟩
theorem Tree.perm (t : Tree c l ss) : (ss.map (·.n)).Perm l := by
 have hon := t.q.1.1
 have hnl : l.Nodup := by
  refine List.pairwise_iff_getElem.2 fun i j hi hj hij he => ?_
  have h1 := (t.slot i hi).1
  have h2 := (t.slot j hj).1
  rw [he] at h1
  omega
 refine (List.perm_ext_iff_of_nodup ?_ hnl).2 fun a => ⟨fun ha => ?_, fun ha => ?_⟩
 ·rw [List.nodup_iff_count]
  intro a
  by_cases ha : a ∈ ss.map (·.n)
  ·obtain ⟨x, hx, rfl⟩ := List.mem_map.1 ha
   obtain ⟨hs, hn, hm⟩ := t.nd hx
   have h1 := hon.2 x.n.slot.toNat om9
   rw [(t.slot _ _).1, show ((x.n.slot.toNat : Nat) : Int) = x.n.slot by omega] at h1
   rw [← h1, List.count_eq_countP, List.countP_map, ZcH, ← List.countP_eq_length_filter]
   refine List.countP_mono_left fun y _ hy => ?_
   simp only [Function.comp, beq_iff_eq] at hy
   simp [hy]
  ·rw [List.count_eq_zero_of_not_mem ha]; omega
 ·obtain ⟨x, hx, rfl⟩ := List.mem_map.1 ha
  exact (t.nd hx).2.2
 ·obtain ⟨i, hi, rfl⟩ := List.getElem_of_mem ha
  have h1 := hon.2 i hi
  have h2 : ∃ x, x ∈ ZcH ss l[i].slot := by
   cases h : ZcH ss l[i].slot with
   | nil => rw [h] at h1; simp at h1
   | cons x _ => exact ⟨x, by simp⟩
  obtain ⟨x, hx⟩ := h2
  obtain ⟨hx1, hx2⟩ := List.mem_filter.1 hx
  have hx2 := of_decide_eq_true hx2
  refine List.mem_map.2 ⟨x, hx1, ?_⟩
  have hnd := (t.nd hx1).2.1
  rw [hnd, hx2, (t.slot i hi).1, Zam hi]
theorem Tree.len (t : Tree c l ss) : ss.length = l.length := t.q.1.1.1.symm
theorem Zav (k : Str) : Span.all.has k = true := by
 show (!k.lt Str.nil && (true || _)) = true
 rw [Str.nil_le]; rfl
theorem Za9 {x : Seat} (h : YC x.n.pivots x.n.kids.length = true) {j : Nat} (hj : j < x.n.kids.length) (k : Str) : (Zb l x j).s.has k = (x.s.has k && decide (j = Ze x.n.pivots k)) := by
 obtain ⟨h1, h2⟩ := YR h
 show (Span.meet _ _).has k = _
 rw [ZI, Xu h1 k om9]
theorem ZcI {x : Seat} (h : YC x.n.pivots x.n.kids.length = true) (k : Str) : Ze x.n.pivots k < x.n.kids.length := by
 have := (YR h).2
 have h2 : Ze x.n.pivots k ≤ x.n.pivots.length := List.length_filter_le _ _
 omega
theorem ZkK (b : Bool) (r : Nat) : ∀ n, (List.range n).filter (fun j => b && decide (j = r)) = if b = true ∧ r < n then [r] else []
 | 0 => by simp
 | n + 1 => by
  rw [List.range_succ, List.filter_append, ZkK b r n]
  cases b
  ·simp
  ·by_cases h : r < n
   ·rw [if_pos ⟨rfl, h⟩, if_pos ⟨rfl, om9⟩, List.filter_cons_of_neg (by simp; omega)]; simp
   ·rw [if_neg (by simp; omega)]
    by_cases h2 : r = n
    ·subst h2; rw [if_pos ⟨rfl, om9⟩, List.filter_cons_of_pos (by simp)]; simp
    ·rw [if_neg (by simp; omega), List.filter_cons_of_neg (by simp; omega)]; simp
noncomputable def JK (l : List Nd) (k : Str) (x : Seat) : Option Seat := if x.n.level = 0 then none else some (Zb l x (Ze x.n.pivots k))
theorem Zgd {k : Str} {x : Seat} (h : x.n.level = 0) : JK l k x = none := if_pos h
theorem JV {k : Str} {x : Seat} (h : ¬ x.n.level = 0) : JK l k x = some (Zb l x (Ze x.n.pivots k)) := if_neg h
theorem ZdP {α β : Type} (p : β → Bool) (f : α → β) : ∀ (l : List α), (l.map f).filter p = (l.filter fun a => p (f a)).map f
 | [] => rfl
 | a :: l => by
  rw [List.map_cons, List.filter_cons, List.filter_cons, ZdP p f l]
  split <;> simp_all
theorem Zso {α : Type} {p q : α → Bool} {l : List α} (h : ∀ a ∈ l, p a = q a) : l.filter p = l.filter q := List.filter_congr h
theorem Tree.filt (t : Tree c l ss) (k : Str) {x : Seat} (hx : x ∈ ss) : ((Zk l x).filter fun y => y.s.has k) = if x.s.has k = true then (JK l k x).toList else [] := by
 by_cases h0 : x.n.level = 0
 ·rw [Xz h0, Zgd h0]; simp
 ·obtain ⟨h1, h2, h3, h4⟩ := Z8 (t.kids hx) h0
  rw [h1, JV h0]
  unfold Xp
  rw [ZdP, Zso (q := fun j => x.s.has k && decide (j = Ze x.n.pivots k)) (fun j hj => Za9 h3 (List.mem_range.1 hj) k), ZkK]
  have := ZcI h3 k
  by_cases hk : x.s.has k = true
  ·rw [if_pos ⟨hk, this⟩, if_pos hk]; rfl
  ·rw [if_neg (fun h => hk h.1), if_neg hk]; rfl
def X4 (k : Str) (ss : List Seat) : List Seat := ss.filter fun y => y.s.has k
theorem Tree.has_fix (t : Tree c l ss) (k : Str) : X4 k ss = Zm l 0 :: (X4 k ss).filterMap (JK l k) := by
 have key : ∀ (ts : List Seat), (∀ x ∈ ts, x ∈ ss) → X4 k (ts.flatMap (Zk l)) = (X4 k ts).filterMap (JK l k) := by
  intro ts
  induction ts with
  | nil => intro _; rfl
  | cons x ts ih =>
   intro h
   unfold X4 at *
   rw [List.flatMap_cons, List.filter_append, ih (fun y hy => h y (List.mem_cons_of_mem _ hy)), t.filt k (h x (by simp)), List.filter_cons]
   split
   ·rw [List.filterMap_cons]
    cases JK l k x <;> rfl
   ·rfl
 have e := key ss (fun x hx => hx)
 rw [← e]
 conv => lhs; rw [t.fix]
 unfold X4
 rw [List.filter_cons_of_pos (by exact Zav k)]
noncomputable def Xq (l : List Nd) (k : Str) : Nat → Seat → List Seat
 | 0, x => [x]
 | f + 1, x => x :: match JK l k x with
  | none => []
  | some y => Xq l k f y
theorem ZdQ : ∀ (T : List Seat), T ≠ [] → ∃ m ∈ T, ∀ x ∈ T, x.n.level ≤ m.n.level
 | [], h => absurd rfl h
 | [x], _ => ⟨x, by simp, fun y hy => by simp at hy; subst hy; exact Int.le_refl _⟩
 | x :: y :: T, _ => by
  obtain ⟨m, hm, hx⟩ := ZdQ (y :: T) (by simp)
  by_cases h : m.n.level ≤ x.n.level
  ·exact ⟨x, by simp, fun z hz => by
    rcases List.mem_cons.1 hz with rfl | hz
    ·exact Int.le_refl _
    ·exact Int.le_trans (hx z hz) h⟩
  ·exact ⟨m, List.mem_cons_of_mem _ hm, fun z hz => by
    rcases List.mem_cons.1 hz with rfl | hz
    ·omega
    ·exact hx z hz⟩
theorem Zsp {f : Seat → Option Seat} {T : List Seat} (h : T = T.filterMap f) (hf : ∀ x ∈ T, ∀ y, f x = some y → y.n.level < x.n.level) : T = [] := by
 apply Classical.byContradiction
 intro hn
 obtain ⟨m, hm, hx⟩ := ZdQ T hn
 have hm2 := hm
 rw [h] at hm2
 obtain ⟨x, hx1, hx2⟩ := List.mem_filterMap.1 hm2
 have := hf x hx1 m hx2
 have := hx x hx1
 omega
theorem Zsq {k : Str} : ∀ (n : Nat) (z : Seat) (T : List Seat), z.n.level.toNat = n → T = z :: T.filterMap (JK l k) → (∀ x ∈ T, 0 ≤ x.n.level ∧ ∀ y, JK l k x = some y → y.n.level = x.n.level - 1) → T = Xq l k n z := by
 intro n
 induction n with
 | zero =>
  intro z T hz h hf
  have hzT : z ∈ T := by rw [h]; simp
  have h0 : z.n.level = 0 := by have := (hf z hzT).1; omega
  cases T with
  | nil => cases hzT
  | cons a R =>
   have ea : a = z := (List.cons.inj h).1
   subst ea
   have hR : R = R.filterMap (JK l k) := by
    have := (List.cons.inj h).2
    rw [List.filterMap_cons, Zgd h0] at this
    exact this
   rw [Zsp hR (fun x hx y hy => by have := (hf x (List.mem_cons_of_mem _ hx)).2 y hy; omega)]
   rfl
 | succ n ih =>
  intro z T hz h hf
  have h0 : ¬ z.n.level = 0 := om9
  cases T with
  | nil => simp at h
  | cons a R =>
   have ea : a = z := (List.cons.inj h).1
   subst ea
   have hR := (List.cons.inj h).2
   rw [List.filterMap_cons, JV h0] at hR
   dsimp only at hR
   have hl := (hf a (by simp)).2 _ (JV h0)
   rw [Xq, JV h0]
   dsimp only
   rw [← ih _ R om9 hR (fun x hx => hf x (List.mem_cons_of_mem _ hx))]
noncomputable def ZB (l : List Nd) (k : Str) : List Seat := Xq l k (Zm l 0).n.level.toNat (Zm l 0)
theorem Tree.step (t : Tree c l ss) {k : Str} {x y : Seat} (hx : x ∈ ss) (h : JK l k x = some y) : y ∈ ss ∧ y.n.level = x.n.level - 1 := by
 by_cases h0 : x.n.level = 0
 ·rw [Zgd h0] at h; cases h
 ·rw [JV h0] at h
  cases h
  have h3 := (Z8 (t.kids hx) h0).2.2.1
  have := t.at hx h0 (ZcI h3 k)
  exact ⟨this.1, this.2.2.2⟩
theorem Tree.way (t : Tree c l ss) (k : Str) : X4 k ss = ZB l k := by
 refine Zsq _ _ _ rfl (t.has_fix k) fun x hx => ?_
 have hx := (List.mem_filter.1 hx).1
 exact ⟨t.lvl hx, fun y hy => (t.step hx hy).2⟩
theorem ZdR {k : Str} {f : Nat} {x y : Seat} (h : JK l k x = some y) : Xq l k (f + 1) x = x :: Xq l k f y := by rw [Xq, h]
theorem YN {s : Span} : s.empty = true ↔ ∀ k, s.has k = false := by
 constructor
 ·intro h k
  have h1 : s.opn = false ∧ s.lo.lt s.hi = false := by simpa [Span.empty] using h
  unfold Span.has
  rw [h1.1, Bool.false_or, Bool.and_eq_false_iff]
  cases h2 : k.lt s.hi
  ·exact .inr rfl
  ·left
   cases h3 : k.lt s.lo
   ·have := Str.lt_of_le_of_lt h3 h2
    rw [h1.2] at this; cases this
   ·rfl
 ·intro h
  rw [← Span.empty_eq, h]; rfl
theorem Zba {a b : Span} (h : ∀ k, a.has k = b.has k) : a.norm = b.norm := by
 have he : a.empty = b.empty := by
  rw [Bool.eq_iff_iff, YN, YN]
  exact ⟨fun h1 k => by rw [← h k]; exact h1 k, fun h1 k => by rw [h k]; exact h1 k⟩
 unfold Span.norm
 rw [← he]
 cases ea : a.empty
 ·have eb : b.empty = false := he ▸ ea
  simp only [Bool.false_eq_true, if_false]
  have la : a.has a.lo = true := by have := Span.empty_eq a; rw [ea] at this; simpa using this
  have lb : b.has b.lo = true := by have := Span.empty_eq b; rw [eb] at this; simpa using this
  have l1 : a.lo.lt b.lo = false := by
   have := h a.lo; rw [la] at this
   unfold Span.has at this
   simp only [Bool.true_eq, Bool.and_eq_true, Bool.not_eq_true'] at this
   exact this.1
  have l2 : b.lo.lt a.lo = false := by
   have := h b.lo; rw [lb] at this
   unfold Span.has at this
   simp only [Bool.and_eq_true, Bool.not_eq_true'] at this
   exact this.1
  have hlo : a.lo = b.lo := Str.lt_total l1 l2
  have hop : ∀ {x y : Span}, x.lo = y.lo → (∀ k, x.has k = y.has k) → x.empty = false → y.empty = false → x.opn = true → y.opn = true := by
   intro x y hxy hk hx hy ho
   cases hyo : y.opn
   ·exfalso
    have h1 : y.lo.lt y.hi = true := by simpa [Span.empty, hyo] using hy
    have h2 : y.has y.hi = false := by unfold Span.has; rw [hyo, Str.lt_irrefl]; simp
    have h3 : x.has y.hi = true := by unfold Span.has; rw [ho, hxy, Str.lt_asymm h1]; rfl
    rw [hk, h2] at h3; cases h3
   ·rfl
  cases oa : a.opn
  ·have ob : b.opn = false := by
    cases ob : b.opn
    ·rfl
    ·have := hop hlo.symm (fun k => (h k).symm) eb ea ob; rw [oa] at this; cases this
   have hhi : ∀ {x y : Span}, x.lo = y.lo → (∀ k, x.has k = y.has k) → x.empty = false → x.opn = false → y.opn = false → x.hi.lt y.hi = false := by
    intro x y hxy hk hx ho hyo
    cases hl : x.hi.lt y.hi
    ·rfl
    ·exfalso
     have h1 : x.lo.lt x.hi = true := by simpa [Span.empty, ho] using hx
     have h2 : x.has x.hi = false := by unfold Span.has; rw [ho, Str.lt_irrefl]; simp
     have h3 : y.has x.hi = true := by unfold Span.has; rw [hyo, ← hxy, Str.lt_asymm h1, hl]; rfl
     rw [← hk, h2] at h3; cases h3
   have e : a.hi = b.hi := Str.lt_total (hhi hlo h ea oa ob) (hhi hlo.symm (fun k => (h k).symm) eb ob oa)
   rw [if_neg (by simp), if_neg (by simp [ob])]
   cases a; cases b; simp_all
  ·have ob := hop hlo h ea eb oa
   rw [if_pos rfl, if_pos ob, ob]
   cases a; cases b; simp_all
 ·simp
theorem Zsr (s : Span) : s.norm.norm = s.norm := Zba fun k => ZaA s k
theorem XR (a b : Span) : (a.meet b).norm = a.meet b := Zsr _
theorem Zge {a b a' b' : Span} (h : ∀ k, (a.has k && b.has k) = (a'.has k && b'.has k)) : a.meet b = a'.meet b' := by
 rw [← XR a b, ← XR a' b']
 exact Zba fun k => by rw [ZI, ZI]; exact h k
theorem Jt {m : Msg} {s : Span} : (m.clip s).2 = false ↔ (m.span.meet s).empty = true := by
 cases h : (m.span.meet s).empty
 ·by_cases k : m.kind = 4
  ·rw [J2 h k]; simp
  ·rw [ZcV h k]; simp
 ·rw [J1 h]; simp
theorem ZbV {m : Msg} {s : Span} (h : (m.clip s).2 = true) (k : m.kind = 4) : (m.clip s).1.span = m.span.meet s := by
 rw [(Xh h).2, if_pos k]
 show Msg.span { m with key := (m.span.meet s).lo, hi := (m.span.meet s).hi, opn := (m.span.meet s).opn } = _
 generalize m.span.meet s = z
 unfold Msg.span
 rw [if_pos k]
theorem Zss {m : Msg} {s t : Span} (hst : ∀ k, s.has k = true → t.has k = true) : (if (m.clip t).2 = true then (m.clip t).1.clip s else (⟨0, 0, Str.nil, Str.nil, false, Str.nil⟩, false)) = m.clip s := by
 cases h : (m.clip t).2
 ·rw [if_neg (by simp)]
  have h1 := Jt.1 h
  have h2 : (m.span.meet s).empty = true := YN.2 fun k => by
   have := YN.1 h1 k
   rw [ZI, Bool.and_eq_false_iff] at this ⊢
   rcases this with h | h
   ·exact .inl h
   ·right
    cases hs : s.has k
    ·rfl
    ·rw [hst k hs] at h; cases h
  rw [J1 h2]
 ·rw [if_pos rfl]
  by_cases k : m.kind = 4
  ·have hs := ZbV h k
   have k2 : (m.clip t).1.kind = 4 := by rw [(Xh h).2, if_pos k]; exact k
   have e : (m.span.meet t).meet s = m.span.meet s := Zge fun q => by
    rw [ZI]
    cases hs : s.has q
    ·simp
    ·rw [hst q hs]; simp
   cases he : (m.span.meet s).empty
   ·rw [J2 (by rw [hs, e]; exact he) k2, J2 he k, hs, e, (Xh h).2, if_pos k]
   ·rw [J1 (by rw [hs, e]; exact he), J1 he]
  ·rw [(Xh h).2, if_neg k]
theorem XI {s t : Span} (hst : ∀ k, s.has k = true → t.has k = true) : ∀ (L : List Msg), Zc s (Zc t L) = Zc s L
 | [] => rfl
 | m :: L => by
  have e := Zss (m := m) hst
  rw [Xi t m L, Xi s m L, ← XI hst L]
  cases h : (m.clip t).2
  ·rw [if_neg (by simp)]
   rw [h, if_neg (by simp)] at e
   rw [← e, if_neg (by simp)]
  ·rw [if_pos rfl, Xi]
   rw [h, if_pos rfl] at e
   rw [e]
theorem Jj (s : Span) (A B : List Msg) : Zc s (A ++ B) = Zc s A ++ Zc s B := List.filterMap_append
theorem Zst {s : Span} {A B : List Msg} (h : A.Perm B) : (Zc s A).Perm (Zc s B) := List.Perm.filterMap _ h
theorem ZkL (s : Span) : ∀ (L : List (List Msg)), Zc s L.flatten = (L.map (Zc s)).flatten
 | [] => rfl
 | A :: L => by rw [List.flatten_cons, Jj, ZkL s L]; rfl
theorem Ju {s : Span} {A : List Msg} (h : Rst A) : Rst (Zc s A) := by
 unfold Rst Zc
 rw [List.pairwise_filterMap]
 refine List.Pairwise.imp (fun {a b} hab x hx y hy => ?_) h
 split at hx
 ·split at hy
  ·rename_i h1 h2
   cases hx; cases hy
   rw [X7 h1, X7 h2]; exact hab
  ·cases hy
 ·cases hx
variable {c : Cfg} {l : List Nd} {ss : List Seat}
theorem Tree.from (t : Tree c l ss) {x : Seat} (hx : x ∈ ss) : x = Zm l 0 ∨ ∃ y ∈ ss, ∃ h0 : ¬ y.n.level = 0, ∃ j, j < y.n.kids.length ∧ x = Zb l y j := by
 rw [t.fix] at hx
 rcases List.mem_cons.1 hx with rfl | hx
 ·exact .inl rfl
 ·obtain ⟨y, hy, hk⟩ := List.mem_flatMap.1 hx
  by_cases h0 : y.n.level = 0
  ·rw [Xz h0] at hk; cases hk
  ·rw [(Z8 (t.kids hy) h0).1] at hk
   obtain ⟨j, hj, rfl⟩ := List.mem_map.1 hk
   exact .inr ⟨y, hy, h0, j, List.mem_range.1 hj, rfl⟩
theorem Tree.ind (t : Tree c l ss) {P : Seat → Prop} (h0 : P (Zm l 0)) (hk : ∀ x ∈ ss, ¬ x.n.level = 0 → P x → ∀ j, j < x.n.kids.length → P (Zb l x j)) : ∀ x ∈ ss, P x := by
 intro x hx
 apply Classical.byContradiction
 intro hn
 have hT : (ss.filter fun y => @decide (¬ P y) (Classical.propDecidable _)) ≠ [] := by
  intro e
  have : x ∈ ss.filter fun y => @decide (¬ P y) (Classical.propDecidable _) := List.mem_filter.2 ⟨hx, by simpa using hn⟩
  rw [e] at this; cases this
 obtain ⟨m, hm, hmax⟩ := ZdQ _ hT
 obtain ⟨hm1, hm2⟩ := List.mem_filter.1 hm
 have hm2 : ¬ P m := by simpa using hm2
 rcases t.from hm1 with rfl | ⟨y, hy, hy0, j, hj, rfl⟩
 ·exact hm2 h0
 ·refine hm2 (hk y hy hy0 ?_ j hj)
  apply Classical.byContradiction
  intro hPy
  have := hmax y (List.mem_filter.2 ⟨hy, by simpa using hPy⟩)
  have := (t.at hy hy0 hj).2.2.2
  omega
theorem Tree.inner (t : Tree c l ss) {x : Seat} (hx : x ∈ ss) (h0 : ¬ x.n.level = 0) : x.n.innerR c.fan c.bud := by
 have := (t.seat hx).1.2.2.2
 rwa [if_neg h0] at this
theorem Tree.leaf (t : Tree c l ss) {x : Seat} (hx : x ∈ ss) (h0 : x.n.level = 0) : x.n.leafR c.leaf := by
 have := (t.seat hx).1.2.2.2
 rwa [if_pos h0] at this
theorem Tree.nomsgs (t : Tree c l ss) {x : Seat} (hx : x ∈ ss) (h0 : x.n.level = 0) : x.n.msgs = [] := by
 have := (t.leaf hx h0).1
 exact List.eq_nil_of_length_eq_zero om9
theorem Tree.msgs (t : Tree c l ss) {x : Seat} (hx : x ∈ ss) : Rst x.n.msgs ∧ (∀ m ∈ x.n.msgs, m.R) ∧ ∀ m ∈ x.n.msgs, m.stamp ≤ x.n.seen := by
 by_cases h0 : x.n.level = 0
 ·rw [t.nomsgs hx h0]; exact ⟨List.Pairwise.nil, (fun m hm => by cases hm), fun m hm => by cases hm⟩
 ·obtain ⟨_, _, h3, _, _, _, h7⟩ := t.inner hx h0
  refine ⟨(MsgsR.iff.1 h3).2, (MsgsR.iff.1 h3).1, fun m hm => ?_⟩
  obtain ⟨i, hi, rfl⟩ := List.getElem_of_mem hm
  exact (h7 i hi).1
theorem ZaO {A B : List Msg} (ha : Rst A) (hb : Rst B) (h : ∀ a ∈ A, ∀ b ∈ B, a.stamp < b.stamp) : ZQ [A, B] = A ++ B ∧ Rst (A ++ B) := by
 have hr : Rst (A ++ B) := List.pairwise_append.2 ⟨ha, hb, h⟩
 refine ⟨ZkH _ _ _ rfl ?_ (by simp) hr, hr⟩
 intro L hL
 simp only [List.mem_cons, List.not_mem_nil, or_false] at hL
 rcases hL with rfl | rfl
 ·exact ha
 ·exact hb
theorem JL {s : Span} {A : List Msg} {m : Msg} (h : m ∈ Zc s A) : ∃ a ∈ A, m.stamp = a.stamp := by
 obtain ⟨a, ha, h1, rfl⟩ := Zah h
 exact ⟨a, ha, X7 h1⟩
theorem Tree.kid_ms (t : Tree c l ss) {x : Seat} (hx : x ∈ ss) (hr : Rst x.ms) (j : Nat) :
  (Zb l x j).ms = Zc (Zb l x j).s x.n.msgs ++ Zc (Zb l x j).s x.ms ∧ Rst (Zb l x j).ms := by
 obtain ⟨h1, _, h3⟩ := t.msgs hx
 have hs := (t.seat hx).2.2.2
 have := ZaO (A := Zc (Zb l x j).s x.n.msgs) (B := Zc (Zb l x j).s x.ms) (Ju h1) (Ju hr) fun a ha b hb => by
  obtain ⟨a', ha', e1⟩ := JL ha
  obtain ⟨b', hb', e2⟩ := JL hb
  have := h3 a' ha'
  obtain ⟨i, hi, rfl⟩ := List.getElem_of_mem hb'
  have := hs i hi
  omega
 have e : (Zb l x j).ms = ZQ [Zc (Zb l x j).s x.n.msgs, Zc (Zb l x j).s x.ms] := rfl
 exact ⟨by rw [e, this.1], by rw [e, this.1]; exact this.2⟩
theorem Tree.rst (t : Tree c l ss) : ∀ x ∈ ss, Rst x.ms := t.ind List.Pairwise.nil fun x hx _ hr j _ => (t.kid_ms hx hr j).2
theorem Tree.fits (t : Tree c l ss) : ∀ x ∈ ss, (x.s.lo.b.size ≤ 16 ∧ x.s.hi.b.size ≤ 16) ∧ ∀ m ∈ x.ms, m.R := by
 refine t.ind ⟨⟨by show Str.nil.b.size ≤ 16; decide, by show Str.nil.b.size ≤ 16; decide⟩, fun m hm => by cases hm⟩ fun x hx h0 ih j hj => ?_
 have hi := t.inner hx h0
 have hsp : (Zb l x j).s.lo.b.size ≤ 16 ∧ (Zb l x j).s.hi.b.size ≤ 16 := ZdO ih.1 (ZcG fun k hk => by
  obtain ⟨i, hi2, rfl⟩ := List.getElem_of_mem hk
  exact (hi.2.2.2.2.2.1 i hi2).2.1)
 refine ⟨hsp, fun m hm => ?_⟩
 rw [(t.kid_ms hx (t.rst x hx) j).1, List.mem_append] at hm
 rcases hm with hm | hm <;> obtain ⟨a, ha, h1, rfl⟩ := Zah hm
 ·exact ZaU ((t.msgs hx).2.1 a ha) hsp.1 hsp.2 h1
 ·exact ZaU (ih.2 a ha) hsp.1 hsp.2 h1
theorem Zbb {x : Seat} {j : Nat} (k : Str) (h : (Zb l x j).s.has k = true) : x.s.has k = true := by
 have e : (Zb l x j).s.has k = (x.s.has k && (Zf x.n.pivots (j : Int)).has k) := ZI _ _ _
 rw [e, Bool.and_eq_true] at h
 exact h.1
theorem Tree.path (t : Tree c l ss) {k : Str} : ∀ (n : Nat) (x : Seat) (P : List Seat), x ∈ ss → x.n.level.toNat = n → x.s.has k = true → x.ms.Perm ((P.map fun y => Zc x.s y.n.msgs).flatten) →
  ∃ z, (P ++ Xq l k n x).getLast? = some z ∧ z ∈ ss ∧ z.n.level = 0 ∧ z.s.has k = true ∧ (∀ y ∈ Xq l k n x, y ∈ ss ∧ (y.n.level = 0 → y = z)) ∧ z.ms.Perm (((P ++ Xq l k n x).map fun y => Zc z.s y.n.msgs).flatten) := by
 intro n
 induction n with
 | zero =>
  intro x P hx hn hk hp
  have h0 : x.n.level = 0 := by have := t.lvl hx; omega
  refine ⟨x, by simp [Xq], hx, h0, hk, fun y hy => by simp [Xq] at hy; subst hy; exact ⟨hx, fun _ => rfl⟩, ?_⟩
  rw [Xq, List.map_append, List.flatten_append]
  simp only [List.map_cons, List.map_nil, List.flatten_cons, List.flatten_nil, t.nomsgs hx h0]
  simpa [Zc] using hp
 | succ n ih =>
  intro x P hx hn hk hp
  have h0 : ¬ x.n.level = 0 := om9
  have h3 := (Z8 (t.kids hx) h0).2.2.1
  have hj := ZcI h3 k
  have ha := t.at hx h0 hj
  have hy : (Zb l x (Ze x.n.pivots k)).s.has k = true := by rw [Za9 h3 hj, hk]; simp
  have hms := (t.kid_ms hx (t.rst x hx) (Ze x.n.pivots k)).1
  rw [ZdR (JV h0)]
  obtain ⟨z, h1, h2, h4, h5, h6, h7⟩ := ih (Zb l x (Ze x.n.pivots k)) (P ++ [x]) ha.1 om9 hy (by
   rw [hms, List.map_append, List.flatten_append]
   simp only [List.map_cons, List.map_nil, List.flatten_cons, List.flatten_nil, List.append_nil]
   refine List.perm_append_comm.trans (List.Perm.append_right _ ?_)
   refine (Zst hp).trans (List.Perm.of_eq ?_)
   rw [ZkL, List.map_map]
   congr 1
   refine List.map_congr_left fun y _ => ?_
   exact XI (fun q hq => Zbb q hq) _)
  refine ⟨z, by simpa using h1, h2, h4, h5, fun y hy => ?_, by simpa using h7⟩
  rcases List.mem_cons.1 hy with rfl | hy
  ·exact ⟨hx, fun h => absurd h h0⟩
  ·exact h6 y hy
noncomputable def Zn (l : List Nd) (k : Str) : Seat := (ZB l k).getLast?.getD default
structure LeafOk (l : List Nd) (ss : List Seat) (k : Str) (z : Seat) : Prop where
 last : (ZB l k).getLast? = some z
 mem : z ∈ ss
 lvl : z.n.level = 0
 has : z.s.has k = true
 all : ∀ y ∈ ZB l k, y ∈ ss ∧ (y.n.level = 0 → y = z)
 perm : z.ms.Perm (((ZB l k).map fun y => Zc z.s y.n.msgs).flatten)
theorem Tree.leafOk (t : Tree c l ss) (k : Str) : LeafOk l ss k (Zn l k) := by
 obtain ⟨z, h1, h2, h3, h4, h5, h6⟩ := t.path (k := k) _ (Zm l 0) [] t.root rfl (Zav k) (by exact List.Perm.refl _)
 have h1 : (ZB l k).getLast? = some z := h1
 have e : Zn l k = z := by unfold Zn; rw [h1]; rfl
 rw [e]
 exact ⟨h1, h2, h3, h4, h5, h6⟩
theorem Tree.path_ms (t : Tree c l ss) (k : Str) : ZQ ((ZB l k).map fun y => Zc (Zn l k).s y.n.msgs) = (Zn l k).ms := by
 have h := t.leafOk k
 refine ZkH _ _ _ rfl (fun L hL => ?_) h.perm (t.rst _ h.mem)
 obtain ⟨y, hy, rfl⟩ := List.mem_map.1 hL
 exact Ju (t.msgs (h.all y hy).1).1
theorem Tree.leaf_eq (t : Tree c l ss) {k : Str} {x : Seat} (hx : x ∈ ss) (hk : x.s.has k = true) (h0 : x.n.level = 0) : x = Zn l k := by
 have : x ∈ ZB l k := by rw [← t.way k]; exact List.mem_filter.2 ⟨hx, hk⟩
 exact ((t.leafOk k).all x this).2 h0
theorem Zgf {K : Seat → List Seat} {T : List Seat} (h : T = T.flatMap K) (hf : ∀ x ∈ T, ∀ y ∈ K x, y.n.level < x.n.level) : T = [] := by
 apply Classical.byContradiction
 intro hn
 obtain ⟨m, hm, hx⟩ := ZdQ T hn
 have hm2 := hm
 rw [h] at hm2
 obtain ⟨x, hx1, hx2⟩ := List.mem_flatMap.1 hm2
 have := hf x hx1 m hx2
 have := hx x hx1
 omega
theorem Tree.kid_lvl (t : Tree c l ss) {x y : Seat} (hx : x ∈ ss) (hy : y ∈ Zk l x) : y ∈ ss ∧ y.n.level = x.n.level - 1 := by
 by_cases h0 : x.n.level = 0
 ·rw [Xz h0] at hy; cases hy
 ·rw [(Z8 (t.kids hx) h0).1] at hy
  obtain ⟨j, hj, rfl⟩ := List.mem_map.1 hy
  have := t.at hx h0 (List.mem_range.1 hj)
  exact ⟨this.1, this.2.2.2⟩
noncomputable def XJ (l : List Nd) : Nat → Seat → List Seat
 | 0, x => [x]
 | n + 1, x => x :: (Zk l x).flatMap (XJ l n)
theorem ZkM {α β : Type} {f g h : α → List β} (e : ∀ x, f x = g x ++ h x) : ∀ (L : List α), (L.flatMap f).Perm (L.flatMap g ++ L.flatMap h)
 | [] => List.Perm.refl _
 | x :: L => by
  rw [List.flatMap_cons, List.flatMap_cons, List.flatMap_cons, e x, List.append_assoc, List.append_assoc]
  refine List.Perm.append_left _ ?_
  refine (List.Perm.append_left _ (ZkM e L)).trans ?_
  rw [← List.append_assoc, ← List.append_assoc]
  exact List.perm_append_comm.append_right _
theorem Tree.pre_perm (t : Tree c l ss) : ∀ (n : Nat) (R T : List Seat), T = R ++ T.flatMap (Zk l) → (∀ x ∈ T, x ∈ ss) → (∀ x ∈ R, x.n.level.toNat = n) → T.Perm (R.flatMap (XJ l n)) := by
 intro n
 induction n with
 | zero =>
  intro R T hT hs hR
  have hRT : ∀ x ∈ R, x ∈ T := fun x hx => by rw [hT]; exact List.mem_append_left _ hx
  have h0 : ∀ x ∈ R, x.n.level = 0 := fun x hx => by have := t.lvl (hs x (hRT x hx)); have := hR x hx; omega
  have hK : R.flatMap (Zk l) = [] := List.flatMap_eq_nil_iff.2 fun x hx => Xz (h0 x hx)
  generalize hS : T.flatMap (Zk l) = S at hT
  have hS2 : S = S.flatMap (Zk l) := by
   conv => lhs; rw [← hS, hT]
   rw [List.flatMap_append, hK, List.nil_append]
  have hST : ∀ x ∈ S, x ∈ T := fun x hx => by rw [hT]; exact List.mem_append_right _ hx
  have hn := Zgf hS2 fun x hx y hy => by have := (t.kid_lvl (hs x (hST x hx)) hy).2; omega
  rw [hT, hn, List.append_nil]
  exact List.Perm.of_eq (List.flatMap_singleton' R).symm
 | succ n ih =>
  intro R T hT hs hR
  have hRT : ∀ x ∈ R, x ∈ T := fun x hx => by rw [hT]; exact List.mem_append_left _ hx
  generalize hS : T.flatMap (Zk l) = S at hT
  have hS2 : S = R.flatMap (Zk l) ++ S.flatMap (Zk l) := by
   conv => lhs; rw [← hS, hT]
   rw [List.flatMap_append]
  have hST : ∀ x ∈ S, x ∈ T := fun x hx => by rw [hT]; exact List.mem_append_right _ hx
  have h1 := ih (R.flatMap (Zk l)) S hS2 (fun x hx => hs x (hST x hx)) fun y hy => by
   obtain ⟨x, hx, hyx⟩ := List.mem_flatMap.1 hy
   have := (t.kid_lvl (hs x (hRT x hx)) hyx).2
   have := hR x hx
   omega
  rw [hT]
  refine (List.Perm.append_left R h1).trans ?_
  have h2 := ZkM (f := XJ l (n + 1)) (g := fun x => [x]) (h := fun x => (Zk l x).flatMap (XJ l n)) (fun x => rfl) R
  rw [List.flatMap_singleton' R] at h2
  refine List.Perm.trans ?_ h2.symm
  rw [List.flatMap_assoc]
theorem Tree.pre_len (t : Tree c l ss) : ∀ (n : Nat) (x : Seat), x ∈ ss → x.n.level.toNat = n → 2 ^ (n + 1) ≤ (XJ l n x).length + 1 := by
 intro n
 induction n with
 | zero => intro x _ _; simp [XJ]
 | succ n ih =>
  intro x hx hn
  have h0 : ¬ x.n.level = 0 := om9
  have hk := (t.inner hx h0).1.2.1
  have h1 := (Z8 (t.kids hx) h0).1
  have hl : (Zk l x).length = x.n.kids.length := by rw [h1, Zac]
  have key : ∀ y ∈ Zk l x, 2 ^ (n + 1) ≤ (XJ l n y).length + 1 := fun y hy => by
   have := t.kid_lvl hx hy
   exact ih y this.1 om9
  rw [XJ, List.length_cons]
  match hL : Zk l x with
  | [] => rw [hL] at hl; simp at hl; omega
  | [a] => rw [hL] at hl; simp at hl; omega
  | a :: b :: R =>
   rw [hL] at key
   have ha := key a (by simp)
   have hb := key b (by simp)
   rw [List.flatMap_cons, List.flatMap_cons, List.length_append, List.length_append]
   have : 2 ^ (n + 1 + 1) = 2 ^ (n + 1) + 2 ^ (n + 1) := by rw [Nat.pow_succ]; omega
   omega
theorem Tree.height (t : Tree c l ss) : (Zm l 0).n.level ≤ 11 := by
 have h1 := t.pre_perm (Zm l 0).n.level.toNat [Zm l 0] ss (by exact t.fix) (fun x hx => hx) (fun x hx => by simp at hx; rw [hx])
 rw [List.flatMap_cons, List.flatMap_nil, List.append_nil] at h1
 have h2 := t.pre_len _ _ t.root rfl
 rw [← h1.length_eq, t.len] at h2
 have h3 := t.sml.1
 apply Classical.byContradiction
 intro hn
 have h4 : 2 ^ 13 ≤ 2 ^ ((Zm l 0).n.level.toNat + 1) := Nat.pow_le_pow_right om9 om9
 omega
theorem Zsu (t : Tree c l ss) (k : Str) : ∀ (n : Nat) (x : Seat), x ∈ ss → x.n.level.toNat = n → (Xq l k n x).length = n + 1 := by
 intro n
 induction n with
 | zero => intro x _ _; rfl
 | succ n ih =>
  intro x hx hn
  have h0 : ¬ x.n.level = 0 := om9
  have ha := t.step (k := k) hx (JV h0)
  rw [ZdR (JV h0), List.length_cons, ih _ ha.1 om9]
theorem Tree.way_len (t : Tree c l ss) (k : Str) : (ZB l k).length ≤ 100 := by
 have h5 : (ZB l k).length = (Zm l 0).n.level.toNat + 1 := Zsu t k _ (Zm l 0) t.root rfl
 have := t.height
 have := t.lvl t.root
 omega
def YJ (x : Seat) : List Pair := Zr (x.n.rows.filter fun p => x.s.has p.key) (Zc x.s x.ms)
def ZC (ss : List Seat) : List Seat := ss.filter fun x => decide (x.n.level = 0)
noncomputable def Zh (l : List Nd) : List Pair := match JJ l 0 with | none => [] | some ss => (ZC ss).flatMap YJ
theorem JM (h : JJ l 0 = some ss) : Zh l = (ZC ss).flatMap YJ := by rw [Zh, h]
theorem Tree.rows (t : Tree c l ss) {x : Seat} (hx : x ∈ ss) : PairsR x.n.rows := by
 by_cases h0 : x.n.level = 0
 ·exact (t.leaf hx h0).2.2.1
 ·have := (t.inner hx h0).1.1
  rw [List.eq_nil_of_length_eq_zero this]
  intro i hi; simp at hi
theorem YZ {m : Msg} (h : m.R) : m.key.b.size ≤ 16 ∧ m.val.b.size ≤ 16 := ⟨h.1.2.1, h.1.2.2.1⟩
theorem Tree.view (t : Tree c l ss) {x : Seat} (hx : x ∈ ss) : YJ x = (Zr x.n.rows x.ms).filter fun p => x.s.has p.key :=
 Za0 (t.rows hx).srt fun m hm => by have := (YZ ((t.fits x hx).2 m hm)).1; omega
theorem Tree.view_get (t : Tree c l ss) {x : Seat} (hx : x ∈ ss) (k : Str) : Zg (YJ x) k = if x.s.has k = true then Zg (Zr x.n.rows x.ms) k else none := by
 rw [t.view hx, Zbr]
theorem ZkN {k : Str} : ∀ (T : List Seat), (∀ x ∈ T, x.s.has k = false → Zg (YJ x) k = none) → Zg (T.flatMap YJ) k = Zg ((X4 k T).flatMap YJ) k
 | [], _ => rfl
 | x :: T, h => by
  have ih := ZkN T (fun y hy => h y (List.mem_cons_of_mem _ hy))
  unfold X4 at *
  rw [List.flatMap_cons, Zcc, ih, List.filter_cons]
  cases hk : x.s.has k
  ·rw [if_neg (by simp), h x (by simp) hk]; rfl
  ·rw [if_pos rfl, List.flatMap_cons, Zcc]
theorem Zsv {k : Str} (t : Tree c l ss) : ∀ (n : Nat) (x : Seat), x ∈ ss → x.n.level.toNat = n → ∃ z, ZC (Xq l k n x) = [z] ∧ (Xq l k n x).getLast? = some z := by
 intro n
 induction n with
 | zero =>
  intro x hx hn
  have h0 : x.n.level = 0 := by have := t.lvl hx; omega
  exact ⟨x, by simp [Xq, ZC, h0], by simp [Xq]⟩
 | succ n ih =>
  intro x hx hn
  have h0 : ¬ x.n.level = 0 := om9
  have ha := t.step (k := k) hx (JV h0)
  obtain ⟨z, h1, h2⟩ := ih _ ha.1 om9
  rw [ZdR (JV h0)]
  refine ⟨z, ?_, ?_⟩
  ·unfold ZC at *
   rw [List.filter_cons_of_neg (by simpa using h0)]; exact h1
  ·rw [List.getLast?_cons, h2]; rfl
theorem Tree.get (t : Tree c l ss) (k : Str) : Zg (Zh l) k = Zg (Zr (Zn l k).n.rows (Zn l k).ms) k := by
 have h := t.leafOk k
 rw [JM t.sts, ZkN _ (fun x hx hk => by rw [t.view_get (List.mem_filter.1 hx).1, hk]; rfl)]
 have e : X4 k (ZC ss) = [Zn l k] := by
  have : X4 k (ZC ss) = ZC (X4 k ss) := by
   unfold X4 ZC
   rw [List.filter_filter, List.filter_filter]
   exact List.filter_congr fun x _ => Bool.and_comm _ _
  rw [this, t.way k]
  obtain ⟨z, h1, h2⟩ := Zsv (k := k) t _ (Zm l 0) t.root rfl
  have h3 : (ZB l k).getLast? = some z := h2
  rw [h.last] at h3
  cases h3
  exact h1
 rw [e, List.flatMap_cons, List.flatMap_nil, List.append_nil, t.view_get h.mem, if_pos h.has]
def YQ (k : Str) (A : List Msg) : Nat := (A.filter fun m => m.span.has k).length
theorem Zsw (k : Str) (A B : List Msg) : YQ k (A ++ B) = YQ k A + YQ k B := by simp [YQ]
theorem Zsx {k : Str} {A B : List Msg} (h : A.Perm B) : YQ k A = YQ k B := (List.Perm.filter _ h).length_eq
theorem ZkO (k : Str) : ∀ (L : List (List Msg)), YQ k L.flatten = (L.map (YQ k)).sum
 | [] => rfl
 | A :: L => by rw [List.flatten_cons, Zsw, ZkO k L]; simp
theorem ZkP {k : Str} {s : Span} (hk : s.has k = true) : ∀ (A : List Msg), YQ k (Zc s A) = YQ k A
 | [] => rfl
 | m :: A => by
  have ih := ZkP hk A
  have ec : YQ k (m :: A) = (if m.span.has k = true then 1 else 0) + YQ k A := by
   unfold YQ; rw [List.filter_cons]; split <;> simp; omega
  rw [Xi, ec]
  cases h : (m.clip s).2
  ·rw [if_neg (by simp), ih]
   have := YN.1 (Jt.1 h) k
   rw [ZI, hk, Bool.and_true] at this
   rw [this]; simp
  ·rw [if_pos rfl]
   have e2 : YQ k ((m.clip s).1 :: Zc s A) = (if (m.clip s).1.span.has k = true then 1 else 0) + YQ k (Zc s A) := by
    unfold YQ; rw [List.filter_cons]; split <;> simp; omega
   rw [e2, ih]
   congr 2
   by_cases h4 : m.kind = 4
   ·rw [ZbV h h4, ZI, hk, Bool.and_true]
   ·rw [(Xh h).2, if_neg h4]
theorem ZkQ {k : Str} (hk : k.b.size < 140737488355328) : ∀ (A : List Msg), (Zc ⟨k, k.next, false⟩ A).length = YQ k A
 | [] => rfl
 | m :: A => by
  have ih := ZkQ hk A
  rw [Xi]
  have e : (m.clip ⟨k, k.next, false⟩).2 = m.span.has k := by
   cases h : (m.clip ⟨k, k.next, false⟩).2
   ·have := YN.1 (Jt.1 h) k
    rw [ZI, J3 hk] at this
    simpa using this.symm
   ·cases h2 : m.span.has k
    ·exfalso
     have : (m.span.meet ⟨k, k.next, false⟩).empty = true := YN.2 fun q => by
      rw [ZI, J3 hk]
      by_cases e : q = k
      ·subst e; rw [h2]; rfl
      ·simp [e]
     rw [Jt.2 this] at h; cases h
    ·rfl
  unfold YQ
  rw [List.filter_cons, e]
  split
  ·rw [List.length_cons, List.length_cons, ih]; rfl
  ·rw [ih]; rfl
def ZkR (k : Str) (l : List Nd) : Nat := (l.map fun n => YQ k n.msgs).sum
theorem Tree.depth (t : Tree c l ss) {k : Str} (hk : k.b.size < 140737488355328) : (Zc ⟨k, k.next, false⟩ (Zn l k).ms).length = ZkR k l := by
 have h := t.leafOk k
 rw [ZkQ hk, Zsx h.perm, ZkO, List.map_map]
 have e1 : ((ZB l k).map (YQ k ∘ fun y => Zc (Zn l k).s y.n.msgs)) = (ZB l k).map fun y => YQ k y.n.msgs :=
  List.map_congr_left fun y _ => ZkP h.has _
 rw [e1, ← t.way k]
 have e2 : ∀ (T : List Seat), (∀ x ∈ T, x ∈ ss) → ((X4 k T).map fun y => YQ k y.n.msgs).sum = (T.map fun y => YQ k y.n.msgs).sum := by
  intro T
  induction T with
  | nil => intro _; rfl
  | cons x T ih =>
   intro hT
   have ih := ih (fun y hy => hT y (List.mem_cons_of_mem _ hy))
   unfold X4 at *
   rw [List.filter_cons]
   cases hx : x.s.has k
   ·rw [if_neg (by simp), ih]
    have : YQ k x.n.msgs = 0 := by
     unfold YQ
     rw [List.length_eq_zero_iff, List.filter_eq_nil_iff]
     intro m hm
     obtain ⟨i, hi, rfl⟩ := List.getElem_of_mem hm
     have := (t.seat (hT x (by simp))).2.1.2.2.2 i hi
     have := congrArg (fun s : Span => s.has k) this
     simp only [ZI, ZaA, hx, Bool.and_false] at this
     rw [← this]; simp
    simp [this]
   ·rw [if_pos rfl]; simp [ih]
 rw [e2 ss (fun x hx => hx)]
 unfold ZkR
 have := (t.perm.map fun n : Nd => YQ k n.msgs).sum_nat
 rw [← this, List.map_map]; rfl
variable {c : Cfg} {l : List Nd} {ss : List Seat}
structure At (l : List Nd) (ss : List Seat) (k : Str) (x : Seat) (P : List Seat) (lv : Int) : Prop where
 mem : x ∈ ss
 way : ZB l k = P ++ Xq l k x.n.level.toNat x
 lv : lv < 0 ∨ lv = x.n.level + 1
theorem At.init (t : Tree c l ss) (k : Str) : At l ss k (Zm l 0) [] (-1) := ⟨t.root, rfl, .inl om9⟩
theorem At.last {k : Str} {x : Seat} {P : List Seat} {lv : Int} (h : At l ss k x P lv) (h0 : x.n.level ≤ 0) : ZB l k = P ++ [x] := by
 rw [h.way, show x.n.level.toNat = 0 by omega]; rfl
theorem Tree.right (t : Tree c l ss) {x : Seat} (hx : x ∈ ss) (h0 : ¬ x.n.level ≤ 0) : YC x.n.pivots x.n.kids.length = true := (Z8 (t.kids hx) om9).2.2.1
theorem Tree.route (t : Tree c l ss) {x : Seat} (hx : x ∈ ss) (h0 : ¬ x.n.level ≤ 0) (k : Str) : Ze x.n.pivots k < x.n.kids.length := ZcI (t.right hx h0) k
theorem At.next (t : Tree c l ss) {k : Str} {x : Seat} {P : List Seat} {lv : Int} (h : At l ss k x P lv) (h0 : ¬ x.n.level ≤ 0) : At l ss k (Zb l x (Ze x.n.pivots k)) (P ++ [x]) x.n.level := by
 have ha := t.at h.mem om9 (t.route h.mem h0 k)
 refine ⟨ha.1, ?_, .inr om9⟩
 rw [h.way, show x.n.level.toNat = (Zb l x (Ze x.n.pivots k)).n.level.toNat + 1 by omega, ZdR (JV om9)]
 simp
theorem At.slot (t : Tree c l ss) {x : Seat} (hx : x ∈ ss) (h0 : ¬ x.n.level ≤ 0) (k : Str) : (Zb l x (Ze x.n.pivots k)).n.slot = x.n.kids[Ze x.n.pivots k]'(t.route hx h0 k) := by
 have ha := t.at hx om9 (t.route hx h0 k)
 rw [ha.2.2.1]
 exact (YI t.slot ha.2.1).1
theorem At.plen (t : Tree c l ss) {k : Str} {x : Seat} {P : List Seat} {lv : Int} (h : At l ss k x P lv) : P.length ≤ 100 := by
 have h1 := t.way_len k
 rw [h.way, List.length_append] at h1
 omega
theorem Tree.root0 (t : Tree c l ss) : (Zm l 0).n.slot = 0 := by
 rw [t.rootn]
 exact (YI t.slot ⟨Int.le_refl 0, by have := t.pos; omega⟩).1
theorem Tree.way_pos (t : Tree c l ss) (k : Str) : 0 < (ZB l k).length := by
 have h := (t.leafOk k).last
 cases e : ZB l k with
 | nil => rw [e] at h; cases h
 | cons a b => simp
theorem Tree.last_at (t : Tree c l ss) (k : Str) {i : Nat} (h : i < (ZB l k).length) (hi : i + 1 = (ZB l k).length) : (ZB l k)[i] = Zn l k := by
 have h2 := (t.leafOk k).last
 rw [List.getLast?_eq_getElem?, show (ZB l k).length - 1 = i by omega, List.getElem?_eq_getElem h] at h2
 exact Option.some.inj h2
theorem Tree.last_n (t : Tree c l ss) (k : Str) {i : Nat} (h : i < ((ZB l k).map fun y : Seat => y.n).length) (hi : i + 1 = (ZB l k).length) : ((ZB l k).map fun y : Seat => y.n)[i] = (Zn l k).n := by
 rw [List.getElem_map, t.last_at k om9 hi]
theorem Tree.last_s (t : Tree c l ss) (k : Str) {i : Nat} (h : i < ((ZB l k).map fun y : Seat => y.s).length) (hi : i + 1 = (ZB l k).length) : ((ZB l k).map fun y : Seat => y.s)[i] = (Zn l k).s := by
 rw [List.getElem_map, t.last_at k om9 hi]
theorem Tree.path_msgs (t : Tree c l ss) (k : Str) {s : Span} (hs : s = (Zn l k).s) : ZQ (((((ZB l k).map fun y : Seat => y.n).map fun n : Nd => n.msgs)).map (Zc s)) = (Zn l k).ms := by
 rw [← t.path_ms k, hs, List.map_map, List.map_map]; rfl
theorem Tree.way_mem (t : Tree c l ss) {k : Str} {y : Seat} (h : y ∈ ZB l k) : y ∈ ss := ((t.leafOk k).all y h).1
theorem Tree.path_key (t : Tree c l ss) (k : Str) : ∀ i (h : i < (((ZB l k).map fun y : Seat => y.n).map fun n : Nd => n.msgs).length), ∀ m ∈ (((ZB l k).map fun y : Seat => y.n).map fun n : Nd => n.msgs)[i], m.key.b.size < 140737488355328 := by
 intro i h m hm
 simp only [List.getElem_map] at hm
 have := (YZ ((t.msgs (t.way_mem (List.getElem_mem (by simpa using h)))).2.1 m hm)).1
 omega
theorem ZkS {b : Nat} : ∀ {C : Ls}, (∀ L ∈ C, L.length ≤ b) → Y5 C ≤ C.length * b
 | [], _ => Nat.zero_le _
 | A :: C, h => by
  have h1 := h A (by simp)
  have h2 := ZkS (b := b) (C := C) (fun L hL => h L (List.mem_cons_of_mem _ hL))
  rw [ZcF, List.length_cons, Nat.succ_mul]; omega
theorem Tree.path_tot (t : Tree c l ss) (k : Str) : Y5 (((ZB l k).map fun y : Seat => y.n).map fun n : Nd => n.msgs) ≤ 400000 := by
 have h1 := ZkS (b := 4000) (C := ((ZB l k).map fun y : Seat => y.n).map fun n : Nd => n.msgs) fun L hL => by
  obtain ⟨n, hn, rfl⟩ := List.mem_map.1 hL
  obtain ⟨y, hy, rfl⟩ := List.mem_map.1 hn
  exact (t.sml.at (.inr (t.nd (t.way_mem hy)).2.2)).2.2.1
 have h2 := t.way_len k
 simp only [List.length_map] at h1
 omega
theorem Zgg : ∀ {ms : List Msg}, (∀ m ∈ ms, m.R) → 4 * (ms.length : Int) ≤ Zx ms
 | [], _ => by simp [Zx]
 | m :: ms, h => by
  have h1 := Zgg (ms := ms) (fun a ha => h a (List.mem_cons_of_mem _ ha))
  have h2 := ZcX (YZ (h m (by simp)))
  rw [ZcZ, List.length_cons]; omega
theorem Tree.msgs_len (t : Tree c l ss) {x : Seat} (hx : x ∈ ss) : x.n.msgs.length ≤ 1024 := by
 by_cases h0 : x.n.level = 0
 ·rw [t.nomsgs hx h0]; exact Nat.zero_le _
 ·have h1 := (t.inner hx h0).2.2.2.1
  have h2 := Zgg (t.msgs hx).2.1
  have h3 := t.cfg.2.2.1.2
  omega
theorem Tree.rows_len (t : Tree c l ss) {x : Seat} (hx : x ∈ ss) : x.n.rows.length ≤ 64 := by
 by_cases h0 : x.n.level = 0
 ·have h1 := (t.leaf hx h0).2.1
  have h3 := t.cfg.2.1.2
  omega
 ·have := (t.inner hx h0).1.1
  omega
theorem Tree.ms_len (t : Tree c l ss) : ∀ x ∈ ss, x.ms.length ≤ 1024 * (100 - x.n.level.toNat) ∧ x.n.level ≤ 99 := by
 have hr := t.height
 refine t.ind ⟨Nat.zero_le _, om9⟩ fun x hx h0 ih j hj => ?_
 have ha := t.at hx h0 hj
 have hlx := t.lvl hx
 have hly := t.lvl ha.1
 have hms := congrArg List.length (t.kid_ms hx (t.rst x hx) j).1
 rw [List.length_append] at hms
 have c1 : (Zc (Zb l x j).s x.n.msgs).length ≤ x.n.msgs.length := Zb9
 have c2 : (Zc (Zb l x j).s x.ms).length ≤ x.ms.length := Zb9
 have c3 := t.msgs_len hx
 refine ⟨?_, om9⟩
 have : 100 - (Zb l x j).n.level.toNat = 100 - x.n.level.toNat + 1 := om9
 rw [this]
 omega
theorem Tree.lookup (t : Tree c l ss) (k : Str) : Eff.apply (YD (Zn l k).ms k) (Zg (Zn l k).n.rows k) = Zg (Zh l) k := by
 rw [t.get k, ZmL]
 intro m hm
 have := (t.fits _ (t.leafOk k).mem).2 m hm
 have h4 := MsgsR.kinds (l := [m]) (MsgsR.iff.2 ⟨by intro a ha; simp at ha; subst ha; exact this, List.pairwise_singleton _ _⟩) m (by simp)
 exact ⟨by have := (YZ this).1; omega, h4.1, h4.2⟩
end Go.Fw

namespace Go.Fw
def Xr (l : List Pair) (n : Int) : Nat := (max 0 (min (l.length : Int) n)).toNat
theorem Zsy (l : List Pair) (n : Int) : ((Xr l n : Nat) : Int) = max 0 (min (l.length : Int) n) := by unfold Xr; omega
def Zbc (l : List Pair) (s : Span) (ms : List Msg) (c : Str) (n : Int) : List Pair × Str × Bool :=
 if s.empty = true then ([], c, true) else ((Zr (l.filter fun p => Span.has s p.key) (Zc s ms)).take (Xr (Zr (l.filter fun p => Span.has s p.key) (Zc s ms)) n), (if s.opn = true then Str.nil else s.hi), s.opn || decide (n ≤ ((Zr (l.filter fun p => Span.has s p.key) (Zc s ms)).length : Int)))
theorem Zsz {l : List Pair} {s : Span} {ms : List Msg} {c : Str} {n : Int} (h : s.empty = true) : Zbc l s ms c n = ([], c, true) := if_pos h
theorem Zgh {l : List Pair} {s : Span} {ms : List Msg} {c : Str} {n : Int} (h : s.empty = false) {x : Str} {b : Bool} (hx : x = if s.opn = true then Str.nil else s.hi) (hb : b = (s.opn || decide (n ≤ ((Zr (l.filter fun p => Span.has s p.key) (Zc s ms)).length : Int)))) :
  Zbc l s ms c n = ((Zr (l.filter fun p => Span.has s p.key) (Zc s ms)).take (Xr (Zr (l.filter fun p => Span.has s p.key) (Zc s ms)) n), x, b) := by rw [Zbc, if_neg (by simp [h]), hx, hb]
end Go.Fw
