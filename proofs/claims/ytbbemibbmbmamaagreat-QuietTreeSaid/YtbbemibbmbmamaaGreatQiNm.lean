/- The messages that wait in a sound tree, and the map that it stands for. Plain Lean; nothing of the program is named here. No condition. -/
import Derived.Test.YtbbemibbmbmamaaGreatQiNc
set_option linter.unusedVariables false
set_option linter.unusedSimpArgs false
set_option linter.unnecessarySimpa false

namespace Go.Fw
open Go Go.RowKit
variable {c : Cfg} {l : List Nd} {ss : List Seat}
theorem Tree.from (t : Tree c l ss) {x : Seat} (hx : x ∈ ss) : x = Zg l 0 ∨ ∃ y ∈ ss, ∃ h0 : ¬ y.n.level = 0, ∃ j, j < y.n.kids.length ∧ x = Zb l y j := by
 rw [t.fix] at hx
 rcases List.mem_cons.1 hx with rfl | hx
 ·exact .inl rfl
 ·obtain ⟨y, hy, hk⟩ := List.mem_flatMap.1 hx
  by_cases h0 : y.n.level = 0
  ·rw [Xq h0] at hk; cases hk
  ·rw [(Z5 (t.kids hy) h0).1] at hk
   obtain ⟨j, hj, rfl⟩ := List.mem_map.1 hk
   exact .inr ⟨y, hy, h0, j, List.mem_range.1 hj, rfl⟩
theorem Tree.ind (t : Tree c l ss) {P : Seat → Prop} (h0 : P (Zg l 0)) (hk : ∀ x ∈ ss, ¬ x.n.level = 0 → P x → ∀ j, j < x.n.kids.length → P (Zb l x j)) : ∀ x ∈ ss, P x := by
 intro x hx
 apply Classical.byContradiction
 intro hn
 have hT : (ss.filter fun y => @decide (¬ P y) (Classical.propDecidable _)) ≠ [] := by
  intro e
  have : x ∈ ss.filter fun y => @decide (¬ P y) (Classical.propDecidable _) := List.mem_filter.2 ⟨hx, by simpa using hn⟩
  rw [e] at this; cases this
 obtain ⟨m, hm, hmax⟩ := ZdD _ hT
 obtain ⟨hm1, hm2⟩ := List.mem_filter.1 hm
 have hm2 : ¬ P m := by simpa using hm2
 rcases t.from hm1 with rfl | ⟨y, hy, hy0, j, hj, rfl⟩
 ·exact hm2 h0
 ·refine hm2 (hk y hy hy0 ?_ j hj)
  apply Classical.byContradiction
  intro hPy
  have := hmax y (List.mem_filter.2 ⟨hy, by simpa using hPy⟩)
  have := (t.at hy hy0 hj).2.2.2
  omega
theorem Tree.inner (t : Tree c l ss) {x : Seat} (hx : x ∈ ss) (h0 : ¬ x.n.level = 0) : x.n.innerR c.fan c.bud := by
 have := (t.seat hx).1.2.2.2
 rwa [if_neg h0] at this
theorem Tree.leaf (t : Tree c l ss) {x : Seat} (hx : x ∈ ss) (h0 : x.n.level = 0) : x.n.leafR c.leaf := by
 have := (t.seat hx).1.2.2.2
 rwa [if_pos h0] at this
theorem Tree.nomsgs (t : Tree c l ss) {x : Seat} (hx : x ∈ ss) (h0 : x.n.level = 0) : x.n.msgs = [] := by
 have := (t.leaf hx h0).1
 exact List.eq_nil_of_length_eq_zero om9
theorem Tree.msgs (t : Tree c l ss) {x : Seat} (hx : x ∈ ss) : Rst x.n.msgs ∧ (∀ m ∈ x.n.msgs, m.R) ∧ ∀ m ∈ x.n.msgs, m.stamp ≤ x.n.seen := by
 by_cases h0 : x.n.level = 0
 ·rw [t.nomsgs hx h0]; exact ⟨List.Pairwise.nil, (fun m hm => by cases hm), fun m hm => by cases hm⟩
 ·obtain ⟨_, _, h3, _, _, _, h7⟩ := t.inner hx h0
  refine ⟨(MsgsR.iff.1 h3).2, (MsgsR.iff.1 h3).1, fun m hm => ?_⟩
  obtain ⟨i, hi, rfl⟩ := List.getElem_of_mem hm
  exact (h7 i hi).1
theorem ZaU {A B : List Msg} (ha : Rst A) (hb : Rst B) (h : ∀ a ∈ A, ∀ b ∈ B, a.stamp < b.stamp) : ZO [A, B] = A ++ B ∧ Rst (A ++ B) := by
 have hr : Rst (A ++ B) := List.pairwise_append.2 ⟨ha, hb, h⟩
 refine ⟨Zin _ _ _ rfl ?_ (by simp) hr, hr⟩
 intro L hL
 simp only [List.mem_cons, List.not_mem_nil, or_false] at hL
 rcases hL with rfl | rfl
 ·exact ha
 ·exact hb
theorem JL {s : Span} {A : List Msg} {m : Msg} (h : m ∈ Zc s A) : ∃ a ∈ A, m.stamp = a.stamp := by
 obtain ⟨a, ha, h1, rfl⟩ := Zax h
 exact ⟨a, ha, Jh h1⟩
theorem Tree.kid_ms (t : Tree c l ss) {x : Seat} (hx : x ∈ ss) (hr : Rst x.ms) (j : Nat) :
  (Zb l x j).ms = Zc (Zb l x j).s x.n.msgs ++ Zc (Zb l x j).s x.ms ∧ Rst (Zb l x j).ms := by
 obtain ⟨h1, _, h3⟩ := t.msgs hx
 have hs := (t.seat hx).2.2.2
 have := ZaU (A := Zc (Zb l x j).s x.n.msgs) (B := Zc (Zb l x j).s x.ms) (Jw h1) (Jw hr) fun a ha b hb => by
  obtain ⟨a', ha', e1⟩ := JL ha
  obtain ⟨b', hb', e2⟩ := JL hb
  have := h3 a' ha'
  obtain ⟨i, hi, rfl⟩ := List.getElem_of_mem hb'
  have := hs i hi
  omega
 have e : (Zb l x j).ms = ZO [Zc (Zb l x j).s x.n.msgs, Zc (Zb l x j).s x.ms] := rfl
 exact ⟨by rw [e, this.1], by rw [e, this.1]; exact this.2⟩
theorem Tree.rst (t : Tree c l ss) : ∀ x ∈ ss, Rst x.ms := t.ind List.Pairwise.nil fun x hx _ hr j _ => (t.kid_ms hx hr j).2
theorem Tree.fits (t : Tree c l ss) : ∀ x ∈ ss, (x.s.lo.b.size ≤ 16 ∧ x.s.hi.b.size ≤ 16) ∧ ∀ m ∈ x.ms, m.R := by
 refine t.ind ⟨⟨by show Str.nil.b.size ≤ 16; decide, by show Str.nil.b.size ≤ 16; decide⟩, fun m hm => by cases hm⟩ fun x hx h0 ih j hj => ?_
 have hi := t.inner hx h0
 have hsp : (Zb l x j).s.lo.b.size ≤ 16 ∧ (Zb l x j).s.hi.b.size ≤ 16 := Zdx ih.1 (Zcx fun k hk => by
  obtain ⟨i, hi2, rfl⟩ := List.getElem_of_mem hk
  exact (hi.2.2.2.2.2.1 i hi2).2.1)
 refine ⟨hsp, fun m hm => ?_⟩
 rw [(t.kid_ms hx (t.rst x hx) j).1, List.mem_append] at hm
 rcases hm with hm | hm <;> obtain ⟨a, ha, h1, rfl⟩ := Zax hm
 ·exact Za9 ((t.msgs hx).2.1 a ha) hsp.1 hsp.2 h1
 ·exact Za9 (ih.2 a ha) hsp.1 hsp.2 h1
theorem Zbi {x : Seat} {j : Nat} (k : Str) (h : (Zb l x j).s.has k = true) : x.s.has k = true := by
 have e : (Zb l x j).s.has k = (x.s.has k && (Zf x.n.pivots (j : Int)).has k) := ZH _ _ _
 rw [e, Bool.and_eq_true] at h
 exact h.1
theorem Tree.path (t : Tree c l ss) {k : Str} : ∀ (n : Nat) (x : Seat) (P : List Seat), x ∈ ss → x.n.level.toNat = n → x.s.has k = true → x.ms.Perm ((P.map fun y => Zc x.s y.n.msgs).flatten) →
  ∃ z, (P ++ Xr l k n x).getLast? = some z ∧ z ∈ ss ∧ z.n.level = 0 ∧ z.s.has k = true ∧ (∀ y ∈ Xr l k n x, y ∈ ss ∧ (y.n.level = 0 → y = z)) ∧ z.ms.Perm (((P ++ Xr l k n x).map fun y => Zc z.s y.n.msgs).flatten) := by
 intro n
 induction n with
 | zero =>
  intro x P hx hn hk hp
  have h0 : x.n.level = 0 := by have := t.lvl hx; omega
  refine ⟨x, by simp [Xr], hx, h0, hk, fun y hy => by simp [Xr] at hy; subst hy; exact ⟨hx, fun _ => rfl⟩, ?_⟩
  rw [Xr, List.map_append, List.flatten_append]
  simp only [List.map_cons, List.map_nil, List.flatten_cons, List.flatten_nil, t.nomsgs hx h0]
  simpa [Zc] using hp
 | succ n ih =>
  intro x P hx hn hk hp
  have h0 : ¬ x.n.level = 0 := om9
  have h3 := (Z5 (t.kids hx) h0).2.2.1
  have hj := ZcA h3 k
  have ha := t.at hx h0 hj
  have hy : (Zb l x (Ze x.n.pivots k)).s.has k = true := by rw [Zbg h3 hj, hk]; simp
  have hms := (t.kid_ms hx (t.rst x hx) (Ze x.n.pivots k)).1
  rw [ZdE (J5 h0)]
  obtain ⟨z, h1, h2, h4, h5, h6, h7⟩ := ih (Zb l x (Ze x.n.pivots k)) (P ++ [x]) ha.1 om9 hy (by
   rw [hms, List.map_append, List.flatten_append]
   simp only [List.map_cons, List.map_nil, List.flatten_cons, List.flatten_nil, List.append_nil]
   refine List.perm_append_comm.trans (List.Perm.append_right _ ?_)
   refine (Zow hp).trans (List.Perm.of_eq ?_)
   rw [ZiA, List.map_map]
   congr 1
   refine List.map_congr_left fun y _ => ?_
   exact XJ (fun q hq => Zbi q hq) _)
  refine ⟨z, by simpa using h1, h2, h4, h5, fun y hy => ?_, by simpa using h7⟩
  rcases List.mem_cons.1 hy with rfl | hy
  ·exact ⟨hx, fun h => absurd h h0⟩
  ·exact h6 y hy
noncomputable def Zn (l : List Nd) (k : Str) : Seat := (ZB l k).getLast?.getD default
structure LeafOk (l : List Nd) (ss : List Seat) (k : Str) (z : Seat) : Prop where
 last : (ZB l k).getLast? = some z
 mem : z ∈ ss
 lvl : z.n.level = 0
 has : z.s.has k = true
 all : ∀ y ∈ ZB l k, y ∈ ss ∧ (y.n.level = 0 → y = z)
 perm : z.ms.Perm (((ZB l k).map fun y => Zc z.s y.n.msgs).flatten)
theorem Tree.leafOk (t : Tree c l ss) (k : Str) : LeafOk l ss k (Zn l k) := by
 obtain ⟨z, h1, h2, h3, h4, h5, h6⟩ := t.path (k := k) _ (Zg l 0) [] t.root rfl (ZaF k) (by exact List.Perm.refl _)
 have h1 : (ZB l k).getLast? = some z := h1
 have e : Zn l k = z := by unfold Zn; rw [h1]; rfl
 rw [e]
 exact ⟨h1, h2, h3, h4, h5, h6⟩
theorem Tree.path_ms (t : Tree c l ss) (k : Str) : ZO ((ZB l k).map fun y => Zc (Zn l k).s y.n.msgs) = (Zn l k).ms := by
 have h := t.leafOk k
 refine Zin _ _ _ rfl (fun L hL => ?_) h.perm (t.rst _ h.mem)
 obtain ⟨y, hy, rfl⟩ := List.mem_map.1 hL
 exact Jw (t.msgs (h.all y hy).1).1
theorem Tree.leaf_eq (t : Tree c l ss) {k : Str} {x : Seat} (hx : x ∈ ss) (hk : x.s.has k = true) (h0 : x.n.level = 0) : x = Zn l k := by
 have : x ∈ ZB l k := by rw [← t.way k]; exact List.mem_filter.2 ⟨hx, hk⟩
 exact ((t.leafOk k).all x this).2 h0
theorem Zfn {K : Seat → List Seat} {T : List Seat} (h : T = T.flatMap K) (hf : ∀ x ∈ T, ∀ y ∈ K x, y.n.level < x.n.level) : T = [] := by
 apply Classical.byContradiction
 intro hn
 obtain ⟨m, hm, hx⟩ := ZdD T hn
 have hm2 := hm
 rw [h] at hm2
 obtain ⟨x, hx1, hx2⟩ := List.mem_flatMap.1 hm2
 have := hf x hx1 m hx2
 have := hx x hx1
 omega
theorem Tree.kid_lvl (t : Tree c l ss) {x y : Seat} (hx : x ∈ ss) (hy : y ∈ Zj l x) : y ∈ ss ∧ y.n.level = x.n.level - 1 := by
 by_cases h0 : x.n.level = 0
 ·rw [Xq h0] at hy; cases hy
 ·rw [(Z5 (t.kids hx) h0).1] at hy
  obtain ⟨j, hj, rfl⟩ := List.mem_map.1 hy
  have := t.at hx h0 (List.mem_range.1 hj)
  exact ⟨this.1, this.2.2.2⟩
noncomputable def XD (l : List Nd) : Nat → Seat → List Seat
 | 0, x => [x]
 | n + 1, x => x :: (Zj l x).flatMap (XD l n)
theorem ZiB {α β : Type} {f g h : α → List β} (e : ∀ x, f x = g x ++ h x) : ∀ (L : List α), (L.flatMap f).Perm (L.flatMap g ++ L.flatMap h)
 | [] => List.Perm.refl _
 | x :: L => by
  rw [List.flatMap_cons, List.flatMap_cons, List.flatMap_cons, e x, List.append_assoc, List.append_assoc]
  refine List.Perm.append_left _ ?_
  refine (List.Perm.append_left _ (ZiB e L)).trans ?_
  rw [← List.append_assoc, ← List.append_assoc]
  exact List.perm_append_comm.append_right _
theorem Tree.pre_perm (t : Tree c l ss) : ∀ (n : Nat) (R T : List Seat), T = R ++ T.flatMap (Zj l) → (∀ x ∈ T, x ∈ ss) → (∀ x ∈ R, x.n.level.toNat = n) → T.Perm (R.flatMap (XD l n)) := by
 intro n
 induction n with
 | zero =>
  intro R T hT hs hR
  have hRT : ∀ x ∈ R, x ∈ T := fun x hx => by rw [hT]; exact List.mem_append_left _ hx
  have h0 : ∀ x ∈ R, x.n.level = 0 := fun x hx => by have := t.lvl (hs x (hRT x hx)); have := hR x hx; omega
  have hK : R.flatMap (Zj l) = [] := List.flatMap_eq_nil_iff.2 fun x hx => Xq (h0 x hx)
  generalize hS : T.flatMap (Zj l) = S at hT
  have hS2 : S = S.flatMap (Zj l) := by
   conv => lhs; rw [← hS, hT]
   rw [List.flatMap_append, hK, List.nil_append]
  have hST : ∀ x ∈ S, x ∈ T := fun x hx => by rw [hT]; exact List.mem_append_right _ hx
  have hn := Zfn hS2 fun x hx y hy => by have := (t.kid_lvl (hs x (hST x hx)) hy).2; omega
  rw [hT, hn, List.append_nil]
  exact List.Perm.of_eq (List.flatMap_singleton' R).symm
 | succ n ih =>
  intro R T hT hs hR
  have hRT : ∀ x ∈ R, x ∈ T := fun x hx => by rw [hT]; exact List.mem_append_left _ hx
  generalize hS : T.flatMap (Zj l) = S at hT
  have hS2 : S = R.flatMap (Zj l) ++ S.flatMap (Zj l) := by
   conv => lhs; rw [← hS, hT]
   rw [List.flatMap_append]
  have hST : ∀ x ∈ S, x ∈ T := fun x hx => by rw [hT]; exact List.mem_append_right _ hx
  have h1 := ih (R.flatMap (Zj l)) S hS2 (fun x hx => hs x (hST x hx)) fun y hy => by
   obtain ⟨x, hx, hyx⟩ := List.mem_flatMap.1 hy
   have := (t.kid_lvl (hs x (hRT x hx)) hyx).2
   have := hR x hx
   omega
  rw [hT]
  refine (List.Perm.append_left R h1).trans ?_
  have h2 := ZiB (f := XD l (n + 1)) (g := fun x => [x]) (h := fun x => (Zj l x).flatMap (XD l n)) (fun x => rfl) R
  rw [List.flatMap_singleton' R] at h2
  refine List.Perm.trans ?_ h2.symm
  rw [List.flatMap_assoc]
theorem Tree.pre_len (t : Tree c l ss) : ∀ (n : Nat) (x : Seat), x ∈ ss → x.n.level.toNat = n → 2 ^ (n + 1) ≤ (XD l n x).length + 1 := by
 intro n
 induction n with
 | zero => intro x _ _; simp [XD]
 | succ n ih =>
  intro x hx hn
  have h0 : ¬ x.n.level = 0 := om9
  have hk := (t.inner hx h0).1.2.1
  have h1 := (Z5 (t.kids hx) h0).1
  have hl : (Zj l x).length = x.n.kids.length := by rw [h1, Zai]
  have key : ∀ y ∈ Zj l x, 2 ^ (n + 1) ≤ (XD l n y).length + 1 := fun y hy => by
   have := t.kid_lvl hx hy
   exact ih y this.1 om9
  rw [XD, List.length_cons]
  match hL : Zj l x with
  | [] => rw [hL] at hl; simp at hl; omega
  | [a] => rw [hL] at hl; simp at hl; omega
  | a :: b :: R =>
   rw [hL] at key
   have ha := key a (by simp)
   have hb := key b (by simp)
   rw [List.flatMap_cons, List.flatMap_cons, List.length_append, List.length_append]
   have : 2 ^ (n + 1 + 1) = 2 ^ (n + 1) + 2 ^ (n + 1) := by rw [Nat.pow_succ]; omega
   omega
theorem Tree.height (t : Tree c l ss) : (Zg l 0).n.level ≤ 11 := by
 have h1 := t.pre_perm (Zg l 0).n.level.toNat [Zg l 0] ss (by exact t.fix) (fun x hx => hx) (fun x hx => by simp at hx; rw [hx])
 rw [List.flatMap_cons, List.flatMap_nil, List.append_nil] at h1
 have h2 := t.pre_len _ _ t.root rfl
 rw [← h1.length_eq, t.len] at h2
 have h3 := t.sml.1
 apply Classical.byContradiction
 intro hn
 have h4 : 2 ^ 13 ≤ 2 ^ ((Zg l 0).n.level.toNat + 1) := Nat.pow_le_pow_right om9 om9
 omega
theorem Zox (t : Tree c l ss) (k : Str) : ∀ (n : Nat) (x : Seat), x ∈ ss → x.n.level.toNat = n → (Xr l k n x).length = n + 1 := by
 intro n
 induction n with
 | zero => intro x _ _; rfl
 | succ n ih =>
  intro x hx hn
  have h0 : ¬ x.n.level = 0 := om9
  have ha := t.step (k := k) hx (J5 h0)
  rw [ZdE (J5 h0), List.length_cons, ih _ ha.1 om9]
theorem Tree.way_len (t : Tree c l ss) (k : Str) : (ZB l k).length ≤ 100 := by
 have h5 : (ZB l k).length = (Zg l 0).n.level.toNat + 1 := Zox t k _ (Zg l 0) t.root rfl
 have := t.height
 have := t.lvl t.root
 omega
def YH (x : Seat) : List Pair := Zt (x.n.rows.filter fun p => x.s.has p.key) (Zc x.s x.ms)
def ZE (ss : List Seat) : List Seat := ss.filter fun x => decide (x.n.level = 0)
noncomputable def Zl (l : List Nd) : List Pair := match JJ l 0 with | none => [] | some ss => (ZE ss).flatMap YH
theorem Jx (h : JJ l 0 = some ss) : Zl l = (ZE ss).flatMap YH := by rw [Zl, h]
theorem Tree.rows (t : Tree c l ss) {x : Seat} (hx : x ∈ ss) : PairsR x.n.rows := by
 by_cases h0 : x.n.level = 0
 ·exact (t.leaf hx h0).2.2.1
 ·have := (t.inner hx h0).1.1
  rw [List.eq_nil_of_length_eq_zero this]
  intro i hi; simp at hi
theorem Y1 {m : Msg} (h : m.R) : m.key.b.size ≤ 16 ∧ m.val.b.size ≤ 16 := ⟨h.1.2.1, h.1.2.2.1⟩
theorem Tree.view (t : Tree c l ss) {x : Seat} (hx : x ∈ ss) : YH x = (Zt x.n.rows x.ms).filter fun p => x.s.has p.key :=
 Zbe (t.rows hx).srt fun m hm => by have := (Y1 ((t.fits x hx).2 m hm)).1; omega
theorem Tree.view_get (t : Tree c l ss) {x : Seat} (hx : x ∈ ss) (k : Str) : Zi (YH x) k = if x.s.has k = true then Zi (Zt x.n.rows x.ms) k else none := by
 rw [t.view hx, ZbF]
theorem ZiC {k : Str} : ∀ (T : List Seat), (∀ x ∈ T, x.s.has k = false → Zi (YH x) k = none) → Zi (T.flatMap YH) k = Zi ((X5 k T).flatMap YH) k
 | [], _ => rfl
 | x :: T, h => by
  have ih := ZiC T (fun y hy => h y (List.mem_cons_of_mem _ hy))
  unfold X5 at *
  rw [List.flatMap_cons, Zcn, ih, List.filter_cons]
  cases hk : x.s.has k
  ·rw [if_neg (by simp), h x (by simp) hk]; rfl
  ·rw [if_pos rfl, List.flatMap_cons, Zcn]
theorem Zoy {k : Str} (t : Tree c l ss) : ∀ (n : Nat) (x : Seat), x ∈ ss → x.n.level.toNat = n → ∃ z, ZE (Xr l k n x) = [z] ∧ (Xr l k n x).getLast? = some z := by
 intro n
 induction n with
 | zero =>
  intro x hx hn
  have h0 : x.n.level = 0 := by have := t.lvl hx; omega
  exact ⟨x, by simp [Xr, ZE, h0], by simp [Xr]⟩
 | succ n ih =>
  intro x hx hn
  have h0 : ¬ x.n.level = 0 := om9
  have ha := t.step (k := k) hx (J5 h0)
  obtain ⟨z, h1, h2⟩ := ih _ ha.1 om9
  rw [ZdE (J5 h0)]
  refine ⟨z, ?_, ?_⟩
  ·unfold ZE at *
   rw [List.filter_cons_of_neg (by simpa using h0)]; exact h1
  ·rw [List.getLast?_cons, h2]; rfl
theorem Tree.get (t : Tree c l ss) (k : Str) : Zi (Zl l) k = Zi (Zt (Zn l k).n.rows (Zn l k).ms) k := by
 have h := t.leafOk k
 rw [Jx t.sts, ZiC _ (fun x hx hk => by rw [t.view_get (List.mem_filter.1 hx).1, hk]; rfl)]
 have e : X5 k (ZE ss) = [Zn l k] := by
  have : X5 k (ZE ss) = ZE (X5 k ss) := by
   unfold X5 ZE
   rw [List.filter_filter, List.filter_filter]
   exact List.filter_congr fun x _ => Bool.and_comm _ _
  rw [this, t.way k]
  obtain ⟨z, h1, h2⟩ := Zoy (k := k) t _ (Zg l 0) t.root rfl
  have h3 : (ZB l k).getLast? = some z := h2
  rw [h.last] at h3
  cases h3
  exact h1
 rw [e, List.flatMap_cons, List.flatMap_nil, List.append_nil, t.view_get h.mem, if_pos h.has]
def YT (k : Str) (A : List Msg) : Nat := (A.filter fun m => m.span.has k).length
theorem Zoz (k : Str) (A B : List Msg) : YT k (A ++ B) = YT k A + YT k B := by simp [YT]
theorem ZoA {k : Str} {A B : List Msg} (h : A.Perm B) : YT k A = YT k B := (List.Perm.filter _ h).length_eq
theorem ZiD (k : Str) : ∀ (L : List (List Msg)), YT k L.flatten = (L.map (YT k)).sum
 | [] => rfl
 | A :: L => by rw [List.flatten_cons, Zoz, ZiD k L]; simp
theorem ZiE {k : Str} {s : Span} (hk : s.has k = true) : ∀ (A : List Msg), YT k (Zc s A) = YT k A
 | [] => rfl
 | m :: A => by
  have ih := ZiE hk A
  have ec : YT k (m :: A) = (if m.span.has k = true then 1 else 0) + YT k A := by
   unfold YT; rw [List.filter_cons]; split <;> simp; omega
  rw [Xp, ec]
  cases h : (m.clip s).2
  ·rw [if_neg (by simp), ih]
   have := YN.1 (Jv.1 h) k
   rw [ZH, hk, Bool.and_true] at this
   rw [this]; simp
  ·rw [if_pos rfl]
   have e2 : YT k ((m.clip s).1 :: Zc s A) = (if (m.clip s).1.span.has k = true then 1 else 0) + YT k (Zc s A) := by
    unfold YT; rw [List.filter_cons]; split <;> simp; omega
   rw [e2, ih]
   congr 2
   by_cases h4 : m.kind = 4
   ·rw [ZbQ h h4, ZH, hk, Bool.and_true]
   ·rw [(Xo h).2, if_neg h4]
theorem ZiF {k : Str} (hk : k.b.size < 140737488355328) : ∀ (A : List Msg), (Zc ⟨k, k.next, false⟩ A).length = YT k A
 | [] => rfl
 | m :: A => by
  have ih := ZiF hk A
  rw [Xp]
  have e : (m.clip ⟨k, k.next, false⟩).2 = m.span.has k := by
   cases h : (m.clip ⟨k, k.next, false⟩).2
   ·have := YN.1 (Jv.1 h) k
    rw [ZH, Zag hk] at this
    simpa using this.symm
   ·cases h2 : m.span.has k
    ·exfalso
     have : (m.span.meet ⟨k, k.next, false⟩).empty = true := YN.2 fun q => by
      rw [ZH, Zag hk]
      by_cases e : q = k
      ·subst e; rw [h2]; rfl
      ·simp [e]
     rw [Jv.2 this] at h; cases h
    ·rfl
  unfold YT
  rw [List.filter_cons, e]
  split
  ·rw [List.length_cons, List.length_cons, ih]; rfl
  ·rw [ih]; rfl
def ZiG (k : Str) (l : List Nd) : Nat := (l.map fun n => YT k n.msgs).sum
theorem Tree.depth (t : Tree c l ss) {k : Str} (hk : k.b.size < 140737488355328) : (Zc ⟨k, k.next, false⟩ (Zn l k).ms).length = ZiG k l := by
 have h := t.leafOk k
 rw [ZiF hk, ZoA h.perm, ZiD, List.map_map]
 have e1 : ((ZB l k).map (YT k ∘ fun y => Zc (Zn l k).s y.n.msgs)) = (ZB l k).map fun y => YT k y.n.msgs :=
  List.map_congr_left fun y _ => ZiE h.has _
 rw [e1, ← t.way k]
 have e2 : ∀ (T : List Seat), (∀ x ∈ T, x ∈ ss) → ((X5 k T).map fun y => YT k y.n.msgs).sum = (T.map fun y => YT k y.n.msgs).sum := by
  intro T
  induction T with
  | nil => intro _; rfl
  | cons x T ih =>
   intro hT
   have ih := ih (fun y hy => hT y (List.mem_cons_of_mem _ hy))
   unfold X5 at *
   rw [List.filter_cons]
   cases hx : x.s.has k
   ·rw [if_neg (by simp), ih]
    have : YT k x.n.msgs = 0 := by
     unfold YT
     rw [List.length_eq_zero_iff, List.filter_eq_nil_iff]
     intro m hm
     obtain ⟨i, hi, rfl⟩ := List.getElem_of_mem hm
     have := (t.seat (hT x (by simp))).2.1.2.2.2 i hi
     have := congrArg (fun s : Span => s.has k) this
     simp only [ZH, ZaP, hx, Bool.and_false] at this
     rw [← this]; simp
    simp [this]
   ·rw [if_pos rfl]; simp [ih]
 rw [e2 ss (fun x hx => hx)]
 unfold ZiG
 have := (t.perm.map fun n : Nd => YT k n.msgs).sum_nat
 rw [← this, List.map_map]; rfl
variable {c : Cfg} {l : List Nd} {ss : List Seat}
structure At (l : List Nd) (ss : List Seat) (k : Str) (x : Seat) (P : List Seat) (lv : Int) : Prop where
 mem : x ∈ ss
 way : ZB l k = P ++ Xr l k x.n.level.toNat x
 lv : lv < 0 ∨ lv = x.n.level + 1
theorem At.init (t : Tree c l ss) (k : Str) : At l ss k (Zg l 0) [] (-1) := ⟨t.root, rfl, .inl om9⟩
theorem At.last {k : Str} {x : Seat} {P : List Seat} {lv : Int} (h : At l ss k x P lv) (h0 : x.n.level ≤ 0) : ZB l k = P ++ [x] := by
 rw [h.way, show x.n.level.toNat = 0 by omega]; rfl
theorem Tree.right (t : Tree c l ss) {x : Seat} (hx : x ∈ ss) (h0 : ¬ x.n.level ≤ 0) : YB x.n.pivots x.n.kids.length = true := (Z5 (t.kids hx) om9).2.2.1
theorem Tree.route (t : Tree c l ss) {x : Seat} (hx : x ∈ ss) (h0 : ¬ x.n.level ≤ 0) (k : Str) : Ze x.n.pivots k < x.n.kids.length := ZcA (t.right hx h0) k
theorem At.next (t : Tree c l ss) {k : Str} {x : Seat} {P : List Seat} {lv : Int} (h : At l ss k x P lv) (h0 : ¬ x.n.level ≤ 0) : At l ss k (Zb l x (Ze x.n.pivots k)) (P ++ [x]) x.n.level := by
 have ha := t.at h.mem om9 (t.route h.mem h0 k)
 refine ⟨ha.1, ?_, .inr om9⟩
 rw [h.way, show x.n.level.toNat = (Zb l x (Ze x.n.pivots k)).n.level.toNat + 1 by omega, ZdE (J5 om9)]
 simp
theorem At.slot (t : Tree c l ss) {x : Seat} (hx : x ∈ ss) (h0 : ¬ x.n.level ≤ 0) (k : Str) : (Zb l x (Ze x.n.pivots k)).n.slot = x.n.kids[Ze x.n.pivots k]'(t.route hx h0 k) := by
 have ha := t.at hx om9 (t.route hx h0 k)
 rw [ha.2.2.1]
 exact (Yv t.slot ha.2.1).1
theorem At.plen (t : Tree c l ss) {k : Str} {x : Seat} {P : List Seat} {lv : Int} (h : At l ss k x P lv) : P.length ≤ 100 := by
 have h1 := t.way_len k
 rw [h.way, List.length_append] at h1
 omega
theorem Tree.root0 (t : Tree c l ss) : (Zg l 0).n.slot = 0 := by
 rw [t.rootn]
 exact (Yv t.slot ⟨Int.le_refl 0, by have := t.pos; omega⟩).1
theorem Tree.way_pos (t : Tree c l ss) (k : Str) : 0 < (ZB l k).length := by
 have h := (t.leafOk k).last
 cases e : ZB l k with
 | nil => rw [e] at h; cases h
 | cons a b => simp
theorem Tree.last_at (t : Tree c l ss) (k : Str) {i : Nat} (h : i < (ZB l k).length) (hi : i + 1 = (ZB l k).length) : (ZB l k)[i] = Zn l k := by
 have h2 := (t.leafOk k).last
 rw [List.getLast?_eq_getElem?, show (ZB l k).length - 1 = i by omega, List.getElem?_eq_getElem h] at h2
 exact Option.some.inj h2
theorem Tree.last_n (t : Tree c l ss) (k : Str) {i : Nat} (h : i < ((ZB l k).map fun y : Seat => y.n).length) (hi : i + 1 = (ZB l k).length) : ((ZB l k).map fun y : Seat => y.n)[i] = (Zn l k).n := by
 rw [List.getElem_map, t.last_at k om9 hi]
theorem Tree.last_s (t : Tree c l ss) (k : Str) {i : Nat} (h : i < ((ZB l k).map fun y : Seat => y.s).length) (hi : i + 1 = (ZB l k).length) : ((ZB l k).map fun y : Seat => y.s)[i] = (Zn l k).s := by
 rw [List.getElem_map, t.last_at k om9 hi]
theorem Tree.path_msgs (t : Tree c l ss) (k : Str) {s : Span} (hs : s = (Zn l k).s) : ZO (((((ZB l k).map fun y : Seat => y.n).map fun n : Nd => n.msgs)).map (Zc s)) = (Zn l k).ms := by
 rw [← t.path_ms k, hs, List.map_map, List.map_map]; rfl
theorem Tree.way_mem (t : Tree c l ss) {k : Str} {y : Seat} (h : y ∈ ZB l k) : y ∈ ss := ((t.leafOk k).all y h).1
theorem Tree.path_key (t : Tree c l ss) (k : Str) : ∀ i (h : i < (((ZB l k).map fun y : Seat => y.n).map fun n : Nd => n.msgs).length), ∀ m ∈ (((ZB l k).map fun y : Seat => y.n).map fun n : Nd => n.msgs)[i], m.key.b.size < 140737488355328 := by
 intro i h m hm
 simp only [List.getElem_map] at hm
 have := (Y1 ((t.msgs (t.way_mem (List.getElem_mem (by simpa using h)))).2.1 m hm)).1
 omega
theorem ZiH {b : Nat} : ∀ {C : Ls}, (∀ L ∈ C, L.length ≤ b) → YW C ≤ C.length * b
 | [], _ => Nat.zero_le _
 | A :: C, h => by
  have h1 := h A (by simp)
  have h2 := ZiH (b := b) (C := C) (fun L hL => h L (List.mem_cons_of_mem _ hL))
  rw [Zbc, List.length_cons, Nat.succ_mul]; omega
theorem Tree.path_tot (t : Tree c l ss) (k : Str) : YW (((ZB l k).map fun y : Seat => y.n).map fun n : Nd => n.msgs) ≤ 400000 := by
 have h1 := ZiH (b := 4000) (C := ((ZB l k).map fun y : Seat => y.n).map fun n : Nd => n.msgs) fun L hL => by
  obtain ⟨n, hn, rfl⟩ := List.mem_map.1 hL
  obtain ⟨y, hy, rfl⟩ := List.mem_map.1 hn
  exact (t.sml.at (.inr (t.nd (t.way_mem hy)).2.2)).2.2.1
 have h2 := t.way_len k
 simp only [List.length_map] at h1
 omega
theorem Zfo : ∀ {ms : List Msg}, (∀ m ∈ ms, m.R) → 4 * (ms.length : Int) ≤ Zz ms
 | [], _ => by simp [Zz]
 | m :: ms, h => by
  have h1 := Zfo (ms := ms) (fun a ha => h a (List.mem_cons_of_mem _ ha))
  have h2 := Zdf (Y1 (h m (by simp)))
  rw [Zdh, List.length_cons]; omega
theorem Tree.msgs_len (t : Tree c l ss) {x : Seat} (hx : x ∈ ss) : x.n.msgs.length ≤ 1024 := by
 by_cases h0 : x.n.level = 0
 ·rw [t.nomsgs hx h0]; exact Nat.zero_le _
 ·have h1 := (t.inner hx h0).2.2.2.1
  have h2 := Zfo (t.msgs hx).2.1
  have h3 := t.cfg.2.2.1.2
  omega
theorem Tree.rows_len (t : Tree c l ss) {x : Seat} (hx : x ∈ ss) : x.n.rows.length ≤ 64 := by
 by_cases h0 : x.n.level = 0
 ·have h1 := (t.leaf hx h0).2.1
  have h3 := t.cfg.2.1.2
  omega
 ·have := (t.inner hx h0).1.1
  omega
theorem Tree.ms_len (t : Tree c l ss) : ∀ x ∈ ss, x.ms.length ≤ 1024 * (100 - x.n.level.toNat) ∧ x.n.level ≤ 99 := by
 have hr := t.height
 refine t.ind ⟨Nat.zero_le _, om9⟩ fun x hx h0 ih j hj => ?_
 have ha := t.at hx h0 hj
 have hlx := t.lvl hx
 have hly := t.lvl ha.1
 have hms := congrArg List.length (t.kid_ms hx (t.rst x hx) j).1
 rw [List.length_append] at hms
 have c1 : (Zc (Zb l x j).s x.n.msgs).length ≤ x.n.msgs.length := Za7
 have c2 : (Zc (Zb l x j).s x.ms).length ≤ x.ms.length := Za7
 have c3 := t.msgs_len hx
 refine ⟨?_, om9⟩
 have : 100 - (Zb l x j).n.level.toNat = 100 - x.n.level.toNat + 1 := om9
 rw [this]
 omega
theorem Tree.lookup (t : Tree c l ss) (k : Str) : Eff.apply (YF (Zn l k).ms k) (Zi (Zn l k).n.rows k) = Zi (Zl l) k := by
 rw [t.get k, Znm]
 intro m hm
 have := (t.fits _ (t.leafOk k).mem).2 m hm
 have h4 := MsgsR.kinds (l := [m]) (MsgsR.iff.2 ⟨by intro a ha; simp at ha; subst ha; exact this, List.pairwise_singleton _ _⟩) m (by simp)
 exact ⟨by have := (Y1 this).1; omega, h4.1, h4.2⟩
end Go.Fw

namespace Go.Fw
def Xs (l : List Pair) (n : Int) : Nat := (max 0 (min (l.length : Int) n)).toNat
theorem ZoB (l : List Pair) (n : Int) : ((Xs l n : Nat) : Int) = max 0 (min (l.length : Int) n) := by unfold Xs; omega
def Zbj (l : List Pair) (s : Span) (ms : List Msg) (c : Str) (n : Int) : List Pair × Str × Bool :=
 if s.empty = true then ([], c, true) else ((Zt (l.filter fun p => Span.has s p.key) (Zc s ms)).take (Xs (Zt (l.filter fun p => Span.has s p.key) (Zc s ms)) n), (if s.opn = true then Str.nil else s.hi), s.opn || decide (n ≤ ((Zt (l.filter fun p => Span.has s p.key) (Zc s ms)).length : Int)))
theorem ZoC {l : List Pair} {s : Span} {ms : List Msg} {c : Str} {n : Int} (h : s.empty = true) : Zbj l s ms c n = ([], c, true) := if_pos h
theorem Zfp {l : List Pair} {s : Span} {ms : List Msg} {c : Str} {n : Int} (h : s.empty = false) {x : Str} {b : Bool} (hx : x = if s.opn = true then Str.nil else s.hi) (hb : b = (s.opn || decide (n ≤ ((Zt (l.filter fun p => Span.has s p.key) (Zc s ms)).length : Int)))) :
  Zbj l s ms c n = ((Zt (l.filter fun p => Span.has s p.key) (Zc s ms)).take (Xs (Zt (l.filter fun p => Span.has s p.key) (Zc s ms)) n), x, b) := by rw [Zbj, if_neg (by simp [h]), hx, hb]
end Go.Fw

namespace Go.Fw
open Go Go.RowKit
variable {c : Cfg} {l : List Nd} {ss : List Seat}
noncomputable def JM (l : List Nd) : Nat → Seat → List Seat
 | 0, x => [x]
 | n + 1, x => (Zj l x).flatMap (JM l n)
theorem Tree.leaves_dfs (t : Tree c l ss) : ∀ (n : Nat) (R T : List Seat), T = R ++ T.flatMap (Zj l) → (∀ x ∈ T, x ∈ ss) → (∀ x ∈ R, x.n.level.toNat = n) → ZE T = R.flatMap (JM l n) := by
 intro n
 induction n with
 | zero =>
  intro R T hT hs hR
  have hRT : ∀ x ∈ R, x ∈ T := fun x hx => by rw [hT]; exact List.mem_append_left _ hx
  have h0 : ∀ x ∈ R, x.n.level = 0 := fun x hx => by have := t.lvl (hs x (hRT x hx)); have := hR x hx; omega
  have hK : R.flatMap (Zj l) = [] := List.flatMap_eq_nil_iff.2 fun x hx => Xq (h0 x hx)
  generalize hS : T.flatMap (Zj l) = S at hT
  have hS2 : S = S.flatMap (Zj l) := by
   conv => lhs; rw [← hS, hT]
   rw [List.flatMap_append, hK, List.nil_append]
  have hST : ∀ x ∈ S, x ∈ T := fun x hx => by rw [hT]; exact List.mem_append_right _ hx
  have hn := Zfn hS2 fun x hx y hy => by have := (t.kid_lvl (hs x (hST x hx)) hy).2; omega
  rw [hT, hn, List.append_nil]
  unfold ZE
  rw [List.filter_eq_self.2 fun x hx => decide_eq_true (h0 x hx)]
  exact (List.flatMap_singleton' R).symm
 | succ n ih =>
  intro R T hT hs hR
  have hRT : ∀ x ∈ R, x ∈ T := fun x hx => by rw [hT]; exact List.mem_append_left _ hx
  generalize hS : T.flatMap (Zj l) = S at hT
  have hS2 : S = R.flatMap (Zj l) ++ S.flatMap (Zj l) := by
   conv => lhs; rw [← hS, hT]
   rw [List.flatMap_append]
  have hST : ∀ x ∈ S, x ∈ T := fun x hx => by rw [hT]; exact List.mem_append_right _ hx
  have h1 := ih (R.flatMap (Zj l)) S hS2 (fun x hx => hs x (hST x hx)) fun y hy => by
   obtain ⟨x, hx, hyx⟩ := List.mem_flatMap.1 hy
   have := (t.kid_lvl (hs x (hRT x hx)) hyx).2
   have := hR x hx
   omega
  have h2 : ZE R = [] := List.filter_eq_nil_iff.2 fun x hx => by have := hR x hx; simp; omega
  rw [hT]
  unfold ZE at *
  rw [List.filter_append, h2, List.nil_append, h1, List.flatMap_assoc]
  rfl
theorem Tree.leaves (t : Tree c l ss) : ZE ss = JM l (Zg l 0).n.level.toNat (Zg l 0) := by
 have := t.leaves_dfs (Zg l 0).n.level.toNat [Zg l 0] ss (by exact t.fix) (fun x hx => hx) (fun x hx => by simp at hx; rw [hx])
 simpa using this
def Bef (a b : Seat) : Prop := ∀ p q, a.s.has p = true → b.s.has q = true → p.lt q = true
theorem ZcB {P : List Str} {p q : Str} (h : p.lt q = false) : Ze P q ≤ Ze P p := by
 unfold Ze
 rw [← List.countP_eq_length_filter, ← List.countP_eq_length_filter]
 refine List.countP_mono_left fun x _ hx => ?_
 simp only [Bool.not_eq_true'] at hx ⊢
 exact Str.le_trans hx h
theorem ZoD {x : Seat} (h : YB x.n.pivots x.n.kids.length = true) : (Y8 l x x.n.kids.length).Pairwise Bef := by
 unfold Y8
 rw [List.pairwise_map]
 refine List.Pairwise.imp_of_mem (fun {i j} hi hj hij => ?_) List.pairwise_lt_range
 intro p q hp hq
 rw [Zbg h (List.mem_range.1 hi), Bool.and_eq_true, decide_eq_true_eq] at hp
 rw [Zbg h (List.mem_range.1 hj), Bool.and_eq_true, decide_eq_true_eq] at hq
 cases hl : p.lt q
 ·have := ZcB (P := x.n.pivots) hl; omega
 ·rfl
theorem Tree.dfs (t : Tree c l ss) : ∀ (n : Nat) (x : Seat), x ∈ ss → x.n.level.toNat = n → (∀ y ∈ JM l n x, y ∈ ss ∧ y.n.level = 0 ∧ ∀ k, y.s.has k = true → x.s.has k = true) ∧ (JM l n x).Pairwise Bef := by
 intro n
 induction n with
 | zero =>
  intro x hx hn
  have h0 : x.n.level = 0 := by have := t.lvl hx; omega
  exact ⟨fun y hy => by simp [JM] at hy; subst hy; exact ⟨hx, h0, fun k h => h⟩, by simp [JM]⟩
 | succ n ih =>
  intro x hx hn
  have h0 : ¬ x.n.level = 0 := om9
  obtain ⟨h1, h2, h3, h4⟩ := Z5 (t.kids hx) h0
  have hk : ∀ y ∈ Zj l x, y ∈ ss ∧ y.n.level.toNat = n ∧ ∀ k, y.s.has k = true → x.s.has k = true := fun y hy => by
   have := t.kid_lvl hx hy
   rw [h1] at hy
   obtain ⟨j, hj, rfl⟩ := List.mem_map.1 hy
   exact ⟨this.1, om9, fun k => Zbi k⟩
  refine ⟨fun y hy => ?_, ?_⟩
  ·obtain ⟨z, hz, hyz⟩ := List.mem_flatMap.1 hy
   obtain ⟨a1, a2, a3⟩ := hk z hz
   obtain ⟨b1, b2, b3⟩ := (ih z a1 a2).1 y hyz
   exact ⟨b1, b2, fun k h => a3 k (b3 k h)⟩
  ·show ((Zj l x).flatMap (JM l n)).Pairwise Bef
   rw [List.pairwise_flatMap]
   refine ⟨fun z hz => (ih z (hk z hz).1 (hk z hz).2.1).2, ?_⟩
   rw [h1]
   refine List.Pairwise.imp_of_mem (fun {a b} ha hb hab => ?_) (ZoD h3)
   intro u hu v hv p q hp hq
   rw [← h1] at ha hb
   exact hab p q (((ih a (hk a ha).1 (hk a ha).2.1).1 u hu).2.2 p hp) (((ih b (hk b hb).1 (hk b hb).2.1).1 v hv).2.2 q hq)
theorem Tree.leaves_bef (t : Tree c l ss) : (ZE ss).Pairwise Bef := by rw [t.leaves]; exact (t.dfs _ _ t.root rfl).2
theorem Tree.view_keys (t : Tree c l ss) {x : Seat} (hx : x ∈ ss) {p : Pair} (hp : p ∈ YH x) : x.s.has p.key = true := by
 rw [t.view hx] at hp; exact (List.mem_filter.1 hp).2
theorem Tree.foldR (t : Tree c l ss) {x : Seat} (hx : x ∈ ss) : PairsR (Zt x.n.rows x.ms) := (t.rows hx).fold fun m hm => Y1 ((t.fits x hx).2 m hm)
theorem Tree.srt (t : Tree c l ss) : Srt (Zl l) := by
 rw [Jx t.sts]
 unfold Srt
 rw [List.pairwise_flatMap]
 refine ⟨fun x hx => ?_, List.Pairwise.imp_of_mem (fun {a b} ha hb hab => ?_) t.leaves_bef⟩
 ·rw [t.view (List.mem_filter.1 hx).1]; exact (t.foldR (List.mem_filter.1 hx).1).srt.filter _
 ·intro p hp q hq
  exact hab _ _ (t.view_keys (List.mem_filter.1 ha).1 hp) (t.view_keys (List.mem_filter.1 hb).1 hq)
theorem Tree.mapFits (t : Tree c l ss) : PairsR (Zl l) := Zah.2 ⟨fun p hp => by
 rw [Jx t.sts] at hp
 obtain ⟨x, hx, hp⟩ := List.mem_flatMap.1 hp
 rw [t.view (List.mem_filter.1 hx).1] at hp
 exact (Zah.1 (t.foldR (List.mem_filter.1 hx).1)).1 p (List.mem_filter.1 hp).1, t.srt⟩
theorem Tree.map_view (t : Tree c l ss) {z : Seat} (hz : z ∈ ss) (h0 : z.n.level = 0) : (Zl l).filter (fun p => z.s.has p.key) = YH z := by
 have hm : z ∈ ZE ss := List.mem_filter.2 ⟨hz, decide_eq_true h0⟩
 obtain ⟨A, B, e⟩ := List.append_of_mem hm
 have ho := t.leaves_bef
 have hsub : ∀ x ∈ A ++ z :: B, x ∈ ss := fun x hx => by rw [← e] at hx; exact (List.mem_filter.1 hx).1
 rw [Jx t.sts, e]
 rw [e] at ho
 obtain ⟨h1, h2, h3⟩ := List.pairwise_append.1 ho
 have hA : (A.flatMap YH).filter (fun p => z.s.has p.key) = [] := List.filter_eq_nil_iff.2 fun p hp hh => by
  obtain ⟨x, hx, hp⟩ := List.mem_flatMap.1 hp
  have := h3 x hx z (by simp) p.key p.key (t.view_keys (hsub x (List.mem_append_left _ hx)) hp) hh
  rw [Str.lt_irrefl] at this; cases this
 have hB : (B.flatMap YH).filter (fun p => z.s.has p.key) = [] := List.filter_eq_nil_iff.2 fun p hp hh => by
  obtain ⟨x, hx, hp⟩ := List.mem_flatMap.1 hp
  have := (List.pairwise_cons.1 h2).1 x hx p.key p.key hh (t.view_keys (hsub x (List.mem_append_right _ (List.mem_cons_of_mem _ hx))) hp)
  rw [Str.lt_irrefl] at this; cases this
 have hV : (YH z).filter (fun p => z.s.has p.key) = YH z := List.filter_eq_self.2 fun p hp => t.view_keys hz hp
 rw [List.flatMap_append, List.flatMap_cons, List.filter_append, List.filter_append, hA, hB, hV, List.append_nil, List.nil_append]
def YD (A : List Msg) : Nat := (A.filter fun m => !decide (m.kind = 4)).length
theorem ZoE (A B : List Msg) : YD (A ++ B) = YD A + YD B := by simp [YD]
theorem ZoF (A : List Msg) : YD A ≤ A.length := List.length_filter_le _ _
theorem ZcC (m : Msg) (A : List Msg) : YD (m :: A) = (if m.kind = 4 then 0 else 1) + YD A := by
 unfold YD
 rw [List.filter_cons]
 by_cases h : m.kind = 4
 ·simp [h]
 ·simp [h]; omega
theorem ZiI {m : Msg} {s : Span} (h : (m.clip s).2 = true) : (m.clip s).1.kind = m.kind := by
 rw [(Xo h).2]; split <;> rfl
theorem ZiJ (s : Span) : ∀ (A : List Msg), YD (Zc s A) ≤ YD A
 | [] => Nat.le_refl _
 | m :: A => by
  have ih := ZiJ s A
  rw [Xp, ZcC]
  split
  ·rename_i h
   rw [ZcC, ZiI h]
   omega
  ·omega
theorem ZoG {ms : List Msg} : ∀ {l : List Pair}, PairsR l → (∀ m ∈ ms, m.fit) → (Zt l ms).length ≤ l.length + YD ms := by
 induction ms with
 | nil => intro l _ _; simp [Zt, YD]
 | cons m ms ih =>
  intro l h hm
  have h1 := ih (l := takeN l m) (h.takeF (hm m (by simp))) fun x hx => hm x (List.mem_cons_of_mem _ hx)
  have h2 : (takeN l m).length ≤ l.length + (if m.kind = 4 then 0 else 1) := by
   by_cases h4 : m.kind = 4
   ·rw [if_pos h4]
    unfold takeN
    rw [if_pos h4]
    exact List.length_filter_le _ _
   ·rw [if_neg h4]; exact h.take_len m
  rw [ZcC]
  show (Zt (takeN l m) ms).length ≤ _
  omega
def Xt (f : Nat → Nat) : Nat → Nat
 | 0 => 0
 | n + 1 => Xt f n + f n
theorem Zfq {f g : Nat → Nat} : ∀ n, (∀ j, j < n → f j ≤ g j) → Xt f n ≤ Xt g n
 | 0, _ => Nat.le_refl _
 | n + 1, h => by have := Zfq n fun j hj => h j om9; have := h n om9; unfold Xt; omega
theorem ZdF (f g : Nat → Nat) : ∀ n, Xt (fun j => f j + g j) n = Xt f n + Xt g n
 | 0 => rfl
 | n + 1 => by have := ZdF f g n; simp only [Xt]; omega
theorem ZiK {f : Nat → Nat} {r : Nat} : ∀ n, (∀ j, f j ≤ 1) → (∀ j, j ≠ r → f j = 0) → Xt f n ≤ if r < n then 1 else 0
 | 0, _, _ => Nat.zero_le _
 | n + 1, h, h2 => by
  have ih := ZiK n h h2
  simp only [Xt]
  by_cases e : n = r
  ·have := h n
   rw [if_neg om9] at ih
   rw [if_pos om9]; omega
  ·have := h2 n e
   by_cases h3 : r < n
   ·rw [if_pos h3] at ih; rw [if_pos om9]; omega
   ·rw [if_neg h3] at ih; omega
theorem Zfr {f : Nat → Nat} : ∀ n, (∀ j, f j = 0) → Xt f n = 0
 | 0, _ => rfl
 | n + 1, h => by have := Zfr n h; have := h n; simp only [Xt]; omega
theorem Zfs {x : Seat} (hr : YB x.n.pivots x.n.kids.length = true) : ∀ (A : List Msg), (∀ m ∈ A, m.R) → Xt (fun j => YD (Zc (Zb l x j).s A)) x.n.kids.length ≤ YD A
 | [], _ => by rw [Zfr]; exact Nat.zero_le _; intro j; rfl
 | m :: A, h => by
  have ih := Zfs hr A fun y hy => h y (List.mem_cons_of_mem _ hy)
  have hR := h m (by simp)
  have e : ∀ j, YD (Zc (Zb l x j).s (m :: A)) = (if (m.clip (Zb l x j).s).2 = true ∧ ¬ m.kind = 4 then 1 else 0) + YD (Zc (Zb l x j).s A) := fun j => by
   rw [Xp]
   by_cases h1 : (m.clip (Zb l x j).s).2 = true
   ·rw [if_pos h1, ZcC, ZiI h1]
    by_cases h4 : m.kind = 4
    ·rw [if_pos h4, if_neg (fun h => h.2 h4)]
    ·rw [if_neg h4, if_pos ⟨h1, h4⟩]
   ·rw [if_neg h1, if_neg (fun h => h1 h.1)]; omega
  rw [show (fun j => YD (Zc (Zb l x j).s (m :: A))) = fun j => (if (m.clip (Zb l x j).s).2 = true ∧ ¬ m.kind = 4 then 1 else 0) + YD (Zc (Zb l x j).s A) from funext e, ZdF, ZcC]
  by_cases h4 : m.kind = 4
  ·rw [if_pos h4, Zfr _ fun j => if_neg fun h => h.2 h4]; omega
  ·rw [if_neg h4]
   have hrt := ZcA hr m.key
   have hsp : m.span = ⟨m.key, m.key.next, false⟩ := by unfold Msg.span; rw [if_neg h4]
   have hz : ∀ j, j < x.n.kids.length → j ≠ Ze x.n.pivots m.key → (m.clip (Zb l x j).s).2 = false := fun j hj hne => Jv.2 (YN.2 fun q => by
    rw [ZH, hsp, Zag (by have := hR.1.2.1; omega), Zbg hr hj]
    by_cases e : q = m.key
    ·rw [e, decide_eq_false hne]; simp
    ·simp [e])
   have h1 : Xt (fun j => if (m.clip (Zb l x j).s).2 = true ∧ ¬ m.kind = 4 then 1 else 0) x.n.kids.length ≤ Xt (fun j => if j = Ze x.n.pivots m.key then 1 else 0) x.n.kids.length := Zfq _ fun j hj => by
    by_cases e : j = Ze x.n.pivots m.key
    ·rw [if_pos e]; split <;> omega
    ·rw [if_neg (fun h => by rw [hz j hj e] at h; exact absurd h.1 (by simp))]; exact Nat.zero_le _
   have h2 := ZiK (f := fun j => if j = Ze x.n.pivots m.key then 1 else 0) (r := Ze x.n.pivots m.key) x.n.kids.length (fun j => by split <;> omega) fun j hj => if_neg hj
   rw [if_pos hrt] at h2
   omega
theorem ZiL {f : Seat → Nat} {g : Nat → Seat} (h : Seat → List Seat) : ∀ n, (((List.range n).map g).flatMap h).map f = ((List.range n).map fun j => (h (g j)).map f).flatten
 | n => by rw [List.flatMap_map, List.map_flatMap, List.flatMap_def]
theorem Zft (f : Nat → List Nat) : ∀ n, (((List.range n).map f).flatten).sum = Xt (fun j => (f j).sum) n
 | 0 => rfl
 | n + 1 => by rw [List.range_succ, List.map_append, List.flatten_append, List.sum_append_nat, Zft f n]; simp [Xt]
theorem Tree.pts_below (t : Tree c l ss) : ∀ (n : Nat) (x : Seat), x ∈ ss → x.n.level.toNat = n → ((JM l n x).map fun y => YD y.ms).sum ≤ YD x.ms + ((XD l n x).map fun y => YD y.n.msgs).sum := by
 intro n
 induction n with
 | zero => intro x _ _; simp [JM, XD]
 | succ n ih =>
  intro x hx hn
  have h0 : ¬ x.n.level = 0 := om9
  obtain ⟨h1, h2, h3, h4⟩ := Z5 (t.kids hx) h0
  rw [JM, XD, List.map_cons, List.sum_cons, h1]
  unfold Y8
  rw [ZiL, ZiL, Zft, Zft]
  have a1 : Xt (fun j => ((JM l n (Zb l x j)).map fun y => YD y.ms).sum) x.n.kids.length ≤ Xt (fun j => (YD (Zc (Zb l x j).s x.n.msgs) + YD (Zc (Zb l x j).s x.ms)) + ((XD l n (Zb l x j)).map fun y => YD y.n.msgs).sum) x.n.kids.length := Zfq _ fun j hj => by
   have ha := t.at hx h0 hj
   have := ih (Zb l x j) ha.1 om9
   rw [(t.kid_ms hx (t.rst x hx) j).1, ZoE] at this
   exact this
  rw [ZdF, ZdF] at a1
  have a2 := Zfs (l := l) h3 x.n.msgs (t.msgs hx).2.1
  have a3 := Zfs (l := l) h3 x.ms (t.fits x hx).2
  omega
theorem ZiM {f : Seat → List Pair} {g : Seat → Nat} : ∀ (T : List Seat), (∀ x ∈ T, (f x).length ≤ g x) → (T.flatMap f).length ≤ (T.map g).sum
 | [], _ => Nat.le_refl _
 | x :: T, h => by
  have := h x (by simp)
  have := ZiM T fun y hy => h y (List.mem_cons_of_mem _ hy)
  rw [List.flatMap_cons, List.length_append, List.map_cons, List.sum_cons]; omega
theorem ZiN {f : Seat → Nat} {b : Nat} : ∀ (T : List Seat), (T.map fun x => b + f x).sum = T.length * b + (T.map f).sum
 | [] => by simp
 | x :: T => by
  rw [List.map_cons, List.sum_cons, ZiN T, List.map_cons, List.sum_cons, List.length_cons, Nat.succ_mul]; omega
theorem ZiO {f : Seat → Nat} {b : Nat} : ∀ (T : List Seat), (∀ x ∈ T, f x ≤ b) → (T.map f).sum ≤ T.length * b
 | [], _ => by simp
 | x :: T, h => by
  have := h x (by simp)
  have := ZiO T fun y hy => h y (List.mem_cons_of_mem _ hy)
  rw [List.map_cons, List.sum_cons, List.length_cons, Nat.succ_mul]; omega
theorem Tree.map_pts (t : Tree c l ss) : (Zl l).length ≤ l.length * 1088 := by
 have hp := t.pre_perm (Zg l 0).n.level.toNat [Zg l 0] ss (by exact t.fix) (fun x hx => hx) (fun x hx => by simp at hx; rw [hx])
 rw [List.flatMap_cons, List.flatMap_nil, List.append_nil] at hp
 rw [Jx t.sts]
 have h1 := ZiM (f := YH) (g := fun x => 64 + YD x.ms) (ZE ss) fun x hx => by
  have hx := (List.mem_filter.1 hx).1
  have g1 := t.rows hx
  have g2 : (x.n.rows.filter fun p => x.s.has p.key).length ≤ x.n.rows.length := List.length_filter_le _ _
  have g3 := t.rows_len hx
  have g5 := ZiJ x.s x.ms
  have g6 := ZoG (l := x.n.rows.filter fun p => x.s.has p.key) (ms := Zc x.s x.ms) (g1.filter _) (Ziw (by have := (t.fits x hx).1.1; omega) fun m hm => Y1 ((t.fits x hx).2 m hm))
  unfold YH
  omega
 rw [ZiN] at h1
 have h2 := t.pts_below _ (Zg l 0) t.root rfl
 rw [← t.leaves] at h2
 have h3 : ((XD l (Zg l 0).n.level.toNat (Zg l 0)).map fun y => YD y.n.msgs).sum = (ss.map fun y => YD y.n.msgs).sum := ((hp.map _).sum_nat).symm
 have h4 := ZiO (f := fun y => YD y.n.msgs) (b := 1024) ss fun x hx => Nat.le_trans (ZoF _) (t.msgs_len hx)
 have h5 : YD (Zg l 0).ms = 0 := rfl
 have h6 : (ZE ss).length ≤ ss.length := List.length_filter_le _ _
 have h7 := t.len
 have h8 : (ZE ss).length * 64 ≤ ss.length * 64 := Nat.mul_le_mul_right 64 h6
 rw [h7] at h8 h4
 omega
theorem Tree.map_len (t : Tree c l ss) : (Zl l).length ≤ 10246400 := by
 have := t.map_pts
 have := t.sml.1
 omega
theorem ZiP {M : List Pair} (hM : Srt M) (p : Str → Bool) (h : Str) : M.filter (fun a => p a.key) = M.filter (fun a => p a.key && a.key.lt h) ++ M.filter (fun a => p a.key && !a.key.lt h) := by
 induction M with
 | nil => rfl
 | cons a M ih =>
  have hp := List.pairwise_cons.1 hM
  rw [List.filter_cons, List.filter_cons, List.filter_cons, ih hp.2]
  cases hpa : p a.key
  ·simp
  ·cases hl : a.key.lt h
   ·have : M.filter (fun a => p a.key && a.key.lt h) = [] := List.filter_eq_nil_iff.2 fun b hb hh => by
     have hab := hp.1 b hb
     simp only [Bool.and_eq_true] at hh
     have := Str.lt_trans hab hh.2
     rw [hl] at this; cases this
    rw [this]; simp
   ·simp
structure SwOk (l : List Nd) (x : Span) (n : Int) (rest : Span) (out : List Pair) : Prop where
 eq : out ++ (Zl l).filter (fun p => rest.has p.key) = (Zl l).filter (fun p => x.has p.key)
 len : out = [] ∨ (out.length : Int) < n
theorem SwOk.init (l : List Nd) (x : Span) (n : Int) : SwOk l x n x.norm [] := ⟨by
 rw [List.nil_append]; exact List.filter_congr fun p _ => ZaP x p.key, .inl rfl⟩
theorem SwOk.empty {x rest : Span} {n : Int} {out : List Pair} (h : SwOk l x n rest out) (he : rest.empty = true) : out = Ji (Zl l) x n := by
 have h1 := h.eq
 rw [List.filter_eq_nil_iff.2 (fun p _ => by rw [YN.1 he]; simp), List.append_nil] at h1
 unfold Ji
 rw [← h1]
 rcases h.len with h2 | h2
 ·rw [h2]; simp
 ·exact (List.take_of_length_le om9).symm
theorem SwOk.full {x rest : Span} {n : Int} {out : List Pair} (h : SwOk l x n rest out) (hn : n ≤ (out.length : Int)) : out = Ji (Zl l) x n := by
 have h2 : out = [] := h.len.resolve_right om9
 subst h2
 unfold Ji
 rw [show n.toNat = 0 by simp at hn; omega]; rfl
structure Leg (l : List Nd) (z : Seat) (rest s : Span) : Prop where
 se : s = rest.meet z.s
 lo : s.has rest.lo = true
theorem Tree.leg (t : Tree c l ss) {rest : Span} (he : rest.empty = false) : Leg l (Zn l rest.lo) rest (rest.meet (Zn l rest.lo).s) := ⟨rfl, by
 rw [ZH, (t.leafOk rest.lo).has, Bool.and_true]
 have := Span.empty_eq rest
 rw [he] at this; simpa using this⟩
theorem Leg.view (t : Tree c l ss) {z : Seat} (hz : z ∈ ss) (h0 : z.n.level = 0) {rest s : Span} (g : Leg l z rest s) : Zt (z.n.rows.filter fun p => s.has p.key) (Zc s z.ms) = (Zl l).filter (fun p => s.has p.key) := by
 have hsz : ∀ k, s.has k = true → z.s.has k = true := fun k hk => by rw [g.se, ZH, Bool.and_eq_true] at hk; exact hk.2
 have e : (Zl l).filter (fun p => s.has p.key) = ((Zl l).filter (fun p => z.s.has p.key)).filter (fun p => s.has p.key) := by
  rw [List.filter_filter]
  refine List.filter_congr fun p _ => ?_
  cases hs : s.has p.key
  ·rfl
  ·rw [hsz _ hs]; rfl
 rw [e, t.map_view hz h0, t.view hz, List.filter_filter, Zbe (t.rows hz).srt fun m hm => by have := (Y1 ((t.fits z hz).2 m hm)).1; omega]
 refine List.filter_congr fun p _ => ?_
 cases hs : s.has p.key
 ·rfl
 ·rw [hsz _ hs]; rfl
theorem Leg.nonempty {z : Seat} {rest s : Span} (g : Leg l z rest s) : s.empty = false := by
 cases h : s.empty
 ·rfl
 ·have := YN.1 h rest.lo; rw [g.lo] at this; cases this
theorem ZoH {s : Span} {a b k : Str} (ha : s.has a = true) (hb : s.has b = true) (h1 : k.lt a = false) (h2 : b.lt k = false) : s.has k = true := by
 unfold Span.has at *
 simp only [Bool.and_eq_true, Bool.not_eq_true', Bool.or_eq_true] at *
 refine ⟨Str.le_trans ha.1 h1, hb.2.imp id fun h => Str.lt_of_le_of_lt h2 h⟩
theorem Leg.fin {z : Seat} {rest s : Span} (g : Leg l z rest s) (ho : s.opn = false) : rest.lo.lt s.hi = true := by
 have h := g.lo
 unfold Span.has at h
 rw [ho] at h
 simp only [Bool.false_or, Bool.and_eq_true] at h
 exact h.2
theorem Leg.split (t : Tree c l ss) {z : Seat} {rest s : Span} (g : Leg l z rest s) (ho : s.opn = false) : (Zl l).filter (fun p => rest.has p.key) = (Zl l).filter (fun p => s.has p.key) ++ (Zl l).filter (fun p => (rest.meet ⟨s.hi, Str.nil, true⟩).has p.key) := by
 rw [ZiP t.srt (fun k => rest.has k) s.hi]
 congr 1
 ·refine List.filter_congr fun p _ => ?_
  have hr : s.has p.key = true → rest.has p.key = true := fun hk => by rw [g.se, ZH, Bool.and_eq_true] at hk; exact hk.1
  have hl := g.lo
  cases hs : s.has p.key
  ·cases hrk : rest.has p.key
   ·rfl
   ·cases hlt : p.key.lt s.hi
    ·rfl
    ·exfalso
     have h3 : s.has p.key = true := by
      unfold Span.has at *
      rw [ho] at *
      simp only [Bool.false_or, Bool.and_eq_true, Bool.not_eq_true', Bool.or_eq_true] at *
      exact ⟨Str.le_trans hl.1 hrk.1, hlt⟩
     rw [hs] at h3; cases h3
  ·rw [hr hs]
   unfold Span.has at hs
   rw [ho] at hs
   simp only [Bool.false_or, Bool.and_eq_true] at hs
   rw [hs.2]; rfl
 ·refine List.filter_congr fun p _ => ?_
  rw [ZH]
  congr 1
  show _ = (!p.key.lt s.hi && (true || _))
  simp
theorem Leg.open (t : Tree c l ss) {z : Seat} {rest s : Span} (g : Leg l z rest s) (ho : s.opn = true) : (Zl l).filter (fun p => rest.has p.key) = (Zl l).filter (fun p => s.has p.key) := by
 refine List.filter_congr fun p _ => ?_
 have hl := g.lo
 cases hs : s.has p.key
 ·cases hrk : rest.has p.key
  ·rfl
  ·exfalso
   have h3 : s.has p.key = true := by
    unfold Span.has at *
    rw [ho] at *
    simp only [Bool.true_or, Bool.and_true, Bool.and_eq_true, Bool.not_eq_true'] at *
    exact Str.le_trans hl hrk.1
   rw [hs] at h3; cases h3
 ·rw [g.se, ZH, Bool.and_eq_true] at hs
  exact hs.1
theorem ZiQ {A : List Pair} {n : Int} {k : Nat} (hn : 0 < n) : A.take (Xs A n) = A.take n.toNat := by
 unfold Xs
 by_cases h : (A.length : Int) ≤ n
 ·rw [List.take_of_length_le om9, List.take_of_length_le om9]
 ·congr 1; omega
theorem SwOk.last {x rest : Span} {n : Int} {out V R : List Pair} (h : SwOk l x n rest out) (hn : ¬ n ≤ (out.length : Int)) (hV : (Zl l).filter (fun p => rest.has p.key) = V ++ R) (hl : R = [] ∨ n - (out.length : Int) ≤ (V.length : Int)) :
  out ++ V.take (Xs V (n - (out.length : Int))) = Ji (Zl l) x n := by
 unfold Ji
 rw [← h.eq, hV, ZiQ (k := 0) om9, List.take_append, List.take_of_length_le (by omega : out.length ≤ n.toNat), show (n - (out.length : Int)).toNat = n.toNat - out.length by omega]
 congr 1
 rcases hl with rfl | hl
 ·rw [List.append_nil]
 ·rw [List.take_append_of_le_length om9]
theorem SwOk.next {x rest r2 : Span} {n : Int} {out V : List Pair} (h : SwOk l x n rest out) (hn : ¬ n ≤ (out.length : Int)) (hV : (Zl l).filter (fun p => rest.has p.key) = V ++ (Zl l).filter (fun p => r2.has p.key)) (hl : ¬ n - (out.length : Int) ≤ (V.length : Int)) :
  SwOk l x n r2 (out ++ V) ∧ V.take (Xs V (n - (out.length : Int))) = V :=
 ⟨⟨by rw [List.append_assoc, ← hV]; exact h.eq, .inr (by rw [List.length_append]; omega)⟩, by rw [ZiQ (k := 0) om9]; exact List.take_of_length_le om9⟩
def ZdG (ss : List Seat) (rest : Span) : Nat := if rest.empty = true then 0 else 1 + ((ZE ss).filter fun y => y.s.opn || rest.lo.lt y.s.hi).length
theorem Leg.ahead {z : Seat} (hz : z ∈ ss) (h0 : z.n.level = 0) {rest s : Span} (he : rest.empty = false) (g : Leg l z rest s) (ho : s.opn = false) : ZdG ss (rest.meet ⟨s.hi, Str.nil, true⟩) < ZdG ss rest := by
 have hfin := g.fin ho
 unfold ZdG
 rw [he, if_neg (by simp : ¬ false = true)]
 split
 ·omega
 ·rename_i hne
  generalize hr : rest.meet ⟨s.hi, Str.nil, true⟩ = r2 at hne ⊢
  have hr2 : r2.has r2.lo = true := by have := Span.empty_eq r2; cases h : r2.empty; rw [h] at this; simpa using this; exact absurd h hne
  have hm : rest.has r2.lo = true ∧ r2.lo.lt s.hi = false := by
   have h1 : (rest.meet ⟨s.hi, Str.nil, true⟩).has r2.lo = true := by rw [hr]; exact hr2
   rw [ZH, Bool.and_eq_true] at h1
   refine ⟨h1.1, ?_⟩
   have h2 := h1.2
   unfold Span.has at h2
   simp only [Bool.and_eq_true, Bool.not_eq_true'] at h2
   exact h2.1
  have hrl : rest.has rest.lo = true := by have := g.lo; rw [g.se, ZH, Bool.and_eq_true] at this; exact this.1
  have hzl : z.s.has rest.lo = true := by have := g.lo; rw [g.se, ZH, Bool.and_eq_true] at this; exact this.2
  have hlt : rest.lo.lt r2.lo = true := Str.lt_of_lt_of_le hfin hm.2
  have hzc : (z.s.opn || rest.lo.lt z.s.hi) = true := by
   unfold Span.has at hzl; rw [Bool.and_eq_true] at hzl; exact hzl.2
  have hzn : (z.s.opn || r2.lo.lt z.s.hi) = false := by
   cases h : (z.s.opn || r2.lo.lt z.s.hi)
   ·rfl
   ·exfalso
    have h1 : rest.has s.hi = true := ZoH hrl hm.1 (Str.lt_asymm hfin) hm.2
    have h2 : z.s.has s.hi = true := by
     have h5 := hzl
     unfold Span.has at h5 ⊢
     simp only [Bool.and_eq_true, Bool.not_eq_true', Bool.or_eq_true] at h5 h ⊢
     exact ⟨Str.le_trans h5.1 (Str.lt_asymm hfin), h.imp id fun h => Str.lt_of_le_of_lt hm.2 h⟩
    have h3 : s.has s.hi = true := by rw [g.se, ZH, ← g.se, h1, h2]; rfl
    unfold Span.has at h3
    rw [ho, Str.lt_irrefl] at h3
    simp at h3
  have hmono : ∀ y : Seat, (y.s.opn || r2.lo.lt y.s.hi) = true → (y.s.opn || rest.lo.lt y.s.hi) = true := fun y h => by
   rw [Bool.or_eq_true] at h ⊢
   exact h.imp id fun h => Str.lt_trans hlt h
  have hzm : z ∈ ZE ss := List.mem_filter.2 ⟨hz, decide_eq_true h0⟩
  have key : ∀ T : List Seat, z ∈ T → (T.filter fun y => y.s.opn || r2.lo.lt y.s.hi).length < (T.filter fun y => y.s.opn || rest.lo.lt y.s.hi).length := by
   intro T
   induction T with
   | nil => intro h; cases h
   | cons y T ih =>
    intro h
    have hle : (T.filter fun y => y.s.opn || r2.lo.lt y.s.hi).length ≤ (T.filter fun y => y.s.opn || rest.lo.lt y.s.hi).length := by
     rw [← List.countP_eq_length_filter, ← List.countP_eq_length_filter]
     exact List.countP_mono_left fun y _ h => hmono y h
    rw [List.filter_cons, List.filter_cons]
    rcases List.mem_cons.1 h with rfl | h
    ·rw [hzn, hzc]; simp; omega
    ·have ih := ih h
     cases ha : (y.s.opn || r2.lo.lt y.s.hi)
     ·simp only [Bool.false_eq_true, if_false]
      split
      ·simp; omega
      ·exact ih
     ·rw [hmono y ha]; simp; omega
  have := key _ hzm
  omega
theorem SwOk.olen (t : Tree c l ss) {x rest : Span} {n : Int} {out : List Pair} (h : SwOk l x n rest out) : out.length ≤ 10246400 := by
 have h1 := congrArg List.length h.eq
 have h2 := List.length_filter_le (fun p : Pair => x.has p.key) (Zl l)
 have h3 := t.map_len
 rw [List.length_append] at h1
 omega
theorem Leg.part (t : Tree c l ss) {z : Seat} (hz : z ∈ ss) (h0 : z.n.level = 0) {rest s : Span} (g : Leg l z rest s) (b : Str) (n : Int) :
  Zbj z.n.rows s z.ms b n = (((Zl l).filter (fun p => s.has p.key)).take (Xs ((Zl l).filter (fun p => s.has p.key)) n), (if s.opn = true then Str.nil else s.hi), s.opn || decide (n ≤ (((Zl l).filter (fun p => s.has p.key)).length : Int))) := by
 rw [Zfp g.nonempty rfl rfl, g.view t hz h0]
theorem SwOk.over (t : Tree c l ss) {x rest s : Span} {z : Seat} {n : Int} {out : List Pair} (h : SwOk l x n rest out) (hn : ¬ n ≤ (out.length : Int)) (g : Leg l z rest s) (ho : (s.opn || decide (n - (out.length : Int) ≤ (((Zl l).filter (fun p => s.has p.key)).length : Int))) = true) :
  out ++ ((Zl l).filter (fun p => s.has p.key)).take (Xs ((Zl l).filter (fun p => s.has p.key)) (n - (out.length : Int))) = Ji (Zl l) x n := by
 cases hs : s.opn
 ·rw [hs, Bool.false_or, decide_eq_true_eq] at ho
  exact h.last hn (g.split t hs) (.inr ho)
 ·exact h.last hn (R := []) (by rw [List.append_nil]; exact g.open t hs) (.inl rfl)
theorem SwOk.go (t : Tree c l ss) {x rest s : Span} {z : Seat} {n : Int} {out : List Pair} (h : SwOk l x n rest out) (hn : ¬ n ≤ (out.length : Int)) (g : Leg l z rest s) (ho : (s.opn || decide (n - (out.length : Int) ≤ (((Zl l).filter (fun p => s.has p.key)).length : Int))) = false) :
  s.opn = false ∧ SwOk l x n (rest.meet ⟨s.hi, Str.nil, true⟩) (out ++ (Zl l).filter (fun p => s.has p.key)) ∧ ((Zl l).filter (fun p => s.has p.key)).take (Xs ((Zl l).filter (fun p => s.has p.key)) (n - (out.length : Int))) = (Zl l).filter (fun p => s.has p.key) := by
 rw [Bool.or_eq_false_iff, decide_eq_false_iff_not] at ho
 exact ⟨ho.1, h.next hn (g.split t ho.1) ho.2⟩
theorem ZoI (t : Tree c l ss) (k : Str) : Zn l k ∈ ss ∧ (Zn l k).n.level = 0 := ⟨(t.leafOk k).mem, (t.leafOk k).lvl⟩
theorem ZoJ {M : List Pair} {n : Int} (h : (M.length : Int) ≤ n) : Ji M Span.all n = M := by
 unfold Ji
 rw [List.filter_eq_self.2 fun p _ => ZaF p.key, List.take_of_length_le om9]
def J6 (n : Nd) : Seat := ⟨n, Span.all, []⟩
theorem ZiR {n : Nd} (hs : n.slot = 0) (hseen : n.seen ≤ 1099511627776) : SlotsP [n] := fun i h => by
 have : i = 0 := by simp at h; omega
 subst this
 exact ⟨by simpa using hs, hseen⟩
theorem ZiS {n : Nd} (h0 : n.level = 0) (hs : n.slot = 0) (hseen : n.seen ≤ 1099511627776) : JJ [n] 0 = some [J6 n] := by
 have hf : Zq [n] 0 = (n, true) := Zfk (ZiR hs hseen) (i := 0) (by simp)
 unfold JJ
 rw [if_pos (by rw [hf])]
 have hr : Zg [n] 0 = J6 n := by unfold Zg J6; rw [hf]
 rw [hr]
 show X4 [n] (2 + 1) 0 [J6 n] = _
 rw [Zfe (l := [n]) (f := 2) (i := 0) (out := [J6 n]) (ks := []) (by simp) (by simp) (ZaS h0)]
 exact Zfd (l := [n]) (f := 1) (i := 1) (out := [J6 n]) (by simp)
theorem ZiT {c : Cfg} {n : Nd} (hc : CfgR c) (h0 : n.level = 0) (hs : n.slot = 0) (hseen : n.seen ≤ 1099511627776) (hR : n.R c.fan c.leaf c.bud) (ht : n.top = true) (hS : NdS n) : Tree c [n] [J6 n] := by
 have hl := hR.2.2.2
 rw [if_pos h0] at hl
 have ht2 := hR.2.1 ht
 have hz := hl.1
 have hk := hc.2.2.2.1
 refine ⟨hc, by simp, ⟨by simp, fun m hm => by simp at hm; subst hm; exact hS⟩, ZiR hs hseen, ZiS h0 hs hseen, ⟨⟨rfl, fun i h => ?_⟩, fun i h => ?_, by simp; omega⟩, fun i h => ?_⟩
 ·have : i = 0 := by simp at h; omega
  subst this
  simp [Zbf, J6]
 ·have : i = 0 := by simp at h; omega
  subst this
  rw [Zfj (by simp)]
  exact ht2.2
 ·have : i = 0 := by simp at h; omega
  subst this
  refine ⟨hR, ⟨⟨ht, ht2.1⟩, fun i h => ZaF _, fun i h => ?_, fun i h => ?_⟩, by show n.slot < c.slots; omega, fun j h => ?_⟩
  ·have h : i < n.pivots.length := h
   omega
  ·have h : i < n.msgs.length := h
   omega
  ·have h : j < ([] : List Msg).length := h
   simp at h
theorem ZiU {n : Nd} (h0 : n.level = 0) (hs : n.slot = 0) (hseen : n.seen ≤ 1099511627776) : Zl [n] = n.rows := by
 rw [Jx (ZiS h0 hs hseen)]
 have e : ZE [J6 n] = [J6 n] := List.filter_eq_self.2 fun x hx => by simp at hx; subst hx; exact decide_eq_true h0
 rw [e, List.flatMap_cons, List.flatMap_nil, List.append_nil]
 show Zt (n.rows.filter fun p => Span.all.has p.key) (Zc Span.all []) = n.rows
 rw [List.filter_eq_self.2 fun p _ => ZaF p.key]; rfl
def YV (l : List Nd) : List (Int × Nd) := l.foldl (fun m n => XS m n.slot n) []
theorem ZiV {l : List Nd} {i : Nat} (h : i < l.length) : YV (l.take (i + 1)) = XS (YV (l.take i)) l[i].slot l[i] := by
 unfold YV; rw [List.take_succ_eq_append_getElem h, List.foldl_append]; rfl
theorem Zfu (l : List Nd) (k : Int) : ∀ i, i ≤ l.length → ZP (YV (l.take i)) k = (atS (l.take i) k).getLast?
 | 0, _ => rfl
 | i + 1, h => by
  rw [ZiV om9, Ze9, Zfu l k i om9]
  by_cases e : l[i].slot = k
  ·rw [if_pos e.symm, Zij om9 e]; simp
  ·rw [if_neg (fun h => e h.symm), Zik om9 e]
section
variable {c : Cfg} {l : List Nd} {ss : List Seat}
theorem ZiW (h : SlotsP l) (k : Int) : ZP (YV l) k = if 0 ≤ k ∧ k < l.length then some (Za l k) else none := by
 have h1 := Zfu l k l.length (Nat.le_refl _)
 rw [List.take_length] at h1
 rw [h1, ZdB h]
 by_cases hk : 0 ≤ k ∧ k < l.length
 ·rw [if_pos hk, dif_pos ⟨hk.1, hk.2, om9⟩]
  obtain ⟨j, rfl⟩ : ∃ j : Nat, k = j := ⟨k.toNat, om9⟩
  rw [Ju om9]; simp
 ·rw [if_neg hk, dif_neg om9]; rfl
theorem Tree.inMap (t : Tree c l ss) {x : Seat} (hx : x ∈ ss) : ZP (YV l) x.n.slot = some x.n := by
 obtain ⟨h1, h2, _⟩ := t.nd hx
 rw [ZiW t.slot, if_pos h1, ← h2]
structure Free (l : List Nd) (n : Nat) (x : Seat) (mt : List (Int × Bool)) : Prop where
 none : ∀ y ∈ XD l n x, ZP mt y.n.slot = none
 nd : ((XD l n x).map fun y : Seat => y.n.slot).Nodup
structure FreeK (l : List Nd) (n : Nat) (x : Seat) (j : Nat) (mt : List (Int × Bool)) : Prop where
 none : ∀ y ∈ ((Zj l x).drop j).flatMap (XD l n), ZP mt y.n.slot = none
 nd : ((((Zj l x).drop j).flatMap (XD l n)).map fun y : Seat => y.n.slot).Nodup
theorem Tree.ms_small (t : Tree c l ss) : ∀ x ∈ ss, x.ms.length ≤ 1024 * ((Zg l 0).n.level - x.n.level).toNat ∧ x.n.level ≤ (Zg l 0).n.level := by
 refine t.ind ⟨Nat.zero_le _, Int.le_refl _⟩ fun x hx h0 ih j hj => ?_
 have ha := t.at hx h0 hj
 have hms := congrArg List.length (t.kid_ms hx (t.rst x hx) j).1
 rw [List.length_append] at hms
 have c1 : (Zc (Zb l x j).s x.n.msgs).length ≤ x.n.msgs.length := Za7
 have c2 : (Zc (Zb l x j).s x.ms).length ≤ x.ms.length := Za7
 have c3 := t.msgs_len hx
 have : ((Zg l 0).n.level - (Zb l x j).n.level).toNat = ((Zg l 0).n.level - x.n.level).toNat + 1 := om9
 rw [this]
 omega
theorem Tree.kidsD_at (t : Tree c l ss) {x : Seat} (hx : x ∈ ss) (h0 : ¬ x.n.level = 0) : (Zj l x).length = x.n.kids.length ∧ ∀ j (h : j < (Zj l x).length), (Zj l x)[j] = Zb l x j := by
 have h1 := (Z5 (t.kids hx) h0).1
 refine ⟨by rw [h1, Zai], fun j h => ?_⟩
 simp only [h1, Y8, List.getElem_map, List.getElem_range]
end
section
variable {α : Type} {E : Env} {f : Fr} {G : GH} {M Mk Ms Mr : MH} {ops rest : List Oper} {q : Bool} {K : Kt} {d : Nat} {ty : TypeId} {pos : String} {aft : Array Edge} {t et : TypeId} {x y kk : Operand} {b : Nat} {k : Int} {m : List (Int × α)} {V : VEnc α}
theorem W.lookG {z0 mv : Value} {z : α} (ht : J4 E.P t = some et) (hz : zvK E.P et = some z0) (hzz : V.R G z0 z) (hm : MpG V G mv m) (hx : ev f x = mv) (hk : ev f kk = .int .i64 k)
  (h : ∀ v, V.R G v ((ZP m k).getD z) → W E ops.toArray q rest (upd f d (.tuple #[v, .bool (ZP m k).isSome])) G M K) (hd : Nat.blt d E.n = true := by rfl) :
  W E ops.toArray q (⟨some d, .lookup t x kk true, ty, pos, aft, none⟩ :: rest) f G M K := by
 obtain ⟨v, h1, h2⟩ := Zn1 (E := E) (f := f) (M := M) (d := d) (ty := ty) (pos := pos) (aft := aft) (ok := true) ht hz hzz hm hx hk
 exact W.ok h2 (h v h1) hd
theorem W.lookO {z0 : Value} {z : α} (ht : J4 E.P t = some et) (hz : zvK E.P et = some z0) (hzz : V.R G z0 z) (hx : ev f x = .map (some b)) (hk : ev f kk = .int .i64 k) (hm : MpR V b G m Ms) (hp : (Ms ++ Mr).Perm M)
  (h : ∀ v, V.R G v ((ZP m k).getD z) → W E ops.toArray q rest (upd f d v) G M K) (hd : Nat.blt d E.n = true := by rfl) :
  W E ops.toArray q (⟨some d, .lookup t x kk false, ty, pos, aft, none⟩ :: rest) f G M K := by
 obtain ⟨v, h1, h2⟩ := Zn0 (E := E) (f := f) (M := M) (d := d) (ty := ty) (pos := pos) (aft := aft) (ok := false) ht hz hzz hx hk hm hp
 exact W.ok h2 (h v h1) hd
end
theorem ZoK {l : List Nd} {x : Seat} (h : (Z4 l x).isSome = true) : Z4 l x = some (Zj l x) := by
 unfold Zj
 cases e : Z4 l x with
 | none => rw [e] at h; cases h
 | some y => rfl
theorem ZoL {l : List Nd} {x y : Seat} (h : (Z4 l x).isSome = true) (hy : y ∈ Zj l x) : y.n.level < x.n.level := by
 by_cases h0 : x.n.level = 0
 ·rw [Xq h0] at hy; cases hy
 ·obtain ⟨h1, h2, h3, h4⟩ := Z5 h h0
  rw [h1] at hy
  obtain ⟨j, hj, rfl⟩ := List.mem_map.1 hy
  have := h4 j (List.mem_range.1 hj)
  unfold XC at this
  rw [Bool.and_eq_true, decide_eq_true_eq] at this
  have e : (Zb l x j).n.level = x.n.level - 1 := this.2
  omega
theorem ZoM {l : List Nd} {root : Int} {T : List Seat} (h1 : (Zq l root).2 = true) (h2 : T = Zg l root :: T.flatMap (Zj l)) (h3 : ∀ x ∈ T, (Z4 l x).isSome = true) (h4 : T.length ≤ l.length) : JJ l root = some T := by
 have key : ∀ (d i f : Nat), i + d = T.length → d < f → i ≤ (Zg l root :: (T.take i).flatMap (Zj l)).length → X4 l f i (Zg l root :: (T.take i).flatMap (Zj l)) = some T := by
  intro d
  induction d with
  | zero =>
   intro i f hi hf hl
   rw [List.take_of_length_le om9, ← h2]
   obtain ⟨f, rfl⟩ : ∃ q, f = q + 1 := ⟨f - 1, om9⟩
   exact Zfd om9
  | succ d ih =>
   intro i f hi hf hl
   obtain ⟨f, rfl⟩ : ∃ q, f = q + 1 := ⟨f - 1, om9⟩
   have hT : T = (Zg l root :: (T.take i).flatMap (Zj l)) ++ (T.drop i).flatMap (Zj l) := by
    rw [List.cons_append, ← List.flatMap_append, List.take_append_drop]; exact h2
   obtain ⟨O, hO⟩ : ∃ O, O = Zg l root :: (T.take i).flatMap (Zj l) := ⟨_, rfl⟩
   rw [← hO] at hl hT ⊢
   have hTl := congrArg List.length hT
   rw [List.length_append] at hTl
   by_cases hlt : i < O.length
   ·have e : O[i] = T[i]'om9 := by
     have h5 := List.getElem_of_eq hT (show i < T.length by omega)
     rw [h5, List.getElem_append_left hlt]
    have hk : Z4 l O[i] = some (Zj l (T[i]'om9)) := by rw [e]; exact ZoK (h3 _ (List.getElem_mem _))
    rw [Zfe hlt om9 hk]
    have e2 : O ++ Zj l (T[i]'om9) = Zg l root :: (T.take (i + 1)).flatMap (Zj l) := by
     rw [hO, List.take_succ_eq_append_getElem om9, List.flatMap_append]; simp
    rw [e2]
    exact ih (i + 1) f om9 om9 (by rw [← e2, List.length_append]; omega)
   ·exfalso
    have hd : T.drop i = (T.drop i).flatMap (Zj l) := by
     have h5 := congrArg (List.drop i) hT
     rw [List.drop_append, List.drop_of_length_le (l := O) om9, List.nil_append, show i - O.length = 0 by omega, List.drop_zero] at h5
     exact h5
    have h6 := Zfn hd fun x hx y hy => ZoL (h3 x (List.mem_of_mem_drop hx)) hy
    have h7 := congrArg List.length h6
    rw [List.length_drop] at h7
    simp at h7
    omega
 unfold JJ
 rw [if_pos h1]
 have := key T.length 0 (l.length + 2) om9 om9 (Nat.zero_le _)
 simpa using this
abbrev Key9 := Int × Int × Int
def Seat.key (x : Seat) : Key9 := (x.n.slot, x.n.level, x.n.right)
def LkK : List Key9 → Prop
 | [] => True
 | [x] => x.2.2 = -1
 | x :: y :: T => x.2.2 = (if y.2.1 = x.2.1 then y.1 else -1) ∧ LkK (y :: T)
theorem ZiX (x : Seat) (L : List Seat) (i : Nat) : ZaT (x :: L) (i + 1) = ZaT L i := by
 unfold ZaT
 simp
theorem Zbk : ∀ ss, LinkedP ss ↔ LkK (ss.map Seat.key)
 | [] => ⟨fun _ => trivial, fun _ i h => absurd h (Nat.not_lt_zero _)⟩
 | [x] => by
  constructor
  ·intro h
   have := h 0 (by simp)
   rw [Zfj (by simp)] at this
   exact this
  ·intro h i hi
   have : i = 0 := by simp at hi; exact hi
   subst this
   rw [Zfj (by simp)]
   exact h
 | x :: y :: T => by
  have ih := Zbk (y :: T)
  have e : ZaT (x :: y :: T) 0 = if y.n.level = x.n.level then y.n.slot else -1 := by
   unfold ZaT
   simp
  constructor
  ·intro h
   refine ⟨?_, ih.1 fun i hi => ?_⟩
   ·have := h 0 (by simp)
    rw [e] at this
    exact this
   ·have := h (i + 1) (by simpa using hi)
    rw [ZiX] at this
    exact this
  ·intro h i hi
   cases i with
   | zero => rw [e]; exact h.1
   | succ i => rw [ZiX]; exact ih.2 h.2 i (by simpa using hi)
theorem Zfv {s v r y : Int} : ∀ (P S : List Key9), LkK (P ++ (s, v, r) :: S) → LkK (P ++ (s, v, y) :: (y, v, r) :: S)
 | [], [], h => ⟨(if_pos rfl).symm, h⟩
 | [], q :: S, h => ⟨(if_pos rfl).symm, h.1, h.2⟩
 | [p], S, h => by
  have h : p.2.2 = (if v = p.2.1 then s else -1) ∧ LkK ([] ++ (s, v, r) :: S) := h
  exact ⟨h.1, Zfv [] S h.2⟩
 | p :: q :: P, S, h => by
  have h : p.2.2 = (if q.2.1 = p.2.1 then q.1 else -1) ∧ LkK ((q :: P) ++ (s, v, r) :: S) := h
  exact ⟨h.1, Zfv (q :: P) S h.2⟩
theorem ZoN {s s' v r : Int} : ∀ (S : List Key9), LkK ((s, v, r) :: S) → LkK ((s', v, r) :: S)
 | [], h => h
 | q :: S, h => ⟨h.1, h.2⟩
theorem ZoO {s v x y : Int} {S : List Key9} (h : LkK ((s, v, -1) :: S)) : LkK ((s, v + 1, -1) :: (x, v, y) :: (y, v, -1) :: S) :=
 ⟨(if_neg (by show ¬ v = v + 1; omega)).symm, (if_pos rfl).symm, ZoN S h⟩
theorem ZoP {l : List Nd} {T : List Seat} (hs : SlotsP l) (hp : (T.map fun x : Seat => x.n.slot).Perm (l.map fun n : Nd => n.slot)) : OnceP l T := by
 refine ⟨by simpa using hp.length_eq.symm, fun i h => ?_⟩
 have h1 := (List.Perm.filter (fun q : Int => decide (q = l[i].slot)) hp).length_eq
 rw [ZdC, ZdC, List.length_map, List.length_map] at h1
 have h2 : (l.filter fun n => decide (n.slot = l[i].slot)).length = 1 := by
  have := ZdB hs l[i].slot
  unfold atS at this
  rw [this, (hs i h).1, dif_pos ⟨om9, om9, om9⟩]
  rfl
 rw [← h2, ← h1]; rfl
theorem ZoQ {l : List Nd} (hs : SlotsP l) : (l.map fun n : Nd => n.slot).Nodup := by
 refine List.pairwise_iff_getElem.2 fun i j hi hj hij he => ?_
 rw [List.getElem_map, List.getElem_map] at he
 have h3 := (hs i (by simpa using hi)).1
 have h4 := (hs j (by simpa using hj)).1
 omega
variable {c : Cfg} {l : List Nd} {ss : List Seat}
theorem Tree.perm_s (t : Tree c l ss) : (ss.map fun x : Seat => x.n.slot).Perm (l.map fun n : Nd => n.slot) := by
 have := t.perm.map fun n : Nd => n.slot
 rwa [List.map_map] at this
theorem Tree.nodup_s (t : Tree c l ss) : (ss.map fun x : Seat => x.n.slot).Nodup := (t.perm_s.nodup_iff).2 (ZoQ t.slot)
theorem ZiY : ∀ {L : List Seat}, (L.map fun x : Seat => x.n.slot).Nodup → ∀ {x y : Seat}, x ∈ L → y ∈ L → x.n.slot = y.n.slot → x = y
 | [], _, _, _, hx, _, _ => by cases hx
 | a :: L, h, x, y, hx, hy, e => by
  rw [List.map_cons, List.nodup_cons] at h
  rcases List.mem_cons.1 hx with e1 | h1
  ·rcases List.mem_cons.1 hy with e2 | h2
   ·rw [e1, e2]
   ·exact absurd (List.mem_map.2 ⟨y, h2, by rw [← e1]; exact e.symm⟩) h.1
  ·rcases List.mem_cons.1 hy with e2 | h2
   ·exact absurd (List.mem_map.2 ⟨x, h1, by rw [← e2]; exact e⟩) h.1
   ·exact ZiY h.2 h1 h2 e
theorem Tree.uniq (t : Tree c l ss) {x y : Seat} (hx : x ∈ ss) (hy : y ∈ ss) (e : x.n.slot = y.n.slot) : x = y := ZiY t.nodup_s hx hy e
theorem ZiZ {f : Seat → List Seat} : ∀ {L : List Seat}, ((L.flatMap f).map fun x : Seat => x.n.slot).Nodup → ∀ {x z y y' : Seat}, x ∈ L → z ∈ L → y ∈ f x → y' ∈ f z → y.n.slot = y'.n.slot → x = z
 | [], _, _, _, _, _, hx, _, _, _, _ => by cases hx
 | a :: L, h, x, z, y, y', hx, hz, hy, hy', e => by
  rw [List.flatMap_cons, List.map_append, List.nodup_append] at h
  obtain ⟨h1, h2, h3⟩ := h
  rcases List.mem_cons.1 hx with e1 | g1
  ·rcases List.mem_cons.1 hz with e2 | g2
   ·rw [e1, e2]
   ·exact absurd e (h3 _ (List.mem_map.2 ⟨y, by rw [← e1]; exact hy, rfl⟩) _ (List.mem_map.2 ⟨y', List.mem_flatMap.2 ⟨z, g2, hy'⟩, rfl⟩))
  ·rcases List.mem_cons.1 hz with e2 | g2
   ·exact absurd e.symm (h3 _ (List.mem_map.2 ⟨y', by rw [← e2]; exact hy', rfl⟩) _ (List.mem_map.2 ⟨y, List.mem_flatMap.2 ⟨x, g1, hy⟩, rfl⟩))
   ·exact ZiZ h2 g1 g2 hy hy' e
theorem Zi0 {f : Seat → List Seat} : ∀ {L : List Seat}, ((L.flatMap f).map fun x : Seat => x.n.slot).Nodup → ∀ {x : Seat}, x ∈ L → ((f x).map fun x : Seat => x.n.slot).Nodup
 | [], _, _, hx => by cases hx
 | a :: L, h, x, hx => by
  rw [List.flatMap_cons, List.map_append, List.nodup_append] at h
  rcases List.mem_cons.1 hx with rfl | hx
  ·exact h.1
  ·exact Zi0 h.2.1 hx
theorem Tree.tail_nd (t : Tree c l ss) : ((ss.flatMap (Zj l)).map fun x : Seat => x.n.slot).Nodup := by
 have h := t.nodup_s
 rw [t.fix, List.map_cons, List.nodup_cons] at h
 exact h.2
theorem Tree.root_kid (t : Tree c l ss) {x y : Seat} (hx : x ∈ ss) (hy : y ∈ Zj l x) : y.n.slot ≠ (Zg l 0).n.slot := fun e => by
 have h := t.nodup_s
 rw [t.fix, List.map_cons, List.nodup_cons] at h
 exact h.1 (List.mem_map.2 ⟨y, List.mem_flatMap.2 ⟨x, hx, hy⟩, e⟩)
theorem Tree.parent (t : Tree c l ss) {x z y y' : Seat} (hx : x ∈ ss) (hz : z ∈ ss) (hy : y ∈ Zj l x) (hy' : y' ∈ Zj l z) (e : y.n.slot = y'.n.slot) : x = z := ZiZ t.tail_nd hx hz hy hy' e
theorem Tree.kid_nd (t : Tree c l ss) {x : Seat} (hx : x ∈ ss) {i j : Nat} (hi : i < (Zj l x).length) (hj : j < (Zj l x).length) (e : (Zj l x)[i].n.slot = (Zj l x)[j].n.slot) : i = j := by
 have h := Zi0 t.tail_nd hx
 have h2 := List.pairwise_iff_getElem.1 h
 simp only [List.length_map, List.getElem_map] at h2
 rcases Nat.lt_trichotomy i j with h3 | h3 | h3
 ·exact absurd e (h2 i j hi hj h3)
 ·exact h3
 ·exact absurd e.symm (h2 j i hj hi h3)
theorem ZdH (hc : CfgR c) (hpos : 0 < l.length) (hsml : Sml l) (hs : SlotsP l) (hfix : ss = Zg l 0 :: ss.flatMap (Zj l)) (hk : ∀ x ∈ ss, (Z4 l x).isSome = true)
  (hp : (ss.map fun x : Seat => x.n.slot).Perm (l.map fun n : Nd => n.slot)) (hlk : LkK (ss.map Seat.key)) (hlen : (l.length : Int) ≤ c.slots) (hseat : ∀ x ∈ ss, SeatP c x) : Tree c l ss :=
 ⟨hc, hpos, hsml, hs, ZoM (by have := Zfk hs hpos; rw [show ((0 : Nat) : Int) = 0 from rfl] at this; rw [this]) hfix hk (by have := hp.length_eq; simp at this; omega),
  ⟨⟨ZoP hs hp, (Zbk ss).2 hlk, hlen⟩, fun i h => hseat _ (List.getElem_mem h)⟩⟩
theorem Tree.two (t : Tree c l ss) {x : Seat} (hx : x ∈ ss) (s : Span) : ZO [Zc s x.n.msgs, Zc s x.ms] = Zc s x.n.msgs ++ Zc s x.ms ∧ Rst (Zc s x.n.msgs ++ Zc s x.ms) := by
 obtain ⟨h1, _, h3⟩ := t.msgs hx
 have hs := (t.seat hx).2.2.2
 refine ZaU (Jw h1) (Jw (t.rst x hx)) fun a ha b hb => ?_
 obtain ⟨a', ha', e1⟩ := JL ha
 obtain ⟨b', hb', e2⟩ := JL hb
 have := h3 a' ha'
 obtain ⟨i, hi, rfl⟩ := List.getElem_of_mem hb'
 have := hs i hi
 omega
theorem ZbR {l l' : List Nd} {x y : Seat} {i j : Nat} (hn : (Zq l (x.n.kids.getD i 0)).1 = (Zq l' (y.n.kids.getD j 0)).1)
  (hs : ∀ q, (x.s.meet (Zf x.n.pivots (i : Int))).has q = (y.s.meet (Zf y.n.pivots (j : Int))).has q)
  (hm : ∀ s : Span, s = x.s.meet (Zf x.n.pivots (i : Int)) → ZO [Zc s x.n.msgs, Zc s x.ms] = ZO [Zc s y.n.msgs, Zc s y.ms]) : Zb l x i = Zb l' y j := by
 have e : x.s.meet (Zf x.n.pivots (i : Int)) = y.s.meet (Zf y.n.pivots (j : Int)) := by
  rw [← XT x.s, ← XT y.s]
  exact Zbh hs
 have h := hm _ rfl
 show (⟨_, _, _⟩ : Seat) = ⟨_, _, _⟩
 rw [hn, h, e]
end Go.Fw

namespace Go.Fw
def X6 (p : List Str) (c : List Int) (i : Nat) (k : Str) (v : Int) : List Str × List Int :=
 if c.length ≤ i ∨ (Zf p (i : Int)).has k = false ∨ k = (Zf p (i : Int)).lo then ([], []) else ((p.take i ++ [k]) ++ p.drop i, (c.take (i + 1) ++ [v]) ++ c.drop (i + 1))
theorem ZdI {p : List Str} {c : List Int} {i : Nat} {k : Str} {v : Int} (h : c.length ≤ i ∨ (Zf p (i : Int)).has k = false ∨ k = (Zf p (i : Int)).lo) : X6 p c i k v = ([], []) := if_pos h
theorem ZdJ {p : List Str} {c : List Int} {i : Nat} {k : Str} {v : Int} (h1 : ¬ c.length ≤ i) (h2 : (Zf p (i : Int)).has k = true) (h3 : ¬ k = (Zf p (i : Int)).lo) : X6 p c i k v = ((p.take i ++ [k]) ++ p.drop i, (c.take (i + 1) ++ [v]) ++ c.drop (i + 1)) :=
 if_neg fun h => h.elim h1 (fun h => h.elim (fun h => by rw [h2] at h; cases h) h3)
theorem Zfw {p : List Str} {i : Nat} {k : Str} (h : (Zf p (i : Int)).has k = true) : i ≤ p.length := by
 by_cases h2 : i ≤ p.length
 ·exact h2
 ·rw [Zg2 om9] at h
  have : Span.zero.has k = false := by
   simp only [Span.zero, Span.has]
   cases h3 : k.lt Str.nil
   ·simp
   ·simp
  rw [this] at h; cases h
theorem ZoR {p : List Str} {i : Nat} {k : Str} (h : (Zf p (i : Int)).has k = true) (h2 : ¬ k = (Zf p (i : Int)).lo) :
  (∀ h : 0 < i ∧ i - 1 < p.length, (p[i - 1]'h.2).lt k = true) ∧ (∀ h : i < p.length, k.lt p[i] = true) := by
 have hi := Zfw h
 have e := Zcj (l := p) (i := (i : Int)) om9 om9
 have h0 := h
 rw [e, ZaP] at h
 simp only [Span.has, Bool.and_eq_true, Bool.or_eq_true, Bool.not_eq_true', decide_eq_true_eq] at h
 obtain ⟨h3, h4⟩ := h
 have hhi : ∀ h : i < p.length, k.lt p[i] = true := fun hlt => by
  rcases h4 with h4 | h4
  ·omega
  ·rw [show ((i : Int)).toNat = i from rfl, J0 (d := Str.nil) hlt] at h4; exact h4
 refine ⟨fun ⟨h5, h6⟩ => ?_, hhi⟩
 rw [if_pos om9, show ((i : Int) - 1).toNat = i - 1 from by omega, J0 (d := Str.nil) h6] at h3
 cases hlt : (p[i - 1]'h6).lt k
 ·exfalso
  have hke : k = p[i - 1]'h6 := Str.lt_total h3 hlt
  apply h2
  rw [e, if_pos om9, show ((i : Int) - 1).toNat = i - 1 from by omega, J0 (d := Str.nil) h6]
  unfold Span.norm
  split
  ·rename_i hem
   exfalso
   simp only [Span.empty, Bool.and_eq_true, Bool.not_eq_true', decide_eq_false_iff_not] at hem
   have := h4.resolve_left om9
   rw [hke] at this
   simp_all
  ·split <;> exact hke
 ·rfl
theorem ZoS {p : List Str} {c : List Int} {i : Nat} {k : Str} {v : Int} (hr : YB p c.length = true) (hi : i < c.length) (h : (Zf p (i : Int)).has k = true) (h2 : ¬ k = (Zf p (i : Int)).lo) :
  YB ((p.take i ++ [k]) ++ p.drop i) ((c.take (i + 1) ++ [v]) ++ c.drop (i + 1)).length = true := by
 obtain ⟨hp, hn⟩ := YM hr
 obtain ⟨h3, h4⟩ := ZoR h h2
 have hi' := Zfw h
 refine Zdc (Zac.2 fun j hj => ?_) (by simp; omega)
 have hl : ((p.take i ++ [k]) ++ p.drop i).length = p.length + 1 := by simp; omega
 have get : ∀ q (hq : q < ((p.take i ++ [k]) ++ p.drop i).length), ((p.take i ++ [k]) ++ p.drop i)[q] = if h : q < i then p[q]'om9 else if h : q = i then k else p[q - 1]'om9 := fun q hq => by
  by_cases h5 : q < i
  ·rw [dif_pos h5, List.getElem_append_left (by simp; omega), List.getElem_append_left (by simp; omega), List.getElem_take]
  ·rw [dif_neg h5]
   by_cases h6 : q = i
   ·rw [dif_pos h6, List.getElem_append_left (by simp; omega), List.getElem_append_right (by simp; omega)]; simp
   ·rw [dif_neg h6, List.getElem_append_right (by simp; omega), List.getElem_drop]
    congr 1; simp; omega
 rw [get, get]
 have hp' := Zac.1 hp
 by_cases a : j + 1 < i
 ·rw [dif_pos om9, dif_pos a]; exact hp' j om9
 ·by_cases b : j + 1 = i
  ·rw [dif_pos om9, dif_neg om9, dif_pos b]
   have := h3 ⟨om9, om9⟩
   simpa only [show i - 1 = j from by omega] using this
  ·by_cases d : j = i
   ·rw [dif_neg om9, dif_pos d, dif_neg om9, dif_neg om9]
    have := h4 om9
    simpa only [show j + 1 - 1 = i from by omega] using this
   ·rw [dif_neg om9, dif_neg d, dif_neg om9, dif_neg om9]
    have := hp' (j - 1) om9
    simpa only [show j - 1 + 1 = j + 1 - 1 from by omega] using this
end Go.Fw

namespace Go.Fw
def Y9 (n : Nd) (i : Nat) (k : Str) (v : Int) : Nd × Bool :=
 if n.level = 0 ∨ (X6 n.pivots n.kids i k v).2.length = 0 then (Nd.zero, false)
 else ({ n with pivots := (X6 n.pivots n.kids i k v).1, kids := (X6 n.pivots n.kids i k v).2 }, true)
theorem Zfx {n : Nd} {i : Nat} {k : Str} {v : Int} (h : n.level = 0 ∨ (X6 n.pivots n.kids i k v).2.length = 0) : Y9 n i k v = (Nd.zero, false) := if_pos h
theorem Zfy {n : Nd} {i : Nat} {k : Str} {v : Int} (h1 : ¬ n.level = 0) (h2 : ¬ (X6 n.pivots n.kids i k v).2.length = 0) : Y9 n i k v = ({ n with pivots := (X6 n.pivots n.kids i k v).1, kids := (X6 n.pivots n.kids i k v).2 }, true) := if_neg (by rintro (h | h); exact h1 h; exact h2 h)
theorem Zfz {p : List Str} {c : List Int} {i : Nat} {k : Str} {v : Int} (h : c.length ≤ i ∨ (Zf p (i : Int)).has k = false ∨ k = (Zf p (i : Int)).lo) : (X6 p c i k v).2.length = 0 := by rw [ZdI h]; rfl
theorem ZoT {n : Nd} {i : Nat} {k : Str} {v : Int} (h1 : ¬ n.level = 0) (h2 : ¬ n.kids.length ≤ i) (h3 : (Zf n.pivots (i : Int)).has k = true) (h4 : ¬ k = (Zf n.pivots (i : Int)).lo) :
  Y9 n i k v = ({ n with pivots := (n.pivots.take i ++ [k]) ++ n.pivots.drop i, kids := (n.kids.take (i + 1) ++ [v]) ++ n.kids.drop (i + 1) }, true) := by
 have e := ZdJ (v := v) h2 h3 h4
 rw [Zfy h1 (by rw [e]; simp), e]
end Go.Fw

namespace Go.Fw
open Go Go.RowKit
theorem ZfA (A B : List Str) (q : Str) : Ze (A ++ B) q = Ze A q + Ze B q := by
 unfold Ze
 rw [List.filter_append, List.length_append]
theorem ZfB (P : List Str) (h : Nat) (q : Str) : Ze P q = Ze (P.take h) q + Ze (P.drop h) q := by
 rw [← ZfA, List.take_append_drop]
theorem Zi1 (P : List Str) (i : Nat) (k q : Str) : Ze ((P.take i ++ [k]) ++ P.drop i) q = Ze P q + if q.lt k = true then 0 else 1 := by
 have e : Ze [k] q = if q.lt k = true then 0 else 1 := by
  unfold Ze
  cases h : q.lt k <;> simp [List.filter_cons, h]
 rw [ZfA, ZfA, e, ZfB P i]
 omega
theorem Zi2 {P : List Str} (hr : ZZ P = true) {h : Nat} (hh : h < P.length) {q : Str} (hq : q.lt P[h] = true) : Ze (P.take h) q = Ze P q := by
 have e : Ze (P.drop h) q = 0 := by
  unfold Ze
  rw [List.length_eq_zero_iff, List.filter_eq_nil_iff]
  intro x hx
  obtain ⟨j, hj, rfl⟩ := List.getElem_of_mem hx
  rw [List.getElem_drop]
  rw [List.length_drop] at hj
  by_cases h0 : j = 0
  ·subst h0; simp [hq]
  ·simp [Str.lt_trans hq (Zad hr (h + j) h om9 om9)]
 rw [ZfB P h, e]; omega
theorem Zi3 {P : List Str} (hr : ZZ P = true) {h : Nat} (hh : h < P.length) {q : Str} (hq : q.lt P[h] = false) : Ze P q = (h + 1) + Ze (P.drop (h + 1)) q := by
 have e : Ze (P.take (h + 1)) q = h + 1 := by
  unfold Ze
  rw [List.filter_eq_self.2]
  ·rw [List.length_take]; omega
  ·intro x hx
   obtain ⟨j, hj, rfl⟩ := List.getElem_of_mem hx
   rw [List.getElem_take]
   rw [List.length_take] at hj
   cases h2 : q.lt P[j]
   ·rfl
   ·exfalso
    by_cases h0 : j = h
    ·subst h0; rw [hq] at h2; cases h2
    ·have := Str.lt_trans h2 (Zad hr h j om9 om9); rw [hq] at this; cases this
 rw [ZfB P (h + 1), e]
theorem ZoU {K : List Int} {h j : Nat} (hj : j < h) : (K.take h).getD j 0 = K.getD j 0 := by
 rw [List.getD_eq_getElem?_getD, List.getD_eq_getElem?_getD, List.getElem?_take, if_pos hj]
theorem ZoV {K : List Int} {h j : Nat} : (K.drop h).getD j 0 = K.getD (h + j) 0 := by
 rw [List.getD_eq_getElem?_getD, List.getD_eq_getElem?_getD, List.getElem?_drop]
theorem ZaV {l : List Nd} {x : Seat} (h0 : 0 < x.n.level) (h2 : YB x.n.pivots x.n.kids.length = true) (h : ∀ j, j < x.n.kids.length → XC l x j = true) : (Z4 l x).isSome = true ∧ Zj l x = Y8 l x x.n.kids.length := by
 have e := Zod om9 om9 h2 h
 unfold Zj
 rw [e]; exact ⟨rfl, rfl⟩
theorem ZbS {l l' : List Nd} {x y : Seat} {i j : Nat} (hn : Zq l (x.n.kids.getD i 0) = Zq l' (y.n.kids.getD j 0)) (hl : x.n.level = y.n.level) : XC l x i = XC l' y j := by
 unfold XC; rw [hn, hl]
variable {l l' : List Nd} {K A : Seat}
theorem ZoW (hK : (Z4 l K).isSome = true) (h0 : ¬ K.n.level = 0) {h : Nat} (hh : h < K.n.pivots.length)
  (ep : A.n.pivots = K.n.pivots.take h) (ek : A.n.kids = K.n.kids.take (h + 1)) (el : A.n.level = K.n.level) (hs : ∀ q, A.s.has q = (K.s.has q && q.lt K.n.pivots[h]))
  (hm : ∀ s : Span, (∀ q, s.has q = true → A.s.has q = true) → ZO [Zc s A.n.msgs, Zc s A.ms] = ZO [Zc s K.n.msgs, Zc s K.ms])
  (hf : ∀ j, j < K.n.kids.length → Zq l' (K.n.kids.getD j 0) = Zq l (K.n.kids.getD j 0)) :
  (Z4 l' A).isSome = true ∧ Zj l' A = (Zj l K).take (h + 1) := by
 obtain ⟨h1, h2, h3, h4⟩ := Z5 hK h0
 obtain ⟨hr, hc⟩ := YM h3
 have hkl : A.n.kids.length = h + 1 := by rw [ek, List.length_take]; omega
 have hra : ZZ A.n.pivots = true := by rw [ep]; exact Zmp hr _
 have hpl : A.n.pivots.length = h := by rw [ep, List.length_take]; omega
 have hg : ∀ j, j < h + 1 → A.n.kids.getD j 0 = K.n.kids.getD j 0 := fun j hj => by rw [ek, ZoU hj]
 obtain ⟨g1, g2⟩ := ZaV (l := l') (x := A) om9 (Zdc hra om9) fun j hj => by
  rw [ZbS (l' := l) (y := K) (j := j) (by rw [hg j om9, hf j om9]) el]
  exact h4 j om9
 refine ⟨g1, ?_⟩
 rw [g2, h1, hkl]
 unfold Y8
 rw [← List.map_take, List.take_range, show min (h + 1) K.n.kids.length = h + 1 by omega]
 refine List.map_congr_left fun j hj => ?_
 have hj := List.mem_range.1 hj
 refine ZbR (by rw [hg j hj, hf j om9]) (fun q => ?_) fun s hse => hm s fun q hq => ?_
 ·rw [ZH, ZH, Xz hra q om9, Xz hr q om9, hs q, ep]
  cases hk : q.lt K.n.pivots[h]
  ·have := Zi3 hr hh hk
   rw [decide_eq_false (show ¬ j = Ze K.n.pivots q by omega)]; simp
  ·rw [Zi2 hr hh hk]; simp
 ·rw [hse, ZH, Bool.and_eq_true] at hq
  exact hq.1
theorem ZoX (hK : (Z4 l K).isSome = true) (h0 : ¬ K.n.level = 0) {h : Nat} (hh : h < K.n.pivots.length)
  (ep : A.n.pivots = K.n.pivots.drop (h + 1)) (ek : A.n.kids = K.n.kids.drop (h + 1)) (el : A.n.level = K.n.level) (hs : ∀ q, A.s.has q = (K.s.has q && !q.lt K.n.pivots[h]))
  (hm : ∀ s : Span, (∀ q, s.has q = true → A.s.has q = true) → ZO [Zc s A.n.msgs, Zc s A.ms] = ZO [Zc s K.n.msgs, Zc s K.ms])
  (hf : ∀ j, j < K.n.kids.length → Zq l' (K.n.kids.getD j 0) = Zq l (K.n.kids.getD j 0)) :
  (Z4 l' A).isSome = true ∧ Zj l' A = (Zj l K).drop (h + 1) := by
 obtain ⟨h1, h2, h3, h4⟩ := Z5 hK h0
 obtain ⟨hr, hc⟩ := YM h3
 have hkl : A.n.kids.length = K.n.kids.length - (h + 1) := by rw [ek, List.length_drop]
 have hra : ZZ A.n.pivots = true := by rw [ep]; exact Zmq hr _
 have hpl : A.n.pivots.length = K.n.pivots.length - (h + 1) := by rw [ep, List.length_drop]
 have hg : ∀ j, A.n.kids.getD j 0 = K.n.kids.getD (h + 1 + j) 0 := fun j => by rw [ek, ZoV]
 obtain ⟨g1, g2⟩ := ZaV (l := l') (x := A) om9 (Zdc hra om9) fun j hj => by
  rw [ZbS (l' := l) (y := K) (j := h + 1 + j) (by rw [hg j, hf _ om9]) el]
  exact h4 _ om9
 refine ⟨g1, ?_⟩
 rw [g2, h1, hkl]
 refine List.ext_getElem (by simp [Y8]) fun j hj hj2 => ?_
 have hj : j < K.n.kids.length - (h + 1) := by simpa [Y8] using hj
 rw [List.getElem_drop]
 simp only [Y8, List.getElem_map, List.getElem_range]
 refine ZbR (by rw [hg j, hf _ om9]) (fun q => ?_) fun s hse => hm s fun q hq => ?_
 ·rw [ZH, ZH, Xz hra q om9, Xz hr q om9, hs q, ep]
  cases hk : q.lt K.n.pivots[h]
  ·have := Zi3 hr hh hk
   rw [this]
   simp
  ·have h5 := Zi2 hr hh hk
   have h6 : Ze (K.n.pivots.take h) q ≤ h := Zu6 _ _ _
   rw [decide_eq_false (show ¬ h + 1 + j = Ze K.n.pivots q by omega)]; simp
 ·rw [hse, ZH, Bool.and_eq_true] at hq
  exact hq.1
theorem Zi4 {s : Span} (h : s.empty = false) : s.has s.lo = true := by
 have := Span.empty_eq s
 rw [h] at this
 simpa using this
theorem Yk {s : Span} {q : Str} : s.has q = true ↔ q.lt s.lo = false ∧ (s.opn = true ∨ q.lt s.hi = true) := by
 unfold Span.has
 simp
theorem ZoY {s : Span} (h : s.norm = s) (he : s.empty = false) : s.opn = true → s.hi = Str.nil := fun ho => by
 unfold Span.norm at h
 rw [if_neg (by simp [he]), if_pos ho] at h
 rw [← h]
theorem ZoZ {s a : Span} {k : Str} (hs : s.norm = s) (ha : a.norm = a) (hk : s.has k = true) (hk2 : k ≠ s.lo) (h : ∀ q, a.has q = (s.has q && q.lt k)) : a = ⟨s.lo, k, false⟩ ∧ s.lo.lt k = true := by
 have h1 := Yk.1 hk
 have h2 : s.lo.lt k = true := by
  cases e : s.lo.lt k
  ·exact absurd (Str.lt_total h1.1 e) hk2
  ·rfl
 refine ⟨?_, h2⟩
 rw [← ha, ← ZeQ (s := ⟨s.lo, k, false⟩) (by simp [Span.empty, h2]) rfl]
 refine Zbh fun q => ?_
 rw [h q, Bool.eq_iff_iff, Bool.and_eq_true, Yk, Yk]
 refine ⟨fun ⟨⟨g1, g2⟩, g3⟩ => ⟨g1, .inr g3⟩, fun ⟨g1, g2⟩ => ?_⟩
 have g2 : q.lt k = true := by rcases g2 with g | g; cases g; exact g
 refine ⟨⟨g1, ?_⟩, g2⟩
 rcases h1.2 with g | g
 ·exact .inl g
 ·exact .inr (Str.lt_trans g2 g)
theorem Zi5 {s a : Span} {k : Str} (hs : s.norm = s) (ha : a.norm = a) (hk : s.has k = true) (h : ∀ q, a.has q = (s.has q && !q.lt k)) : a = ⟨k, s.hi, s.opn⟩ := by
 have h1 := Yk.1 hk
 have he : (⟨k, s.hi, s.opn⟩ : Span).empty = false := by
  cases e : (⟨k, s.hi, s.opn⟩ : Span).empty
  ·rfl
  ·have := YN.1 e k
   have h3 : (⟨k, s.hi, s.opn⟩ : Span).has k = true := Yk.2 ⟨Str.lt_irrefl k, h1.2⟩
   rw [h3] at this; cases this
 have hse : s.empty = false := by
  cases e : s.empty
  ·rfl
  ·have := YN.1 e k; rw [hk] at this; cases this
 have hn : (⟨k, s.hi, s.opn⟩ : Span).norm = ⟨k, s.hi, s.opn⟩ := by
  unfold Span.norm
  rw [if_neg (by simp [he])]
  split
  ·rename_i ho
   rw [ZoY hs hse ho]
  ·rfl
 rw [← ha, ← hn]
 refine Zbh fun q => ?_
 rw [h q, Bool.eq_iff_iff, Bool.and_eq_true, Yk, Yk]
 refine ⟨fun ⟨⟨g1, g2⟩, g3⟩ => ⟨by simpa using g3, g2⟩, fun ⟨g1, g2⟩ => ⟨⟨?_, g2⟩, by simpa using g1⟩⟩
 have g1 : q.lt k = false := g1
 cases e : q.lt s.lo
 ·rfl
 ·have := Str.lt_of_lt_of_le e h1.1
  rw [g1] at this; cases this
theorem Zi6 {m : Msg} (hm : m.R) (h4 : ¬ m.kind = 4) {q : Str} : m.span.has q = decide (q = m.key) := by
 unfold Msg.span
 rw [if_neg h4]
 exact Zag (by have := hm.1.2.1; omega)
theorem ZcD {m : Msg} {s : Span} (hm : m.R) (h : (m.clip s).2 = true) {q : Str} (hq : (m.clip s).1.span.has q = true) : m.span.has q = true ∧ s.has q = true := by
 by_cases h4 : m.kind = 4
 ·rw [ZbQ h h4, ZH, Bool.and_eq_true] at hq
  exact hq
 ·have e := (Xo h)
  rw [e.2, if_neg h4] at hq
  refine ⟨hq, ?_⟩
  cases hs : s.has q
  ·exfalso
   have : (m.span.meet s).empty = true := YN.2 fun p => by
    rw [ZH, Zi6 hm h4]
    by_cases ep : p = m.key
    ·rw [Zi6 hm h4, decide_eq_true_eq] at hq
     rw [ep, ← hq, hs]; simp
    ·simp [ep]
   rw [this] at e
   exact absurd e.1 (by simp)
  ·rfl
theorem Zi7 {a s : Span} (h : ∀ q, a.has q = true → s.has q = true) : a.meet s = a.norm := by
 rw [← XT]
 refine Zbh fun q => ?_
 rw [ZH]
 cases e : a.has q
 ·rfl
 ·rw [h q e]; rfl
theorem Zi8 {a s : Span} (h : a.meet s = a.norm) {q : Str} (hq : a.has q = true) : s.has q = true := by
 have h2 := ZH a s q
 rw [h, ZaP, hq] at h2
 simpa using h2.symm
theorem Zo0 {A B K : Seat} {k : Str} {h : Nat} (hP : PairsR K.n.rows) (hms : ∀ m ∈ K.ms, m.R) (ea : A.n.rows = K.n.rows.take h) (eb : B.n.rows = K.n.rows.drop h)
  (ha : ∀ q, A.s.has q = (K.s.has q && q.lt k)) (hb : ∀ q, B.s.has q = (K.s.has q && !q.lt k)) (h1 : ∀ i (hi : i < K.n.rows.length), i < h → K.n.rows[i].key.lt k = true) (h2 : ∀ i (hi : i < K.n.rows.length), h ≤ i → K.n.rows[i].key.lt k = false)
  (ma : Zc A.s A.ms = Zc A.s K.ms) (mb : Zc B.s B.ms = Zc B.s K.ms) : YH A ++ YH B = YH K := by
 have hk : ∀ m ∈ K.ms, m.key.b.size < 140737488355328 := fun m hm => by have := (Y1 (hms m hm)).1; omega
 have fa : (A.n.rows.filter fun p => A.s.has p.key) = K.n.rows.filter fun p => A.s.has p.key := by
  conv => rhs; rw [← List.take_append_drop h K.n.rows]
  rw [List.filter_append, ea, List.filter_eq_nil_iff (l := K.n.rows.drop h) |>.2 ?_, List.append_nil]
  intro p hp
  obtain ⟨i, hi, rfl⟩ := List.getElem_of_mem hp
  rw [List.length_drop] at hi
  rw [List.getElem_drop, ha, h2 _ om9 om9]; simp
 have fb : (B.n.rows.filter fun p => B.s.has p.key) = K.n.rows.filter fun p => B.s.has p.key := by
  conv => rhs; rw [← List.take_append_drop h K.n.rows]
  rw [List.filter_append, eb, List.filter_eq_nil_iff (l := K.n.rows.take h) |>.2 ?_, List.nil_append]
  intro p hp
  obtain ⟨i, hi, rfl⟩ := List.getElem_of_mem hp
  rw [List.length_take] at hi
  rw [List.getElem_take, hb, h1 _ om9 om9]; simp
 have hF := (hP.fold fun m hm => Y1 (hms m hm)).srt (l := Zt K.n.rows K.ms)
 unfold YH
 rw [fa, fb, ma, mb, Zbe hP.srt hk, Zbe hP.srt hk, Zbe hP.srt hk, ZiP hF K.s.has k]
 congr 1
 ·exact List.filter_congr fun p _ => ha _
 ·exact List.filter_congr fun p _ => hb _
end Go.Fw
