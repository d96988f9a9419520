/- A sound tree gone through from the root down, with its nodes in a map. Plain Lean; nothing of the program is named here. No condition. -/
import Derived.Test.YtebkfinhhpelbaaGreatQyNq
import Derived.Test.YtebkfinhhpelbaaGreatQyNp
set_option linter.unusedVariables false
set_option linter.unusedSimpArgs false
set_option linter.unnecessarySimpa false
namespace Go.Fw
open Go Go.RowKit
def bySl (l : List Nd) : List (Int × Nd) := l.foldl (fun m n => putM m n.slot n) []
section
variable {c : Cfg} {l : List Nd} {ss : List Seat}
noncomputable def preF (l : List Nd) : Nat → Seat → List Seat
  | 0, x => [x]
  | n + 1, x => x :: (kidsD l x).flatMap (preF l n)
theorem perm_flat {α β : Type} {f g h : α → List β} (e : ∀ x, f x = g x ++ h x) : ∀ (L : List α), (L.flatMap f).Perm (L.flatMap g ++ L.flatMap h)
  | [] => List.Perm.refl _
  | x :: L => by
    rw [List.flatMap_cons, List.flatMap_cons, List.flatMap_cons, e x, List.append_assoc, List.append_assoc]
    refine List.Perm.append_left _ ?_
    refine (List.Perm.append_left _ (perm_flat e L)).trans ?_
    rw [← List.append_assoc, ← List.append_assoc]
    exact List.perm_append_comm.append_right _
theorem Tree.pre_perm (t : Tree c l ss) : ∀ (n : Nat) (R T : List Seat), T = R ++ T.flatMap (kidsD l) → (∀ x ∈ T, x ∈ ss) → (∀ x ∈ R, x.n.level.toNat = n) → T.Perm (R.flatMap (preF l n)) := by
  intro n
  induction n with
  | zero =>
    intro R T hT hs hR
    have hRT : ∀ x ∈ R, x ∈ T := fun x hx => by rw [hT]; exact List.mem_append_left _ hx
    have h0 : ∀ x ∈ R, x.n.level = 0 := fun x hx => by have := t.lvl (hs x (hRT x hx)); have := hR x hx; omega
    have hK : R.flatMap (kidsD l) = [] := List.flatMap_eq_nil_iff.2 fun x hx => kids_leaf (h0 x hx)
    generalize hS : T.flatMap (kidsD l) = S at hT
    have hS2 : S = S.flatMap (kidsD l) := by
      conv => lhs; rw [← hS, hT]
      rw [List.flatMap_append, hK, List.nil_append]
    have hST : ∀ x ∈ S, x ∈ T := fun x hx => by rw [hT]; exact List.mem_append_right _ hx
    have hn := fix_nil2 hS2 fun x hx y hy => by have := (t.kid_lvl (hs x (hST x hx)) hy).2; omega
    rw [hT, hn, List.append_nil]
    exact List.Perm.of_eq (List.flatMap_singleton' R).symm
  | succ n ih =>
    intro R T hT hs hR
    have hRT : ∀ x ∈ R, x ∈ T := fun x hx => by rw [hT]; exact List.mem_append_left _ hx
    generalize hS : T.flatMap (kidsD l) = S at hT
    have hS2 : S = R.flatMap (kidsD l) ++ S.flatMap (kidsD l) := by
      conv => lhs; rw [← hS, hT]
      rw [List.flatMap_append]
    have hST : ∀ x ∈ S, x ∈ T := fun x hx => by rw [hT]; exact List.mem_append_right _ hx
    have h1 := ih (R.flatMap (kidsD l)) S hS2 (fun x hx => hs x (hST x hx)) fun y hy => by
      obtain ⟨x, hx, hyx⟩ := List.mem_flatMap.1 hy
      have := (t.kid_lvl (hs x (hRT x hx)) hyx).2
      have := hR x hx
      omega
    rw [hT]
    refine (List.Perm.append_left R h1).trans ?_
    have h2 := perm_flat (f := preF l (n + 1)) (g := fun x => [x]) (h := fun x => (kidsD l x).flatMap (preF l n)) (fun x => rfl) R
    rw [List.flatMap_singleton' R] at h2
    refine List.Perm.trans ?_ h2.symm
    rw [List.flatMap_assoc]
structure Free (l : List Nd) (n : Nat) (x : Seat) (mt : List (Int × Bool)) : Prop where
  none : ∀ y ∈ preF l n x, getM mt y.n.slot = none
  nd : ((preF l n x).map fun y : Seat => y.n.slot).Nodup
structure FreeK (l : List Nd) (n : Nat) (x : Seat) (j : Nat) (mt : List (Int × Bool)) : Prop where
  none : ∀ y ∈ ((kidsD l x).drop j).flatMap (preF l n), getM mt y.n.slot = none
  nd : ((((kidsD l x).drop j).flatMap (preF l n)).map fun y : Seat => y.n.slot).Nodup
theorem Free.kids {n : Nat} {x : Seat} {mt : List (Int × Bool)} (h : Free l (n + 1) x mt) : FreeK l n x 0 (putM mt x.n.slot true) := by
  have hnd := h.nd
  rw [preF, List.map_cons, List.nodup_cons] at hnd
  refine ⟨fun y hy => ?_, by rw [List.drop_zero]; exact hnd.2⟩
  rw [List.drop_zero] at hy
  rw [getM_put, if_neg]
  · exact h.none y (by rw [preF]; exact List.mem_cons_of_mem _ hy)
  · intro e
    exact hnd.1 (by rw [← e]; exact List.mem_map.2 ⟨y, hy, rfl⟩)
theorem FreeK.head {n : Nat} {x : Seat} {j : Nat} {mt : List (Int × Bool)} (h : FreeK l n x j mt) (hj : j < (kidsD l x).length) : Free l n (kidsD l x)[j] mt := by
  have e := List.drop_eq_getElem_cons hj
  refine ⟨fun y hy => h.none y (by rw [e, List.flatMap_cons]; exact List.mem_append_left _ hy), ?_⟩
  have := h.nd
  rw [e, List.flatMap_cons, List.map_append, List.nodup_append] at this
  exact this.1
def Same9 (l : List Nd) (n : Nat) (x : Seat) (mt mt' : List (Int × Bool)) : Prop := ∀ k, (∀ y ∈ preF l n x, y.n.slot ≠ k) → getM mt' k = getM mt k
theorem FreeK.tail {n : Nat} {x : Seat} {j : Nat} {mt mt' : List (Int × Bool)} (h : FreeK l n x j mt) (hj : j < (kidsD l x).length) (hs : Same9 l n (kidsD l x)[j] mt mt') : FreeK l n x (j + 1) mt' := by
  have e := List.drop_eq_getElem_cons hj
  have hnd := h.nd
  rw [e, List.flatMap_cons, List.map_append, List.nodup_append] at hnd
  refine ⟨fun y hy => ?_, hnd.2.1⟩
  rw [hs y.n.slot fun z hz he => hnd.2.2 z.n.slot (List.mem_map.2 ⟨z, hz, rfl⟩) y.n.slot (List.mem_map.2 ⟨y, hy, rfl⟩) he]
  exact h.none y (by rw [e, List.flatMap_cons]; exact List.mem_append_right _ hy)
def SameK (l : List Nd) (n : Nat) (x : Seat) (j : Nat) (mt mt' : List (Int × Bool)) : Prop := ∀ k, x.n.slot ≠ k → (∀ y ∈ ((kidsD l x).take j).flatMap (preF l n), y.n.slot ≠ k) → getM mt' k = getM mt k
theorem SameK.zero {n : Nat} {x : Seat} {mt : List (Int × Bool)} : SameK l n x 0 mt (putM mt x.n.slot true) := fun k hk _ => by rw [getM_put, if_neg (fun e => hk e.symm)]
theorem SameK.succ {n : Nat} {x : Seat} {j : Nat} {mt m1 m2 : List (Int × Bool)} (h : SameK l n x j mt m1) (hj : j < (kidsD l x).length) (hs : Same9 l n (kidsD l x)[j] m1 m2) : SameK l n x (j + 1) mt m2 := fun k hk hy => by
  have e : (kidsD l x).take (j + 1) = (kidsD l x).take j ++ [(kidsD l x)[j]] := List.take_succ_eq_append_getElem hj
  rw [hs k fun z hz => hy z (by rw [e, List.flatMap_append]; exact List.mem_append_right _ (by simpa using hz))]
  exact h k hk fun y h2 => hy y (by rw [e, List.flatMap_append]; exact List.mem_append_left _ h2)
theorem SameK.all {n : Nat} {x : Seat} {j : Nat} {mt m1 : List (Int × Bool)} (h : SameK l n x j mt m1) (hj : (kidsD l x).length ≤ j) : Same9 l (n + 1) x mt m1 := fun k hy => by
  refine h k (hy x (by simp [preF])) fun y h2 => hy y ?_
  rw [List.take_of_length_le hj] at h2
  rw [preF]; exact List.mem_cons_of_mem _ h2
noncomputable def viewsF (l : List Nd) (n : Nat) (x : Seat) : List Pair := (dfsF l n x).flatMap viewS
noncomputable def viewsK (l : List Nd) (n : Nat) (x : Seat) (j : Nat) : List Pair := ((kidsD l x).take j).flatMap (viewsF l n)
theorem Tree.views (t : Tree c l ss) : viewsF l (rootS l 0).n.level.toNat (rootS l 0) = mapN l := by
  rw [mapN_t t.sts, t.leaves]; rfl
theorem Tree.pre_len (t : Tree c l ss) : ∀ (n : Nat) (x : Seat), x ∈ ss → x.n.level.toNat = n → 2 ^ (n + 1) ≤ (preF l n x).length + 1 := by
  intro n
  induction n with
  | zero => intro x _ _; simp [preF]
  | succ n ih =>
    intro x hx hn
    have h0 : ¬ x.n.level = 0 := by omega
    have hk := (t.inner hx h0).1.2.1
    have h1 := (kids_all (t.kids hx) h0).1
    have hl : (kidsD l x).length = x.n.kids.length := by rw [h1, kidsF_len]
    have key : ∀ y ∈ kidsD l x, 2 ^ (n + 1) ≤ (preF l n y).length + 1 := fun y hy => by
      have := t.kid_lvl hx hy
      exact ih y this.1 (by omega)
    rw [preF, List.length_cons]
    match hL : kidsD l x with
    | [] => rw [hL] at hl; simp at hl; omega
    | [a] => rw [hL] at hl; simp at hl; omega
    | a :: b :: R =>
      rw [hL] at key
      have ha := key a (by simp)
      have hb := key b (by simp)
      rw [List.flatMap_cons, List.flatMap_cons, List.length_append, List.length_append]
      have : 2 ^ (n + 1 + 1) = 2 ^ (n + 1) + 2 ^ (n + 1) := by rw [Nat.pow_succ]; omega
      omega
theorem Tree.height (t : Tree c l ss) : (rootS l 0).n.level ≤ 5 := by
  have h1 := t.pre_perm (rootS l 0).n.level.toNat [rootS l 0] ss (by exact t.fix) (fun x hx => hx) (fun x hx => by simp at hx; rw [hx])
  rw [List.flatMap_cons, List.flatMap_nil, List.append_nil] at h1
  have h2 := t.pre_len _ _ t.root rfl
  rw [← h1.length_eq, t.len] at h2
  have h3 := t.sml.1
  apply Classical.byContradiction
  intro hn
  have h4 : 2 ^ 7 ≤ 2 ^ ((rootS l 0).n.level.toNat + 1) := Nat.pow_le_pow_right (by omega) (by omega)
  omega
theorem Tree.ms_small (t : Tree c l ss) : ∀ x ∈ ss, x.ms.length ≤ 1024 * ((rootS l 0).n.level - x.n.level).toNat ∧ x.n.level ≤ (rootS l 0).n.level := by
  refine t.ind ⟨Nat.zero_le _, Int.le_refl _⟩ fun x hx h0 ih j hj => ?_
  have ha := t.at hx h0 hj
  have hms := congrArg List.length (t.kid_ms hx (t.rst x hx) j).1
  rw [List.length_append] at hms
  have c1 : (clips (kidSt l x j).s x.n.msgs).length ≤ x.n.msgs.length := clips_le
  have c2 : (clips (kidSt l x j).s x.ms).length ≤ x.ms.length := clips_le
  have c3 := t.msgs_len hx
  have : ((rootS l 0).n.level - (kidSt l x j).n.level).toNat = ((rootS l 0).n.level - x.n.level).toNat + 1 := by omega
  rw [this]
  omega
theorem Tree.kidsD_at (t : Tree c l ss) {x : Seat} (hx : x ∈ ss) (h0 : ¬ x.n.level = 0) : (kidsD l x).length = x.n.kids.length ∧ ∀ j (h : j < (kidsD l x).length), (kidsD l x)[j] = kidSt l x j := by
  have h1 := (kids_all (t.kids hx) h0).1
  refine ⟨by rw [h1, kidsF_len], fun j h => ?_⟩
  simp only [h1, kidsF, List.getElem_map, List.getElem_range]
def WkR (g TW TO tp : Nat) (bk bo : Nat) (m : List (Int × Nd)) (G : GH) (st : List (Int × Bool) × List Pair) (M : MH) : Prop :=
  ∃ (vat : Value) (bm : Nat) (vo : Value) (Mm Mo : MH), M = (bk, .cells (List.toArray [vat, .map (some bm), .func (.func g) #[] #[.pointer (some ⟨bo, 0, none⟩)]]) TW (0, 0)) :: (bo, .cells (List.toArray [vo]) TO (0, 0)) :: (Mm ++ Mo) ∧
    MpG vNode G vat m ∧ MpR vBool bm G st.1 Mm ∧ OwnR ePair tp G vo st.2 Mo
theorem WkR.mono {g TW TO tp bk bo : Nat} {m : List (Int × Nd)} {G G' : GH} {st : List (Int × Bool) × List Pair} {M : MH} (hl : Le G G') (h : WkR g TW TO tp bk bo m G st M) : WkR g TW TO tp bk bo m G' st M := by
  obtain ⟨vat, bm, vo, Mm, Mo, h1, h2, h3, h4⟩ := h
  exact ⟨vat, bm, vo, Mm, Mo, h1, h2.mono hl, h3.mono hl, h4.mono hl⟩
theorem WkR.cast {g TW TO tp bk bo : Nat} {m : List (Int × Nd)} {G : GH} {st st' : List (Int × Bool) × List Pair} {M : MH} (h : WkR g TW TO tp bk bo m G st M) (e : st = st') : WkR g TW TO tp bk bo m G st' M := e ▸ h
end
section
variable {α : Type} {E : Env} {f : Fr} {G : GH} {M Mk Ms Mr : MH} {ops rest : List Oper} {q : Bool} {K : Kt} {d : Nat} {ty : TypeId} {pos : String} {aft : Array Edge} {t et : TypeId} {x y kk : Operand} {b : Nat} {k : Int} {m : List (Int × α)} {V : VEnc α}
end
end Go.Fw
