/- A sound tree gone through from the root down, with its nodes in a map. Plain Lean; nothing of the program is named here. No condition. -/
import Derived.Test.YtebkfinhhpelbaaGreatQxNq
import Derived.Test.YtebkfinhhpelbaaGreatQxNp
set_option linter.unusedVariables false
set_option linter.unusedSimpArgs false
set_option linter.unnecessarySimpa false
namespace Go.Fw
open Go Go.RowKit
def bySl (l : List Nd) : List (Int × Nd) := l.foldl (fun m n => putM m n.slot n) []
theorem bySl_succ {l : List Nd} {i : Nat} (h : i < l.length) : bySl (l.take (i + 1)) = putM (bySl (l.take i)) l[i].slot l[i] := by
  unfold bySl; rw [List.take_succ_eq_append_getElem h, List.foldl_append]; rfl
theorem bySl_get (l : List Nd) (k : Int) : ∀ i, i ≤ l.length → getM (bySl (l.take i)) k = (atS (l.take i) k).getLast?
  | 0, _ => rfl
  | i + 1, h => by
    rw [bySl_succ (by omega), getM_put, bySl_get l k i (by omega)]
    by_cases e : l[i].slot = k
    · rw [if_pos e.symm, atS_t (by omega) e]; simp
    · rw [if_neg (fun h => e h.symm), atS_f (by omega) e]
section
variable {c : Cfg} {l : List Nd} {ss : List Seat}
theorem bySl_at (h : SlotsP l) (k : Int) : getM (bySl l) k = if 0 ≤ k ∧ k < l.length then some (getL l k) else none := by
  have h1 := bySl_get l k l.length (Nat.le_refl _)
  rw [List.take_length] at h1
  rw [h1, atS_all h]
  by_cases hk : 0 ≤ k ∧ k < l.length
  · rw [if_pos hk, dif_pos ⟨hk.1, hk.2, by omega⟩]
    obtain ⟨j, rfl⟩ : ∃ j : Nat, k = j := ⟨k.toNat, by omega⟩
    rw [getL_at (by omega)]; simp
  · rw [if_neg hk, dif_neg (by omega)]; rfl
theorem Tree.inMap (t : Tree c l ss) {x : Seat} (hx : x ∈ ss) : getM (bySl l) x.n.slot = some x.n := by
  obtain ⟨h1, h2, _⟩ := t.nd hx
  rw [bySl_at t.slot, if_pos h1, ← h2]
noncomputable def preF (l : List Nd) : Nat → Seat → List Seat
  | 0, x => [x]
  | n + 1, x => x :: (kidsD l x).flatMap (preF l n)
theorem perm_flat {α β : Type} {f g h : α → List β} (e : ∀ x, f x = g x ++ h x) : ∀ (L : List α), (L.flatMap f).Perm (L.flatMap g ++ L.flatMap h)
  | [] => List.Perm.refl _
  | x :: L => by
    rw [List.flatMap_cons, List.flatMap_cons, List.flatMap_cons, e x, List.append_assoc, List.append_assoc]
    refine List.Perm.append_left _ ?_
    refine (List.Perm.append_left _ (perm_flat e L)).trans ?_
    rw [← List.append_assoc, ← List.append_assoc]
    exact List.perm_append_comm.append_right _
theorem Tree.pre_perm (t : Tree c l ss) : ∀ (n : Nat) (R T : List Seat), T = R ++ T.flatMap (kidsD l) → (∀ x ∈ T, x ∈ ss) → (∀ x ∈ R, x.n.level.toNat = n) → T.Perm (R.flatMap (preF l n)) := by
  intro n
  induction n with
  | zero =>
    intro R T hT hs hR
    have hRT : ∀ x ∈ R, x ∈ T := fun x hx => by rw [hT]; exact List.mem_append_left _ hx
    have h0 : ∀ x ∈ R, x.n.level = 0 := fun x hx => by have := t.lvl (hs x (hRT x hx)); have := hR x hx; omega
    have hK : R.flatMap (kidsD l) = [] := List.flatMap_eq_nil_iff.2 fun x hx => kids_leaf (h0 x hx)
    generalize hS : T.flatMap (kidsD l) = S at hT
    have hS2 : S = S.flatMap (kidsD l) := by
      conv => lhs; rw [← hS, hT]
      rw [List.flatMap_append, hK, List.nil_append]
    have hST : ∀ x ∈ S, x ∈ T := fun x hx => by rw [hT]; exact List.mem_append_right _ hx
    have hn := fix_nil2 hS2 fun x hx y hy => by have := (t.kid_lvl (hs x (hST x hx)) hy).2; omega
    rw [hT, hn, List.append_nil]
    exact List.Perm.of_eq (List.flatMap_singleton' R).symm
  | succ n ih =>
    intro R T hT hs hR
    have hRT : ∀ x ∈ R, x ∈ T := fun x hx => by rw [hT]; exact List.mem_append_left _ hx
    generalize hS : T.flatMap (kidsD l) = S at hT
    have hS2 : S = R.flatMap (kidsD l) ++ S.flatMap (kidsD l) := by
      conv => lhs; rw [← hS, hT]
      rw [List.flatMap_append]
    have hST : ∀ x ∈ S, x ∈ T := fun x hx => by rw [hT]; exact List.mem_append_right _ hx
    have h1 := ih (R.flatMap (kidsD l)) S hS2 (fun x hx => hs x (hST x hx)) fun y hy => by
      obtain ⟨x, hx, hyx⟩ := List.mem_flatMap.1 hy
      have := (t.kid_lvl (hs x (hRT x hx)) hyx).2
      have := hR x hx
      omega
    rw [hT]
    refine (List.Perm.append_left R h1).trans ?_
    have h2 := perm_flat (f := preF l (n + 1)) (g := fun x => [x]) (h := fun x => (kidsD l x).flatMap (preF l n)) (fun x => rfl) R
    rw [List.flatMap_singleton' R] at h2
    refine List.Perm.trans ?_ h2.symm
    rw [List.flatMap_assoc]
theorem Tree.slots_nodup (t : Tree c l ss) : ((preF l (rootS l 0).n.level.toNat (rootS l 0)).map fun y : Seat => y.n.slot).Nodup := by
  have h1 := t.pre_perm (rootS l 0).n.level.toNat [rootS l 0] ss (by exact t.fix) (fun x hx => hx) (fun x hx => by simp at hx; rw [hx])
  rw [List.flatMap_cons, List.flatMap_nil, List.append_nil] at h1
  refine ((h1.map fun y : Seat => y.n.slot).nodup_iff).1 ?_
  have h2 := t.perm.map fun n : Nd => n.slot
  rw [List.map_map] at h2
  refine (h2.nodup_iff).2 ?_
  refine List.pairwise_iff_getElem.2 fun i j hi hj hij he => ?_
  rw [List.getElem_map, List.getElem_map] at he
  have h3 := (t.slot i (by simpa using hi)).1
  have h4 := (t.slot j (by simpa using hj)).1
  omega
structure Free (l : List Nd) (n : Nat) (x : Seat) (mt : List (Int × Bool)) : Prop where
  none : ∀ y ∈ preF l n x, getM mt y.n.slot = none
  nd : ((preF l n x).map fun y : Seat => y.n.slot).Nodup
theorem Free.self {n : Nat} {x : Seat} {mt : List (Int × Bool)} (h : Free l n x mt) : getM mt x.n.slot = Option.none := h.none x (by cases n <;> simp [preF])
structure FreeK (l : List Nd) (n : Nat) (x : Seat) (j : Nat) (mt : List (Int × Bool)) : Prop where
  none : ∀ y ∈ ((kidsD l x).drop j).flatMap (preF l n), getM mt y.n.slot = none
  nd : ((((kidsD l x).drop j).flatMap (preF l n)).map fun y : Seat => y.n.slot).Nodup
theorem Free.kids {n : Nat} {x : Seat} {mt : List (Int × Bool)} (h : Free l (n + 1) x mt) : FreeK l n x 0 (putM mt x.n.slot true) := by
  have hnd := h.nd
  rw [preF, List.map_cons, List.nodup_cons] at hnd
  refine ⟨fun y hy => ?_, by rw [List.drop_zero]; exact hnd.2⟩
  rw [List.drop_zero] at hy
  rw [getM_put, if_neg]
  · exact h.none y (by rw [preF]; exact List.mem_cons_of_mem _ hy)
  · intro e
    exact hnd.1 (by rw [← e]; exact List.mem_map.2 ⟨y, hy, rfl⟩)
theorem FreeK.head {n : Nat} {x : Seat} {j : Nat} {mt : List (Int × Bool)} (h : FreeK l n x j mt) (hj : j < (kidsD l x).length) : Free l n (kidsD l x)[j] mt := by
  have e := List.drop_eq_getElem_cons hj
  refine ⟨fun y hy => h.none y (by rw [e, List.flatMap_cons]; exact List.mem_append_left _ hy), ?_⟩
  have := h.nd
  rw [e, List.flatMap_cons, List.map_append, List.nodup_append] at this
  exact this.1
def Same9 (l : List Nd) (n : Nat) (x : Seat) (mt mt' : List (Int × Bool)) : Prop := ∀ k, (∀ y ∈ preF l n x, y.n.slot ≠ k) → getM mt' k = getM mt k
theorem FreeK.tail {n : Nat} {x : Seat} {j : Nat} {mt mt' : List (Int × Bool)} (h : FreeK l n x j mt) (hj : j < (kidsD l x).length) (hs : Same9 l n (kidsD l x)[j] mt mt') : FreeK l n x (j + 1) mt' := by
  have e := List.drop_eq_getElem_cons hj
  have hnd := h.nd
  rw [e, List.flatMap_cons, List.map_append, List.nodup_append] at hnd
  refine ⟨fun y hy => ?_, hnd.2.1⟩
  rw [hs y.n.slot fun z hz he => hnd.2.2 z.n.slot (List.mem_map.2 ⟨z, hz, rfl⟩) y.n.slot (List.mem_map.2 ⟨y, hy, rfl⟩) he]
  exact h.none y (by rw [e, List.flatMap_cons]; exact List.mem_append_right _ hy)
def SameK (l : List Nd) (n : Nat) (x : Seat) (j : Nat) (mt mt' : List (Int × Bool)) : Prop := ∀ k, x.n.slot ≠ k → (∀ y ∈ ((kidsD l x).take j).flatMap (preF l n), y.n.slot ≠ k) → getM mt' k = getM mt k
theorem SameK.zero {n : Nat} {x : Seat} {mt : List (Int × Bool)} : SameK l n x 0 mt (putM mt x.n.slot true) := fun k hk _ => by rw [getM_put, if_neg (fun e => hk e.symm)]
theorem SameK.succ {n : Nat} {x : Seat} {j : Nat} {mt m1 m2 : List (Int × Bool)} (h : SameK l n x j mt m1) (hj : j < (kidsD l x).length) (hs : Same9 l n (kidsD l x)[j] m1 m2) : SameK l n x (j + 1) mt m2 := fun k hk hy => by
  have e : (kidsD l x).take (j + 1) = (kidsD l x).take j ++ [(kidsD l x)[j]] := List.take_succ_eq_append_getElem hj
  rw [hs k fun z hz => hy z (by rw [e, List.flatMap_append]; exact List.mem_append_right _ (by simpa using hz))]
  exact h k hk fun y h2 => hy y (by rw [e, List.flatMap_append]; exact List.mem_append_left _ h2)
theorem SameK.all {n : Nat} {x : Seat} {j : Nat} {mt m1 : List (Int × Bool)} (h : SameK l n x j mt m1) (hj : (kidsD l x).length ≤ j) : Same9 l (n + 1) x mt m1 := fun k hy => by
  refine h k (hy x (by simp [preF])) fun y h2 => hy y ?_
  rw [List.take_of_length_le hj] at h2
  rw [preF]; exact List.mem_cons_of_mem _ h2
theorem same9_leaf {x : Seat} {mt : List (Int × Bool)} {b : Bool} : Same9 l 0 x mt (putM mt x.n.slot b) := fun k hy => by
  rw [getM_put, if_neg (fun e => hy x (by simp [preF]) e.symm)]
noncomputable def viewsF (l : List Nd) (n : Nat) (x : Seat) : List Pair := (dfsF l n x).flatMap viewS
theorem views_0 (x : Seat) : viewsF l 0 x = viewS x := by simp [viewsF, dfsF]
noncomputable def viewsK (l : List Nd) (n : Nat) (x : Seat) (j : Nat) : List Pair := ((kidsD l x).take j).flatMap (viewsF l n)
theorem viewsK_succ {n : Nat} {x : Seat} {j : Nat} (hj : j < (kidsD l x).length) : viewsK l n x (j + 1) = viewsK l n x j ++ viewsF l n (kidsD l x)[j] := by
  unfold viewsK; rw [List.take_succ_eq_append_getElem hj, List.flatMap_append]; simp
theorem viewsK_all {n : Nat} {x : Seat} {j : Nat} (hj : (kidsD l x).length ≤ j) : viewsK l n x j = viewsF l (n + 1) x := by
  unfold viewsK; rw [List.take_of_length_le hj]
  unfold viewsF
  rw [dfsF, List.flatMap_assoc]
theorem viewsK_le {n : Nat} {x : Seat} {j : Nat} (hj : j < (kidsD l x).length) : (viewsK l n x j).length + (viewsF l n (kidsD l x)[j]).length ≤ (viewsF l (n + 1) x).length := by
  have h1 := viewsK_all (l := l) (n := n) (x := x) (Nat.le_refl (kidsD l x).length)
  rw [← h1, ← List.length_append, ← viewsK_succ hj]
  have h2 : ∀ d, j + 1 + d ≤ (kidsD l x).length → (viewsK l n x (j + 1)).length ≤ (viewsK l n x (j + 1 + d)).length := by
    intro d
    induction d with
    | zero => intro _; exact Nat.le_refl _
    | succ d ih =>
      intro h
      have := ih (by omega)
      rw [show j + 1 + (d + 1) = (j + 1 + d) + 1 by omega, viewsK_succ (j := j + 1 + d) (by omega), List.length_append]; omega
  have := h2 ((kidsD l x).length - (j + 1)) (by omega)
  rwa [show j + 1 + ((kidsD l x).length - (j + 1)) = (kidsD l x).length by omega] at this
theorem viewsF_le (t : Tree c l ss) : (viewsF l (rootS l 0).n.level.toNat (rootS l 0)).length ≤ 10246400 := by
  have h1 : viewsF l (rootS l 0).n.level.toNat (rootS l 0) = mapN l := by rw [mapN_t t.sts, t.leaves]; rfl
  rw [h1]; exact t.map_len
theorem Tree.views (t : Tree c l ss) : viewsF l (rootS l 0).n.level.toNat (rootS l 0) = mapN l := by
  rw [mapN_t t.sts, t.leaves]; rfl
theorem Tree.pre_len (t : Tree c l ss) : ∀ (n : Nat) (x : Seat), x ∈ ss → x.n.level.toNat = n → 2 ^ (n + 1) ≤ (preF l n x).length + 1 := by
  intro n
  induction n with
  | zero => intro x _ _; simp [preF]
  | succ n ih =>
    intro x hx hn
    have h0 : ¬ x.n.level = 0 := by omega
    have hk := (t.inner hx h0).1.2.1
    have h1 := (kids_all (t.kids hx) h0).1
    have hl : (kidsD l x).length = x.n.kids.length := by rw [h1, kidsF_len]
    have key : ∀ y ∈ kidsD l x, 2 ^ (n + 1) ≤ (preF l n y).length + 1 := fun y hy => by
      have := t.kid_lvl hx hy
      exact ih y this.1 (by omega)
    rw [preF, List.length_cons]
    match hL : kidsD l x with
    | [] => rw [hL] at hl; simp at hl; omega
    | [a] => rw [hL] at hl; simp at hl; omega
    | a :: b :: R =>
      rw [hL] at key
      have ha := key a (by simp)
      have hb := key b (by simp)
      rw [List.flatMap_cons, List.flatMap_cons, List.length_append, List.length_append]
      have : 2 ^ (n + 1 + 1) = 2 ^ (n + 1) + 2 ^ (n + 1) := by rw [Nat.pow_succ]; omega
      omega
theorem Tree.height (t : Tree c l ss) : (rootS l 0).n.level ≤ 5 := by
  have h1 := t.pre_perm (rootS l 0).n.level.toNat [rootS l 0] ss (by exact t.fix) (fun x hx => hx) (fun x hx => by simp at hx; rw [hx])
  rw [List.flatMap_cons, List.flatMap_nil, List.append_nil] at h1
  have h2 := t.pre_len _ _ t.root rfl
  rw [← h1.length_eq, t.len] at h2
  have h3 := t.sml.1
  apply Classical.byContradiction
  intro hn
  have h4 : 2 ^ 7 ≤ 2 ^ ((rootS l 0).n.level.toNat + 1) := Nat.pow_le_pow_right (by omega) (by omega)
  omega
theorem Tree.ms_small (t : Tree c l ss) : ∀ x ∈ ss, x.ms.length ≤ 1024 * ((rootS l 0).n.level - x.n.level).toNat ∧ x.n.level ≤ (rootS l 0).n.level := by
  refine t.ind ⟨Nat.zero_le _, Int.le_refl _⟩ fun x hx h0 ih j hj => ?_
  have ha := t.at hx h0 hj
  have hms := congrArg List.length (t.kid_ms hx (t.rst x hx) j).1
  rw [List.length_append] at hms
  have c1 : (clips (kidSt l x j).s x.n.msgs).length ≤ x.n.msgs.length := clips_le
  have c2 : (clips (kidSt l x j).s x.ms).length ≤ x.ms.length := clips_le
  have c3 := t.msgs_len hx
  have : ((rootS l 0).n.level - (kidSt l x j).n.level).toNat = ((rootS l 0).n.level - x.n.level).toNat + 1 := by omega
  rw [this]
  omega
theorem free_root (t : Tree c l ss) : Free l (rootS l 0).n.level.toNat (rootS l 0) [] := ⟨fun y _ => rfl, t.slots_nodup⟩
theorem Tree.kidsD_at (t : Tree c l ss) {x : Seat} (hx : x ∈ ss) (h0 : ¬ x.n.level = 0) : (kidsD l x).length = x.n.kids.length ∧ ∀ j (h : j < (kidsD l x).length), (kidsD l x)[j] = kidSt l x j := by
  have h1 := (kids_all (t.kids hx) h0).1
  refine ⟨by rw [h1, kidsF_len], fun j h => ?_⟩
  simp only [h1, kidsF, List.getElem_map, List.getElem_range]
def WkR (g TW TO tp : Nat) (bk bo : Nat) (m : List (Int × Nd)) (G : GH) (st : List (Int × Bool) × List Pair) (M : MH) : Prop :=
  ∃ (vat : Value) (bm : Nat) (vo : Value) (Mm Mo : MH), M = (bk, .cells (List.toArray [vat, .map (some bm), .func (.func g) #[] #[.pointer (some ⟨bo, 0, none⟩)]]) TW (0, 0)) :: (bo, .cells (List.toArray [vo]) TO (0, 0)) :: (Mm ++ Mo) ∧
    MpG vNode G vat m ∧ MpR vBool bm G st.1 Mm ∧ OwnR ePair tp G vo st.2 Mo
theorem WkR.mono {g TW TO tp bk bo : Nat} {m : List (Int × Nd)} {G G' : GH} {st : List (Int × Bool) × List Pair} {M : MH} (hl : Le G G') (h : WkR g TW TO tp bk bo m G st M) : WkR g TW TO tp bk bo m G' st M := by
  obtain ⟨vat, bm, vo, Mm, Mo, h1, h2, h3, h4⟩ := h
  exact ⟨vat, bm, vo, Mm, Mo, h1, h2.mono hl, h3.mono hl, h4.mono hl⟩
theorem WkR.cast {g TW TO tp bk bo : Nat} {m : List (Int × Nd)} {G : GH} {st st' : List (Int × Bool) × List Pair} {M : MH} (h : WkR g TW TO tp bk bo m G st M) (e : st = st') : WkR g TW TO tp bk bo m G st' M := e ▸ h
end
section
variable {α : Type} {E : Env} {f : Fr} {G : GH} {M Mk Ms Mr : MH} {ops rest : List Oper} {q : Bool} {K : Kt} {d : Nat} {ty : TypeId} {pos : String} {aft : Array Edge} {t et : TypeId} {x y kk : Operand} {b : Nat} {k : Int} {m : List (Int × α)} {V : VEnc α}
theorem W.lookG {z0 mv : Value} {z : α} (ht : mapIK E.P t = some et) (hz : zvK E.P et = some z0) (hzz : V.R G z0 z) (hm : MpG V G mv m) (hx : ev f x = mv) (hk : ev f kk = .int .i64 k)
    (h : ∀ v, V.R G v ((getM m k).getD z) → W E ops.toArray q rest (upd f d (.tuple #[v, .bool (getM m k).isSome])) G M K) (hd : Nat.blt d E.n = true := by rfl) :
    W E ops.toArray q (⟨some d, .lookup t x kk true, ty, pos, aft, none⟩ :: rest) f G M K := by
  obtain ⟨v, h1, h2⟩ := look_gh (E := E) (f := f) (M := M) (d := d) (ty := ty) (pos := pos) (aft := aft) (ok := true) ht hz hzz hm hx hk
  exact W.ok h2 (h v h1) hd
theorem W.lookO {z0 : Value} {z : α} (ht : mapIK E.P t = some et) (hz : zvK E.P et = some z0) (hzz : V.R G z0 z) (hx : ev f x = .map (some b)) (hk : ev f kk = .int .i64 k) (hm : MpR V b G m Ms) (hp : (Ms ++ Mr).Perm M)
    (h : ∀ v, V.R G v ((getM m k).getD z) → W E ops.toArray q rest (upd f d v) G M K) (hd : Nat.blt d E.n = true := by rfl) :
    W E ops.toArray q (⟨some d, .lookup t x kk false, ty, pos, aft, none⟩ :: rest) f G M K := by
  obtain ⟨v, h1, h2⟩ := look_own (E := E) (f := f) (M := M) (d := d) (ty := ty) (pos := pos) (aft := aft) (ok := false) ht hz hzz hx hk hm hp
  exact W.ok h2 (h v h1) hd
theorem W.callV {g : FuncId} {fst caps : List Value} {args : List Operand} {at' : Array TypeId} {vs : List Value} {Mp Mr : MH} {Q : Value → GH → MH → Prop} (hx : ev f x = .func (.func g) fst.toArray caps.toArray) (hc : Fc E.P g vs G Mp Q) (ha : fst ++ (args.map (ev f) ++ caps) = vs) (hM : (Mp ++ Mr).Perm M)
    (k : ∀ v G' M', Le G G' → Q v G' M' → W E ops.toArray false rest (upd f d v) G' (M' ++ Mr) K) (hd : Nat.blt d E.n = true := by rfl) :
    W E ops.toArray false (⟨some d, .call { callee := .value x, args := args.toArray, argTypes := at' }, ty, pos, aft, none⟩ :: rest) f G M K := by
  intro a w Q' hi hr hK
  refine wpList_plain rfl fun K' hK' => ?_
  unfold Oper.wp
  rw [hi.eval, run_callV hc.1 hx ha]
  have hr' := hr.r.perm hM
  have hw : Real w (fun b => b ∈ (Mp.map (·.1))) G Mp w := by
    have hs := hr'.sub (M' := Mp) (List.sublist_append_left _ _)
    exact ⟨rfl, rfl, rfl, Nat.le_refl _, fun _ _ _ => rfl, hr.r.ro, hs.mu, hs.dis, hs.nd, fun p hp => .inr (List.mem_map_of_mem hp)⟩
  refine (hc.2 w hw).mono ?_
  rintro e w' ⟨v', G', M', rfl, h2, h3, h4, h5⟩
  have h6 := Real.call hr' h2 h4
  refine hK' _ _ (k v' G' M' h3 h5 _ w' Q' (hi.put hd v') ⟨h6, hr.le.trans h3, ?_⟩ hK)
  intro b hb hb'
  cases hg : G b with
  | none =>
    rcases h4 b hg hb' with h7 | h7
    · exact .inl (Nat.le_trans hr.r.size h7)
    · obtain ⟨p, hp, e⟩ := List.mem_map.1 h7
      rcases hr'.lo p (by simp [hp]) with h8 | h8
      · exact .inl (e ▸ h8)
      · exact .inr (e ▸ h8)
  | some o => exact hr.nw b hb (by simp [hg])
end
end Go.Fw
