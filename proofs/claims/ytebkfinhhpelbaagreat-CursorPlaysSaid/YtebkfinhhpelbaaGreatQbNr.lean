/- A sound tree gone through from the root down, with its nodes in a map. Plain Lean; nothing of the program is named here. No condition. -/
import Derived.Test.YtebkfinhhpelbaaGreatQbNp
set_option linter.unusedVariables false
set_option linter.unusedSimpArgs false
set_option linter.unnecessarySimpa false
set_option maxRecDepth 100000
set_option maxHeartbeats 1600000

namespace Go.Fw
open Go Go.RowKit
def bySl (l : List Nd) : List (Int × Nd) := l.foldl (fun m n => putM m n.slot n) []
theorem bySl_succ {l : List Nd} {i : Nat} (h : i < l.length) : bySl (l.take (i + 1)) = putM (bySl (l.take i)) l[i].slot l[i] := by
 unfold bySl; rw [List.take_succ_eq_append_getElem h, List.foldl_append]; rfl
theorem bySl_get (l : List Nd) (k : Int) : ∀ i, i ≤ l.length → getM (bySl (l.take i)) k = (atS (l.take i) k).getLast?
 | 0, _ => rfl
 | i + 1, h => by
  rw [bySl_succ (by omega), getM_put, bySl_get l k i (by omega)]
  by_cases e : l[i].slot = k
  ·rw [if_pos e.symm, atS_t (by omega) e]; simp
  ·rw [if_neg (fun h => e h.symm), atS_f (by omega) e]
section
variable {c : Cfg} {l : List Nd} {ss : List Seat}
theorem bySl_at (h : SlotsP l) (k : Int) : getM (bySl l) k = if 0 ≤ k ∧ k < l.length then some (getL l k) else none := by
 have h1 := bySl_get l k l.length (Nat.le_refl _)
 rw [List.take_length] at h1
 rw [h1, atS_all h]
 by_cases hk : 0 ≤ k ∧ k < l.length
 ·rw [if_pos hk, dif_pos ⟨hk.1, hk.2, by omega⟩]
  obtain ⟨j, rfl⟩ : ∃ j : Nat, k = j := ⟨k.toNat, by omega⟩
  rw [getL_at (by omega)]; simp
 ·rw [if_neg hk, dif_neg (by omega)]; rfl
theorem Tree.inMap (t : Tree c l ss) {x : Seat} (hx : x ∈ ss) : getM (bySl l) x.n.slot = some x.n := by
 obtain ⟨h1, h2, _⟩ := t.nd hx
 rw [bySl_at t.slot, if_pos h1, ← h2]
noncomputable def preF (l : List Nd) : Nat → Seat → List Seat
 | 0, x => [x]
 | n + 1, x => x :: (kidsD l x).flatMap (preF l n)
theorem perm_flat {α β : Type} {f g h : α → List β} (e : ∀ x, f x = g x ++ h x) : ∀ (L : List α), (L.flatMap f).Perm (L.flatMap g ++ L.flatMap h)
 | [] => List.Perm.refl _
 | x :: L => by
  rw [List.flatMap_cons, List.flatMap_cons, List.flatMap_cons, e x, List.append_assoc, List.append_assoc]
  refine List.Perm.append_left _ ?_
  refine (List.Perm.append_left _ (perm_flat e L)).trans ?_
  rw [← List.append_assoc, ← List.append_assoc]
  exact List.perm_append_comm.append_right _
theorem Tree.pre_perm (t : Tree c l ss) : ∀ (n : Nat) (R T : List Seat), T = R ++ T.flatMap (kidsD l) → (∀ x ∈ T, x ∈ ss) → (∀ x ∈ R, x.n.level.toNat = n) → T.Perm (R.flatMap (preF l n)) := by
 intro n
 induction n with
 | zero =>
  intro R T hT hs hR
  have hRT : ∀ x ∈ R, x ∈ T := fun x hx => by rw [hT]; exact List.mem_append_left _ hx
  have h0 : ∀ x ∈ R, x.n.level = 0 := fun x hx => by have := t.lvl (hs x (hRT x hx)); have := hR x hx; omega
  have hK : R.flatMap (kidsD l) = [] := List.flatMap_eq_nil_iff.2 fun x hx => kids_leaf (h0 x hx)
  generalize hS : T.flatMap (kidsD l) = S at hT
  have hS2 : S = S.flatMap (kidsD l) := by
   conv => lhs; rw [← hS, hT]
   rw [List.flatMap_append, hK, List.nil_append]
  have hST : ∀ x ∈ S, x ∈ T := fun x hx => by rw [hT]; exact List.mem_append_right _ hx
  have hn := fix_nil2 hS2 fun x hx y hy => by have := (t.kid_lvl (hs x (hST x hx)) hy).2; omega
  rw [hT, hn, List.append_nil]
  exact List.Perm.of_eq (List.flatMap_singleton' R).symm
 | succ n ih =>
  intro R T hT hs hR
  have hRT : ∀ x ∈ R, x ∈ T := fun x hx => by rw [hT]; exact List.mem_append_left _ hx
  generalize hS : T.flatMap (kidsD l) = S at hT
  have hS2 : S = R.flatMap (kidsD l) ++ S.flatMap (kidsD l) := by
   conv => lhs; rw [← hS, hT]
   rw [List.flatMap_append]
  have hST : ∀ x ∈ S, x ∈ T := fun x hx => by rw [hT]; exact List.mem_append_right _ hx
  have h1 := ih (R.flatMap (kidsD l)) S hS2 (fun x hx => hs x (hST x hx)) fun y hy => by
   obtain ⟨x, hx, hyx⟩ := List.mem_flatMap.1 hy
   have := (t.kid_lvl (hs x (hRT x hx)) hyx).2
   have := hR x hx
   omega
  rw [hT]
  refine (List.Perm.append_left R h1).trans ?_
  have h2 := perm_flat (f := preF l (n + 1)) (g := fun x => [x]) (h := fun x => (kidsD l x).flatMap (preF l n)) (fun x => rfl) R
  rw [List.flatMap_singleton' R] at h2
  refine List.Perm.trans ?_ h2.symm
  rw [List.flatMap_assoc]
theorem Tree.slots_nodup (t : Tree c l ss) : ((preF l (rootS l 0).n.level.toNat (rootS l 0)).map fun y : Seat => y.n.slot).Nodup := by
 have h1 := t.pre_perm (rootS l 0).n.level.toNat [rootS l 0] ss (by exact t.fix) (fun x hx => hx) (fun x hx => by simp at hx; rw [hx])
 rw [List.flatMap_cons, List.flatMap_nil, List.append_nil] at h1
 refine ((h1.map fun y : Seat => y.n.slot).nodup_iff).1 ?_
 have h2 := t.perm.map fun n : Nd => n.slot
 rw [List.map_map] at h2
 refine (h2.nodup_iff).2 ?_
 refine List.pairwise_iff_getElem.2 fun i j hi hj hij he => ?_
 rw [List.getElem_map, List.getElem_map] at he
 have h3 := (t.slot i (by simpa using hi)).1
 have h4 := (t.slot j (by simpa using hj)).1
 omega
structure Free (l : List Nd) (n : Nat) (x : Seat) (mt : List (Int × Bool)) : Prop where
 none : ∀ y ∈ preF l n x, getM mt y.n.slot = none
 nd : ((preF l n x).map fun y : Seat => y.n.slot).Nodup
theorem Free.self {n : Nat} {x : Seat} {mt : List (Int × Bool)} (h : Free l n x mt) : getM mt x.n.slot = Option.none := h.none x (by cases n <;> simp [preF])
structure FreeK (l : List Nd) (n : Nat) (x : Seat) (j : Nat) (mt : List (Int × Bool)) : Prop where
 none : ∀ y ∈ ((kidsD l x).drop j).flatMap (preF l n), getM mt y.n.slot = none
 nd : ((((kidsD l x).drop j).flatMap (preF l n)).map fun y : Seat => y.n.slot).Nodup
theorem Free.kids {n : Nat} {x : Seat} {mt : List (Int × Bool)} (h : Free l (n + 1) x mt) : FreeK l n x 0 (putM mt x.n.slot true) := by
 have hnd := h.nd
 rw [preF, List.map_cons, List.nodup_cons] at hnd
 refine ⟨fun y hy => ?_, by rw [List.drop_zero]; exact hnd.2⟩
 rw [List.drop_zero] at hy
 rw [getM_put, if_neg]
 ·exact h.none y (by rw [preF]; exact List.mem_cons_of_mem _ hy)
 ·intro e
  exact hnd.1 (by rw [← e]; exact List.mem_map.2 ⟨y, hy, rfl⟩)
theorem FreeK.head {n : Nat} {x : Seat} {j : Nat} {mt : List (Int × Bool)} (h : FreeK l n x j mt) (hj : j < (kidsD l x).length) : Free l n (kidsD l x)[j] mt := by
 have e := List.drop_eq_getElem_cons hj
 refine ⟨fun y hy => h.none y (by rw [e, List.flatMap_cons]; exact List.mem_append_left _ hy), ?_⟩
 have := h.nd
 rw [e, List.flatMap_cons, List.map_append, List.nodup_append] at this
 exact this.1
def Same9 (l : List Nd) (n : Nat) (x : Seat) (mt mt' : List (Int × Bool)) : Prop := ∀ k, (∀ y ∈ preF l n x, y.n.slot ≠ k) → getM mt' k = getM mt k
theorem FreeK.tail {n : Nat} {x : Seat} {j : Nat} {mt mt' : List (Int × Bool)} (h : FreeK l n x j mt) (hj : j < (kidsD l x).length) (hs : Same9 l n (kidsD l x)[j] mt mt') : FreeK l n x (j + 1) mt' := by
 have e := List.drop_eq_getElem_cons hj
 have hnd := h.nd
 rw [e, List.flatMap_cons, List.map_append, List.nodup_append] at hnd
 refine ⟨fun y hy => ?_, hnd.2.1⟩
 rw [hs y.n.slot fun z hz he => hnd.2.2 z.n.slot (List.mem_map.2 ⟨z, hz, rfl⟩) y.n.slot (List.mem_map.2 ⟨y, hy, rfl⟩) he]
 exact h.none y (by rw [e, List.flatMap_cons]; exact List.mem_append_right _ hy)
def SameK (l : List Nd) (n : Nat) (x : Seat) (j : Nat) (mt mt' : List (Int × Bool)) : Prop := ∀ k, x.n.slot ≠ k → (∀ y ∈ ((kidsD l x).take j).flatMap (preF l n), y.n.slot ≠ k) → getM mt' k = getM mt k
theorem SameK.zero {n : Nat} {x : Seat} {mt : List (Int × Bool)} : SameK l n x 0 mt (putM mt x.n.slot true) := fun k hk _ => by rw [getM_put, if_neg (fun e => hk e.symm)]
theorem SameK.succ {n : Nat} {x : Seat} {j : Nat} {mt m1 m2 : List (Int × Bool)} (h : SameK l n x j mt m1) (hj : j < (kidsD l x).length) (hs : Same9 l n (kidsD l x)[j] m1 m2) : SameK l n x (j + 1) mt m2 := fun k hk hy => by
 have e : (kidsD l x).take (j + 1) = (kidsD l x).take j ++ [(kidsD l x)[j]] := List.take_succ_eq_append_getElem hj
 rw [hs k fun z hz => hy z (by rw [e, List.flatMap_append]; exact List.mem_append_right _ (by simpa using hz))]
 exact h k hk fun y h2 => hy y (by rw [e, List.flatMap_append]; exact List.mem_append_left _ h2)
theorem SameK.all {n : Nat} {x : Seat} {j : Nat} {mt m1 : List (Int × Bool)} (h : SameK l n x j mt m1) (hj : (kidsD l x).length ≤ j) : Same9 l (n + 1) x mt m1 := fun k hy => by
 refine h k (hy x (by simp [preF])) fun y h2 => hy y ?_
 rw [List.take_of_length_le hj] at h2
 rw [preF]; exact List.mem_cons_of_mem _ h2
noncomputable def viewsF (l : List Nd) (n : Nat) (x : Seat) : List Pair := (dfsF l n x).flatMap viewS
noncomputable def viewsK (l : List Nd) (n : Nat) (x : Seat) (j : Nat) : List Pair := ((kidsD l x).take j).flatMap (viewsF l n)
theorem Tree.views (t : Tree c l ss) : viewsF l (rootS l 0).n.level.toNat (rootS l 0) = mapN l := by
 rw [mapN_t t.sts, t.leaves]; rfl
theorem Tree.pre_len (t : Tree c l ss) : ∀ (n : Nat) (x : Seat), x ∈ ss → x.n.level.toNat = n → 2 ^ (n + 1) ≤ (preF l n x).length + 1 := by
 intro n
 induction n with
 | zero => intro x _ _; simp [preF]
 | succ n ih =>
  intro x hx hn
  have h0 : ¬ x.n.level = 0 := by omega
  have hk := (t.inner hx h0).1.2.1
  have h1 := (kids_all (t.kids hx) h0).1
  have hl : (kidsD l x).length = x.n.kids.length := by rw [h1, kidsF_len]
  have key : ∀ y ∈ kidsD l x, 2 ^ (n + 1) ≤ (preF l n y).length + 1 := fun y hy => by
   have := t.kid_lvl hx hy
   exact ih y this.1 (by omega)
  rw [preF, List.length_cons]
  match hL : kidsD l x with
  | [] => rw [hL] at hl; simp at hl; omega
  | [a] => rw [hL] at hl; simp at hl; omega
  | a :: b :: R =>
   rw [hL] at key
   have ha := key a (by simp)
   have hb := key b (by simp)
   rw [List.flatMap_cons, List.flatMap_cons, List.length_append, List.length_append]
   have : 2 ^ (n + 1 + 1) = 2 ^ (n + 1) + 2 ^ (n + 1) := by rw [Nat.pow_succ]; omega
   omega
theorem Tree.height (t : Tree c l ss) : (rootS l 0).n.level ≤ 5 := by
 have h1 := t.pre_perm (rootS l 0).n.level.toNat [rootS l 0] ss (by exact t.fix) (fun x hx => hx) (fun x hx => by simp at hx; rw [hx])
 rw [List.flatMap_cons, List.flatMap_nil, List.append_nil] at h1
 have h2 := t.pre_len _ _ t.root rfl
 rw [← h1.length_eq, t.len] at h2
 have h3 := t.sml.1
 apply Classical.byContradiction
 intro hn
 have h4 : 2 ^ 7 ≤ 2 ^ ((rootS l 0).n.level.toNat + 1) := Nat.pow_le_pow_right (by omega) (by omega)
 omega
theorem Tree.ms_small (t : Tree c l ss) : ∀ x ∈ ss, x.ms.length ≤ 1024 * ((rootS l 0).n.level - x.n.level).toNat ∧ x.n.level ≤ (rootS l 0).n.level := by
 refine t.ind ⟨Nat.zero_le _, Int.le_refl _⟩ fun x hx h0 ih j hj => ?_
 have ha := t.at hx h0 hj
 have hms := congrArg List.length (t.kid_ms hx (t.rst x hx) j).1
 rw [List.length_append] at hms
 have c1 : (clips (kidSt l x j).s x.n.msgs).length ≤ x.n.msgs.length := clips_le
 have c2 : (clips (kidSt l x j).s x.ms).length ≤ x.ms.length := clips_le
 have c3 := t.msgs_len hx
 have : ((rootS l 0).n.level - (kidSt l x j).n.level).toNat = ((rootS l 0).n.level - x.n.level).toNat + 1 := by omega
 rw [this]
 omega
theorem Tree.map_small (t : Tree c l ss) : (mapN l).length ≤ 600000 := by
 have h5 := t.height
 have h1 := flatv_len (b := 5184) (f := viewS) (T := leavesS ss) fun x hx => by
  have hx := (List.mem_filter.1 hx).1
  have g1 := t.rows hx
  have g2 : (x.n.rows.filter fun p => x.s.has p.key).length ≤ x.n.rows.length := List.length_filter_le _ _
  have g3 := t.rows_len hx
  have g4 := (t.ms_small x hx).1
  have g7 := t.lvl hx
  have g5 : (clips x.s x.ms).length ≤ x.ms.length := clips_le
  have g6 := fold_lenF (l := x.n.rows.filter fun p => x.s.has p.key) (ms := clips x.s x.ms) (g1.filter _) (clips_fit (by have := (t.fits x hx).1.1; omega) fun m hm => msgR_key ((t.fits x hx).2 m hm))
  unfold viewS
  omega
 have h2 : (leavesS ss).length ≤ ss.length := List.length_filter_le _ _
 have h3 := t.len
 have h4 := t.sml.1
 rw [mapN_t t.sts]
 have h6 : (leavesS ss).length * 5184 ≤ 100 * 5184 := Nat.mul_le_mul_right 5184 (by omega)
 exact Nat.le_trans h1 (Nat.le_trans h6 (by decide))
theorem Tree.kidsD_at (t : Tree c l ss) {x : Seat} (hx : x ∈ ss) (h0 : ¬ x.n.level = 0) : (kidsD l x).length = x.n.kids.length ∧ ∀ j (h : j < (kidsD l x).length), (kidsD l x)[j] = kidSt l x j := by
 have h1 := (kids_all (t.kids hx) h0).1
 refine ⟨by rw [h1, kidsF_len], fun j h => ?_⟩
 simp only [h1, kidsF, List.getElem_map, List.getElem_range]
def WkR (g TW TO tp : Nat) (bk bo : Nat) (m : List (Int × Nd)) (G : GH) (st : List (Int × Bool) × List Pair) (M : MH) : Prop :=
 ∃ (vat : Value) (bm : Nat) (vo : Value) (Mm Mo : MH), M = (bk, .cells (List.toArray [vat, .map (some bm), .func (.func g) #[] #[.pointer (some ⟨bo, 0, none⟩)]]) TW (0, 0)) :: (bo, .cells (List.toArray [vo]) TO (0, 0)) :: (Mm ++ Mo) ∧
  MpG vNode G vat m ∧ MpR vBool bm G st.1 Mm ∧ OwnR ePair tp G vo st.2 Mo
theorem WkR.mono {g TW TO tp bk bo : Nat} {m : List (Int × Nd)} {G G' : GH} {st : List (Int × Bool) × List Pair} {M : MH} (hl : Le G G') (h : WkR g TW TO tp bk bo m G st M) : WkR g TW TO tp bk bo m G' st M := by
 obtain ⟨vat, bm, vo, Mm, Mo, h1, h2, h3, h4⟩ := h
 exact ⟨vat, bm, vo, Mm, Mo, h1, h2.mono hl, h3.mono hl, h4.mono hl⟩
theorem WkR.cast {g TW TO tp bk bo : Nat} {m : List (Int × Nd)} {G : GH} {st st' : List (Int × Bool) × List Pair} {M : MH} (h : WkR g TW TO tp bk bo m G st M) (e : st = st') : WkR g TW TO tp bk bo m G st' M := e ▸ h
end
section
variable {α : Type} {E : Env} {f : Fr} {G : GH} {M Mk Ms Mr : MH} {ops rest : List Oper} {q : Bool} {K : Kt} {d : Nat} {ty : TypeId} {pos : String} {aft : Array Edge} {t et : TypeId} {x y kk : Operand} {b : Nat} {k : Int} {m : List (Int × α)} {V : VEnc α}
theorem W.callV {g : FuncId} {fst caps : List Value} {args : List Operand} {at' : Array TypeId} {vs : List Value} {Mp Mr : MH} {Q : Value → GH → MH → Prop} (hx : ev f x = .func (.func g) fst.toArray caps.toArray) (hc : Fc E.P g vs G Mp Q) (ha : fst ++ (args.map (ev f) ++ caps) = vs) (hM : (Mp ++ Mr).Perm M)
  (k : ∀ v G' M', Le G G' → Q v G' M' → W E ops.toArray false rest (upd f d v) G' (M' ++ Mr) K) (hd : Nat.blt d E.n = true := by rfl) :
  W E ops.toArray false (⟨some d, .call { callee := .value x, args := args.toArray, argTypes := at' }, ty, pos, aft, none⟩ :: rest) f G M K := by
 intro a w Q' hi hr hK
 refine wpList_plain rfl fun K' hK' => ?_
 unfold Oper.wp
 rw [hi.eval, run_callV hc.1 hx ha]
 have hr' := hr.r.perm hM
 have hw : Real w (fun b => b ∈ (Mp.map (·.1))) G Mp w := by
  have hs := hr'.sub (M' := Mp) (List.sublist_append_left _ _)
  exact ⟨rfl, rfl, rfl, Nat.le_refl _, fun _ _ _ => rfl, hr.r.ro, hs.mu, hs.dis, hs.nd, fun p hp => .inr (List.mem_map_of_mem hp)⟩
 refine (hc.2 w hw).mono ?_
 rintro e w' ⟨v', G', M', rfl, h2, h3, h4, h5⟩
 have h6 := Real.call hr' h2 h4
 refine hK' _ _ (k v' G' M' h3 h5 _ w' Q' (hi.put hd v') ⟨h6, hr.le.trans h3, ?_⟩ hK)
 intro b hb hb'
 cases hg : G b with
 | none =>
  rcases h4 b hg hb' with h7 | h7
  ·exact .inl (Nat.le_trans hr.r.size h7)
  ·obtain ⟨p, hp, e⟩ := List.mem_map.1 h7
   rcases hr'.lo p (by simp [hp]) with h8 | h8
   ·exact .inl (e ▸ h8)
   ·exact .inr (e ▸ h8)
 | some o => exact hr.nw b hb (by simp [hg])
end
end Go.Fw
namespace Go.Proofs.YtebkfinhhpelbaaGreat
open Go Go.Fw Go.RowKit
theorem mk125 : mapIK Tryz.prog 125 = some 47 := by kernel_rfl
theorem mz47 : zvK Tryz.prog 47 = some (.agg #[.int .i64 0, .int .i64 0, .slice none 0 0, .slice none 0 0, .string ⟨#[]⟩, .bool false, .int .i64 0, .int .i64 0, .slice none 0 0, .slice none 0 0]) := by kernel_rfl
end Go.Proofs.YtebkfinhhpelbaaGreat

namespace Go.Fw
open Go Go.RowKit
variable {c : Cfg} {l : List Nd} {ss : List Seat}
def Wst (l : List Msg) : Prop := l.Pairwise fun a b => a.stamp ≤ b.stamp
theorem Rst.wst {l : List Msg} (h : Rst l) : Wst l := h.imp fun h => Int.le_of_lt h
theorem merge_wst : ∀ (n : Nat) (C : Ls), totN C = n → (∀ L ∈ C, Wst L) → Wst (mergeN C) := by
 intro n
 induction n with
 | zero =>
  intro C h _
  rcases best_or C with h1 | ⟨b, hb⟩
  ·rw [merge_nil h1]; exact List.Pairwise.nil
  ·have := totN_set hb; omega
 | succ n ih =>
  intro C h hC
  rcases best_or C with h1 | ⟨b, hb⟩
  ·rw [merge_nil h1]; exact List.Pairwise.nil
  ·rw [merge_step hb]
   refine List.pairwise_cons.2 ⟨fun m hm => ?_, ih _ (by have := totN_set hb; omega) ?_⟩
   ·have hm2 : m ∈ C.flatten := (flat_best hb).mem_iff.1 (List.mem_cons_of_mem _ ((merge_perm _ _ rfl).mem_iff.1 hm))
    obtain ⟨L, hL, hmL⟩ := List.mem_flatten.1 hm2
    obtain ⟨j, hj, rfl⟩ := List.getElem_of_mem hL
    obtain ⟨q, hq, rfl⟩ := List.getElem_of_mem hmL
    have h3 := (hb.min j hj (by omega)).1
    rw [stN_at hb.ne, stN_at (show 0 < C[j].length by omega)] at h3
    have h4 : (C[j][0]'(by omega)).stamp ≤ C[j][q].stamp := by
     by_cases e0 : q = 0
     ·subst e0; exact Int.le_refl _
     ·exact List.pairwise_iff_getElem.1 (hC _ (List.getElem_mem hj)) 0 q (by omega) hq (by omega)
    omega
   ·intro L hL
    rcases List.mem_or_eq_of_mem_set hL with h | h
    ·exact hC _ h
    ·subst h; exact List.Pairwise.sublist (List.drop_sublist _ _) (hC _ (List.getElem_mem _))
theorem clips_wst {s : Span} {A : List Msg} (h : Wst A) : Wst (clips s A) := by
 unfold Wst clips
 rw [List.pairwise_filterMap]
 refine List.Pairwise.imp (fun {a b} hab x hx y hy => ?_) h
 split at hx
 ·split at hy
  ·rename_i h1 h2
   cases hx; cases hy
   rw [clip_stamp h1, clip_stamp h2]; exact hab
  ·cases hy
 ·cases hx
theorem wst_eq : ∀ {A B : List Msg}, Wst A → Rst B → A.Perm B → A = B
 | [], B, _, _, h => h.symm.eq_nil.symm ▸ rfl
 | a :: A, [], _, _, h => absurd h.length_eq (by simp)
 | a :: A, b :: B, ha, hb, h => by
  have h1 := List.pairwise_cons.1 ha
  have h2 := List.pairwise_cons.1 hb
  have e : a = b := by
   have m1 : a ∈ b :: B := h.mem_iff.1 (by simp)
   have m2 : b ∈ a :: A := h.mem_iff.2 (by simp)
   rcases List.mem_cons.1 m1 with e | m1
   ·exact e
   ·rcases List.mem_cons.1 m2 with e | m2
    ·exact e.symm
    ·have := h2.1 a m1; have := h1.1 b m2; omega
  subst e
  rw [wst_eq h1.2 h2.2 (List.Perm.cons_inv h)]
theorem on_clip {m : Msg} {s : Span} {k : Str} (hk : s.has k = true) : (m.clip s).2 = true → (m.clip s).1.on k = m.on k := fun h => by
 by_cases h4 : m.kind = 4
 ·have h5 := clip_span h h4
  have k2 : (m.clip s).1.kind = 4 := by rw [(clip_of h).2, if_pos h4]; exact h4
  unfold Msg.on
  rw [h5, meet_has, hk, Bool.and_true, k2, h4]; rfl
 ·rw [(clip_of h).2, if_neg h4]
theorem ons_clips {s : Span} {k : Str} (hk : s.has k = true) : ∀ (A : List Msg) (o : Option Str), (clips s A).foldl (fun o m => (m.on k).apply o) o = A.foldl (fun o m => (m.on k).apply o) o
 | [], o => rfl
 | m :: A, o => by
  rw [clips_cons, List.foldl_cons]
  cases h : (m.clip s).2
  ·rw [if_neg (by simp), ons_clips hk A]
   have := empty_iff.1 (clip_no.1 h) k
   rw [meet_has, hk, Bool.and_true] at this
   have e : m.on k = Eff.zero := by unfold Msg.on; rw [if_pos (.inl this)]
   rw [e]; rfl
  ·rw [if_pos rfl, List.foldl_cons, on_clip hk h, ons_clips hk A]
theorem ons_clips' {s : Span} {k : Str} (hk : s.has k = true) (A : List Msg) (o : Option Str) : (onsN (clips s A) k).apply o = (onsN A k).apply o := by
 rw [onsN_apply, onsN_apply, ons_clips hk]
def ptS (k : Str) : Span := ⟨k, k.next, false⟩
theorem pt_in {k : Str} (hk : k.b.size < 140737488355328) {s : Span} (h : s.has k = true) : ∀ q, (ptS k).has q = true → s.has q = true := fun q hq => by
 rw [show (ptS k).has q = decide (q = k) from point_has hk] at hq
 rw [of_decide_eq_true hq]; exact h
structure Gp (l : List Nd) (ss : List Seat) (k : Str) (x : Seat) (W : List Msg) : Prop where
 mem : x ∈ ss
 has : x.s.has k = true
 wst : Wst W
 eq : clips (ptS k) W = clips (ptS k) x.ms
 fit : ∀ m ∈ W, m.R
 len : W.length ≤ 1024 * ((rootS l 0).n.level - x.n.level).toNat
theorem Gp.init (t : Tree c l ss) (k : Str) : Gp l ss k (rootS l 0) [] := ⟨t.root, all_has k, List.Pairwise.nil, rfl, (fun m hm => by cases hm), Nat.zero_le _⟩
theorem Gp.next (t : Tree c l ss) {k : Str} (hk : k.b.size < 140737488355328) {x : Seat} {W : List Msg} (g : Gp l ss k x W) (h0 : ¬ x.n.level ≤ 0) : Gp l ss k (kidSt l x (routeN x.n.pivots k)) (mergeN [x.n.msgs, W]) := by
 have h3 := t.right g.mem h0
 have hj := t.route g.mem h0 k
 have ha := t.at g.mem (by omega) hj
 have hh : (kidSt l x (routeN x.n.pivots k)).s.has k = true := by rw [kidSt_has h3 hj, g.has]; simp
 have hp := merge_perm _ [x.n.msgs, W] rfl
 have hf : [x.n.msgs, W].flatten = x.n.msgs ++ W := by simp
 rw [hf] at hp
 obtain ⟨q1, q2, q3⟩ := t.msgs g.mem
 have hms := t.kid_ms g.mem (t.rst x g.mem) (routeN x.n.pivots k)
 refine ⟨ha.1, hh, merge_wst _ _ rfl ?_, ?_, fun m hm => ?_, ?_⟩
 ·intro L hL
  simp only [List.mem_cons, List.not_mem_nil, or_false] at hL
  rcases hL with rfl | rfl
  ·exact q1.wst
  ·exact g.wst
 ·have e1 : clips (ptS k) (kidSt l x (routeN x.n.pivots k)).ms = clips (ptS k) (x.n.msgs ++ W) := by
   rw [hms.1, clips_append, clips_append, clips_clips (pt_in hk hh), clips_clips (pt_in hk hh), g.eq]
  refine (wst_eq (clips_wst (merge_wst _ _ rfl ?_)) (clips_rst hms.2) ((clips_perm hp).trans (List.Perm.of_eq e1.symm)))
  intro L hL
  simp only [List.mem_cons, List.not_mem_nil, or_false] at hL
  rcases hL with rfl | rfl
  ·exact q1.wst
  ·exact g.wst
 ·rcases List.mem_append.1 (hp.mem_iff.1 hm) with h | h
  ·exact q2 m h
  ·exact g.fit m h
 ·have h1 := hp.length_eq
  rw [List.length_append] at h1
  have h2 := t.msgs_len g.mem
  have h4 := g.len
  have h5 := t.ms_small x g.mem
  have : ((rootS l 0).n.level - (kidSt l x (routeN x.n.pivots k)).n.level).toNat = ((rootS l 0).n.level - x.n.level).toNat + 1 := by omega
  rw [this]; omega
theorem Gp.get (t : Tree c l ss) {k : Str} (hk : k.b.size < 140737488355328) {x : Seat} {W : List Msg} (g : Gp l ss k x W) (h0 : x.n.level = 0) : Eff.apply (onsN W k) (getN x.n.rows k) = getN (mapN l) k := by
 have e := t.leaf_eq g.mem g.has h0
 rw [← t.lookup k, ← e]
 have h : (ptS k).has k = true := (point_has hk).trans (decide_eq_true rfl)
 rw [← ons_clips' h W, ← ons_clips' h x.ms, g.eq]
def WayC (G : GH) (cs : List Value) (s : Span) (ms : List Msg) : Prop := ∃ v, cs = [.string s.lo.b, .string s.hi.b, .bool s.opn, v] ∧ SlR eMsg G v ms
theorem WayC.mono {G G' : GH} {cs : List Value} {s : Span} {ms : List Msg} (hl : Le G G') (h : WayC G cs s ms) : WayC G' cs s ms := by
 obtain ⟨v, h1, h2⟩ := h
 exact ⟨v, h1, h2.mono hl⟩
section
variable {α : Type} {E : Env} {f : Fr} {G : GH} {M Mk Ms Mr : MH} {ops rest : List Oper} {q : Bool} {K : Kt} {d : Nat} {ty : TypeId} {pos : String} {aft : Array Edge} {t et : TypeId} {x y kk : Operand} {b : Nat} {k : Int} {m : List (Int × α)} {V : VEnc α}
end
end Go.Fw

namespace Go.Fw
open Go Go.RowKit
def offN (xs : List Seat) (a : Nat) : Nat := ((xs.take a).flatMap viewS).length
theorem off_0 (xs : List Seat) : offN xs 0 = 0 := rfl
theorem off_succ {xs : List Seat} {a : Nat} (h : a < xs.length) : offN xs (a + 1) = offN xs a + (viewS xs[a]).length := by
 unfold offN
 rw [List.take_succ_eq_append_getElem h, List.flatMap_append, List.length_append]
 simp
theorem off_all {xs : List Seat} {a : Nat} (h : xs.length ≤ a) : offN xs a = (xs.flatMap viewS).length := by
 unfold offN; rw [List.take_of_length_le h]
theorem off_le {xs : List Seat} {a b : Nat} (h : a ≤ b) : offN xs a ≤ offN xs b := by
 obtain ⟨d, rfl⟩ : ∃ d, b = a + d := ⟨b - a, by omega⟩
 clear h
 induction d with
 | zero => exact Nat.le_refl _
 | succ d ih =>
  refine Nat.le_trans ih ?_
  by_cases h : a + d < xs.length
  ·rw [show a + (d + 1) = a + d + 1 from rfl, off_succ h]; omega
  ·rw [off_all (by omega), off_all (by omega)]; exact Nat.le_refl _
theorem off_tot (xs : List Seat) (a : Nat) : offN xs a ≤ (xs.flatMap viewS).length := by
 by_cases h : a ≤ xs.length
 ·rw [← off_all (Nat.le_refl xs.length)]; exact off_le h
 ·rw [off_all (by omega)]; exact Nat.le_refl _
theorem flat_get : ∀ (xs : List Seat) (a j : Nat) (h : a < xs.length) (hj : j < (viewS xs[a]).length), (xs.flatMap viewS)[offN xs a + j]? = some (viewS xs[a])[j]
 | [], a, j, h, _ => by simp at h
 | x :: xs, 0, j, _, hj => by
  have hj : j < (viewS x).length := hj
  rw [List.flatMap_cons, off_0, Nat.zero_add, List.getElem?_append_left hj, List.getElem?_eq_getElem hj]; rfl
 | x :: xs, a + 1, j, h, hj => by
  have ih := flat_get xs a j (by simpa using h) hj
  have e : offN (x :: xs) (a + 1) = (viewS x).length + offN xs a := by
   unfold offN
   rw [List.take_succ_cons, List.flatMap_cons, List.length_append]
  rw [List.flatMap_cons, e, List.getElem?_append_right (by omega), show (viewS x).length + offN xs a + j - (viewS x).length = offN xs a + j by omega]
  exact ih
def PosR (xs : List Seat) (q : Option Nat) (at9 i : Int) : Prop :=
 match q with
 | none => at9 = -1 ∧ i = 0
 | some f => ∃ a j : Nat, at9 = a ∧ i = j ∧ ∃ h : a < xs.length, j < (viewS xs[a]).length ∧ f = offN xs a + j
def fwdN (t f : Nat) : Option Nat := if f < t then some f else none
def bwdN (f : Nat) : Option Nat := if f = 0 then none else some (f - 1)
theorem fwd_at {xs : List Seat} {a i : Nat} (h : a < xs.length) (hi : i < (viewS xs[a]).length) : PosR xs (fwdN (xs.flatMap viewS).length (offN xs a + i)) a i := by
 have h1 := off_succ h
 have h2 := off_tot xs (a + 1)
 unfold fwdN
 rw [if_pos (by omega)]
 exact ⟨a, i, rfl, rfl, h, hi, rfl⟩
theorem fwd_end {xs : List Seat} {a i : Nat} (h : ¬ a < xs.length) : fwdN (xs.flatMap viewS).length (offN xs a + i) = none := by
 unfold fwdN
 rw [if_neg (by rw [off_all (by omega)]; omega)]
theorem bwd_at {xs : List Seat} {a i : Nat} (h : a < xs.length) (hi : 0 < i) (hi2 : i ≤ (viewS xs[a]).length) : PosR xs (bwdN (offN xs a + i)) a ((i : Int) - 1) := by
 unfold bwdN
 rw [if_neg (by omega)]
 exact ⟨a, i - 1, rfl, by omega, h, by omega, by omega⟩
def ePtr : Enc Nat where
 k := 1
 w := 8
 R := fun _ cs b => cs = [.pointer (some ⟨b, 0, none⟩)]
 mono := fun _ h => h
 len := fun h => by rw [h]; rfl
 one := fun h u hu => by rw [h] at hu; simp at hu; subst hu; rfl
def LfC (G : GH) (cs : List Value) (x : Seat) : Prop :=
 ∃ (cn : List Value) (vm vr : Value) (kn : Bool), cs = cn ++ [.string x.s.lo.b, .string x.s.hi.b, .bool x.s.opn, vm, vr, .bool kn] ∧ NodeC G cn x.n ∧ SlR eMsg G vm x.ms ∧ SlR ePair G vr (if kn = true then viewS x else [])
theorem LfC.mono {G G' : GH} {cs : List Value} {x : Seat} (hl : Le G G') (h : LfC G cs x) : LfC G' cs x := by
 obtain ⟨cn, vm, vr, kn, e, h1, h2, h3⟩ := h
 exact ⟨cn, vm, vr, kn, e, h1.mono hl, h2.mono hl, h3.mono hl⟩
def lvM (TL : TypeId) : List Nat → List (List Value) → MH
 | b :: ids, cs :: css => (b, .cells (List.toArray cs) TL (0, 0)) :: lvM TL ids css
 | _, _ => []
def LvE (G : GH) : List (List Value) → List Seat → Prop
 | [], [] => True
 | cs :: css, x :: xs => LfC G cs x ∧ LvE G css xs
 | _, _ => False
theorem LvE.mono {G G' : GH} (hl : Le G G') : ∀ {css : List (List Value)} {xs : List Seat}, LvE G css xs → LvE G' css xs
 | [], [], _ => trivial
 | _ :: _, _ :: _, h => ⟨h.1.mono hl, h.2.mono hl⟩
 | [], _ :: _, h => h.elim
 | _ :: _, [], h => h.elim
theorem LvE.len {G : GH} : ∀ {css : List (List Value)} {xs : List Seat}, LvE G css xs → css.length = xs.length
 | [], [], _ => rfl
 | _ :: css, _ :: xs, h => by simp [h.2.len]
 | [], _ :: _, h => h.elim
 | _ :: _, [], h => h.elim
theorem LvE.snoc {G : GH} {cs : List Value} {x : Seat} (hx : LfC G cs x) : ∀ {css : List (List Value)} {xs : List Seat}, LvE G css xs → LvE G (css ++ [cs]) (xs ++ [x])
 | [], [], _ => ⟨hx, trivial⟩
 | _ :: _, _ :: _, h => ⟨h.1, LvE.snoc hx h.2⟩
 | [], _ :: _, h => h.elim
 | _ :: _, [], h => h.elim
theorem lvM_snoc {TL : TypeId} {b : Nat} {cs : List Value} : ∀ {ids : List Nat} {css : List (List Value)}, ids.length = css.length → lvM TL (ids ++ [b]) (css ++ [cs]) = lvM TL ids css ++ [(b, .cells (List.toArray cs) TL (0, 0))]
 | [], [], _ => rfl
 | _ :: ids, _ :: css, h => by
  have := lvM_snoc (TL := TL) (b := b) (cs := cs) (ids := ids) (css := css) (by simpa using h)
  simp only [List.cons_append, lvM, this]
 | [], _ :: _, h => by simp at h
 | _ :: _, [], h => by simp at h
theorem lv_at {TL : TypeId} {G : GH} : ∀ {ids : List Nat} {css : List (List Value)} {xs : List Seat} (i : Nat) (h : i < ids.length), ids.length = css.length → LvE G css xs → (hx : i < xs.length) →
  ∃ cs R, LfC G cs xs[i] ∧ ((ids[i], .cells (List.toArray cs) TL (0, 0)) :: R).Perm (lvM TL ids css) ∧
   ∀ (G' : GH) (cs' : List Value), Le G G' → LfC G' cs' xs[i] → ∃ css', css'.length = css.length ∧ LvE G' css' xs ∧ ((ids[i], .cells (List.toArray cs') TL (0, 0)) :: R).Perm (lvM TL ids css')
 | b :: ids, cs :: css, x :: xs, 0, h, hl, he, hx => ⟨cs, lvM TL ids css, he.1, List.Perm.refl _, fun G' cs' hle h2 => ⟨cs' :: css, rfl, ⟨h2, he.2.mono hle⟩, List.Perm.refl _⟩⟩
 | b :: ids, cs :: css, x :: xs, i + 1, h, hl, he, hx => by
  obtain ⟨cs0, R, h1, h2, h3⟩ := lv_at (TL := TL) (G := G) (ids := ids) (css := css) (xs := xs) i (by simpa using h) (by simpa using hl) he.2 (by simpa using hx)
  refine ⟨cs0, (b, .cells (List.toArray cs) TL (0, 0)) :: R, h1, ?_, fun G' cs' hle h4 => ?_⟩
  ·exact (List.Perm.swap _ _ _).trans (h2.cons _)
  ·obtain ⟨css', g1, g2, g3⟩ := h3 G' cs' hle h4
   exact ⟨cs :: css', by simp [g1], ⟨he.1.mono hle, g2⟩, (List.Perm.swap _ _ _).trans (g3.cons _)⟩
 | [], _, _, i, h, _, _, _ => by simp at h
 | _ :: _, [], _, _, _, hl, _, _ => by simp at hl
 | _ :: _, _ :: _, [], _, _, _, _, hx => by simp at hx
def LvR (TL : TypeId) (v : Value) (G : GH) (xs : List Seat) (M : MH) : Prop := ∃ (ids : List Nat) (css : List (List Value)), SlR ePtr G v ids ∧ ids.length = xs.length ∧ LvE G css xs ∧ M.Perm (lvM TL ids css)
theorem LvR.mono {TL : TypeId} {v : Value} {G G' : GH} {xs : List Seat} {M : MH} (hl : Le G G') (h : LvR TL v G xs M) : LvR TL v G' xs M := by
 obtain ⟨ids, css, h1, h2, h3, h4⟩ := h
 exact ⟨ids, css, h1.mono hl, h2, h3.mono hl, h4⟩
def CbR (TC TL : TypeId) (b : Nat) (xs : List Seat) (a i : Int) (G : GH) (_ : Unit) (M : MH) : Prop :=
 ∃ (v : Value) (Ml : MH), M = (b, .cells (List.toArray [v, .int .i64 a, .int .i64 i]) TC (0, 0)) :: Ml ∧ LvR TL v G xs Ml
theorem CbR.mono {TC TL : TypeId} {b : Nat} {xs : List Seat} {a i : Int} {G G' : GH} {u : Unit} {M : MH} (hl : Le G G') (h : CbR TC TL b xs a i G u M) : CbR TC TL b xs a i G' u M := by
 obtain ⟨v, Ml, h1, h2⟩ := h
 exact ⟨v, Ml, h1, h2.mono hl⟩
def CuR (TC TL : TypeId) (b : Nat) (xs : List Seat) (G : GH) (q : Option Nat) (M : MH) : Prop := ∃ a i : Int, PosR xs q a i ∧ CbR TC TL b xs a i G () M
theorem CuR.mono {TC TL : TypeId} {b : Nat} {xs : List Seat} {G G' : GH} {q : Option Nat} {M : MH} (hl : Le G G') (h : CuR TC TL b xs G q M) : CuR TC TL b xs G' q M := by
 obtain ⟨a, i, h1, h2⟩ := h
 exact ⟨a, i, h1, h2.mono hl⟩
theorem LvR.form {TL : TypeId} {v : Value} {G : GH} {xs : List Seat} {M : MH} (h : LvR TL v G xs M) : ∃ (a : Option Addr) (k : Nat) (ids : List Nat), v = .slice a xs.length k ∧ ids.length = xs.length ∧ SlR ePtr G v ids := by
 obtain ⟨ids, css, h1, h2, h3, h4⟩ := h
 obtain ⟨a, k, e⟩ := h1.form
 exact ⟨a, k, ids, by rw [e, h2], h2, h1⟩
def totP (xs : List Seat) : Nat := (xs.flatMap viewS).length
structure LeafF (x : Seat) : Prop where
 rows : PairsR x.n.rows
 rlen : x.n.rows.length ≤ 64
 mlen : x.ms.length ≤ 102400
 mR : ∀ m ∈ x.ms, m.R
 ss : x.s.lo.b.size ≤ 16 ∧ x.s.hi.b.size ≤ 16
 vlen : (viewS x).length ≤ 102464
theorem Tree.leafF {c : Cfg} {l : List Nd} {ss : List Seat} (t : Tree c l ss) {x : Seat} (hx : x ∈ ss) : LeafF x :=
 ⟨t.rows hx, t.rows_len hx, by have := (t.ms_len x hx).1; omega, (t.fits x hx).2, (t.fits x hx).1, t.view_len hx⟩
end Go.Fw

namespace Go.Fw
open Go Go.RowKit
structure LvF (xs : List Seat) : Prop where
 leaf : ∀ x ∈ xs, LeafF x
 len : xs.length ≤ 100
 bef : xs.Pairwise Bef
 keys : ∀ x ∈ xs, ∀ p ∈ viewS x, x.s.has p.key = true
 all : ∀ k : Str, ∃ x ∈ xs, x.s.has k = true
 rowsR : ∀ x ∈ xs, PairsR (viewS x)
 tot : (xs.flatMap viewS).length ≤ 600000
theorem Tree.lvF {c : Cfg} {l : List Nd} {ss : List Seat} (t : Tree c l ss) : LvF (leavesS ss) where
 leaf := fun x hx => t.leafF (List.mem_filter.1 hx).1
 len := Nat.le_trans (List.length_filter_le _ _) (by have := t.len; have := t.sml.1; omega)
 bef := t.leaves_bef
 keys := fun x hx p hp => t.view_keys (List.mem_filter.1 hx).1 hp
 all := fun k => ⟨leafS l k, List.mem_filter.2 ⟨(t.leafOk k).mem, by simpa using (t.leafOk k).lvl⟩, (t.leafOk k).has⟩
 rowsR := fun x hx => by rw [t.view (List.mem_filter.1 hx).1]; exact (t.foldR (List.mem_filter.1 hx).1).filter _
 tot := by have := t.map_small; rw [mapN_t t.sts] at this; exact this
theorem fndN_append (A B : List Pair) (k : Str) : fndN (A ++ B) k = fndN A k + fndN B k := by unfold fndN; rw [List.filter_append, List.length_append]
theorem fndN_all {A : List Pair} {k : Str} (h : ∀ p ∈ A, p.key.lt k = true) : fndN A k = A.length := by unfold fndN; rw [List.filter_eq_self.2 h]
theorem fndN_none {A : List Pair} {k : Str} (h : ∀ p ∈ A, p.key.lt k = false) : fndN A k = 0 := by
 unfold fndN; rw [List.filter_eq_nil_iff.2 fun p hp => by simp [h p hp]]; rfl
theorem LvF.find {xs : List Seat} (hL : LvF xs) {k : Str} {a : Nat} (ha : a < xs.length) (hk : (xs[a]).s.has k = true) : offN xs a + fndN (viewS xs[a]) k = fndN (xs.flatMap viewS) k := by
 have e : xs = xs.take a ++ xs[a] :: xs.drop (a + 1) := by rw [← List.drop_eq_getElem_cons ha, List.take_append_drop]
 have h2 : xs.flatMap viewS = (xs.take a).flatMap viewS ++ (viewS xs[a] ++ (xs.drop (a + 1)).flatMap viewS) := by
  conv => lhs; rw [e]
  rw [List.flatMap_append, List.flatMap_cons]
 have hb := List.pairwise_iff_getElem.1 hL.bef
 rw [h2, fndN_append, fndN_append, fndN_all (A := (xs.take a).flatMap viewS), fndN_none (A := (xs.drop (a + 1)).flatMap viewS)]
 ·rfl
 ·intro p hp
  obtain ⟨x, hx, hp⟩ := List.mem_flatMap.1 hp
  obtain ⟨j, hj, rfl⟩ := List.mem_iff_getElem.1 hx
  rw [List.getElem_drop] at hp
  have hj2 : a + 1 + j < xs.length := by simp at hj; omega
  exact Str.lt_asymm (hb a (a + 1 + j) ha hj2 (by omega) _ _ hk (hL.keys _ (List.getElem_mem hj2) _ hp))
 ·intro p hp
  obtain ⟨x, hx, hp⟩ := List.mem_flatMap.1 hp
  obtain ⟨j, hj, rfl⟩ := List.mem_iff_getElem.1 hx
  have hj2 : j < a := by simp at hj; omega
  rw [List.getElem_take] at hp
  exact hb j a (by omega) ha hj2 _ _ (hL.keys _ (List.getElem_mem (by omega)) _ hp) hk
theorem LeafF.vsrt {xs : List Seat} (hL : LvF xs) {a : Nat} (h : a < xs.length) : Srt (viewS (xs[a])) := (hL.rowsR _ (List.getElem_mem h)).srt
theorem LvF.idx {xs : List Seat} (hL : LvF xs) (k : Str) : ∃ a : Nat, ∃ h : a < xs.length, idxN (fun x : Seat => x.s.has k) xs = (a : Nat) ∧ (xs[a]).s.has k = true := by
 rcases idxN_cases (fun x : Seat => x.s.has k) xs with ⟨_, h⟩ | ⟨a, h1, h2, h3, _⟩
 ·obtain ⟨x, hx, hk⟩ := hL.all k
  have := h x hx
  rw [hk] at this; cases this
 ·exact ⟨a, h1, h2, h3⟩
def nxtN (t : Nat) : Option Nat → Option Nat
 | none => none
 | some f => fwdN t (f + 1)
def prvN : Option Nat → Option Nat
 | none => none
 | some f => bwdN f
def pairQ (xs : List Seat) : Option Nat → Pair
 | none => ⟨Str.nil, Str.nil⟩
 | some f => (xs.flatMap viewS).getD f ⟨Str.nil, Str.nil⟩
theorem pairQ_at {xs : List Seat} {a j : Nat} (h : a < xs.length) (hj : j < (viewS xs[a]).length) : pairQ xs (some (offN xs a + j)) = (viewS xs[a])[j] := by
 show (xs.flatMap viewS).getD (offN xs a + j) _ = _
 rw [List.getD_eq_getElem?_getD, flat_get xs a j h hj]; rfl
def advN (xs : List Seat) (q : Option Nat) (k : Nat) : Option Nat := fwdN (totP xs) (q.getD (totP xs) + k)
def tkN (xs : List Seat) (q : Option Nat) (k : Nat) : List Pair := ((xs.flatMap viewS).drop (q.getD (totP xs))).take k
theorem PosR.lt {xs : List Seat} {q : Option Nat} {a i : Int} (h : PosR xs q a i) : ∀ f, q = some f → f < totP xs := by
 rintro f rfl
 obtain ⟨b, j, _, _, h1, h2, rfl⟩ := h
 have := off_succ h1
 have := off_tot xs (b + 1)
 unfold totP; omega
theorem CuR.lt {TC TL : TypeId} {b : Nat} {xs : List Seat} {G : GH} {q : Option Nat} {M : MH} (h : CuR TC TL b xs G q M) : ∀ f, q = some f → f < totP xs := by
 obtain ⟨a, i, h, _⟩ := h
 exact h.lt
theorem adv_0 {xs : List Seat} {q : Option Nat} (h : ∀ f, q = some f → f < totP xs) : advN xs q 0 = q := by
 unfold advN fwdN
 cases q with
 | none => simp
 | some f => simp [h f rfl]
theorem adv_next {xs : List Seat} {q : Option Nat} {k : Nat} (h : (advN xs q k).isSome = true) : nxtN (totP xs) (advN xs q k) = advN xs q (k + 1) ∧ q.getD (totP xs) + k < totP xs := by
 unfold advN fwdN at *
 by_cases h2 : q.getD (totP xs) + k < totP xs
 ·rw [if_pos h2]; exact ⟨by unfold nxtN fwdN; rfl, h2⟩
 ·rw [if_neg h2] at h; cases h
theorem adv_end {xs : List Seat} {q : Option Nat} {k : Nat} (h : (advN xs q k).isSome = false) : totP xs ≤ q.getD (totP xs) + k := by
 unfold advN fwdN at h
 by_cases h2 : q.getD (totP xs) + k < totP xs
 ·rw [if_pos h2] at h; cases h
 ·omega
theorem ctk_len {xs : List Seat} {q : Option Nat} {k : Nat} (h : k ≤ totP xs - q.getD (totP xs)) : (tkN xs q k).length = k := by
 unfold tkN; rw [List.length_take, List.length_drop]; unfold totP at *; omega
theorem ctk_succ {xs : List Seat} {q : Option Nat} {k : Nat} (h : q.getD (totP xs) + k < totP xs) : tkN xs q (k + 1) = tkN xs q k ++ [pairQ xs (advN xs q k)] := by
 have e : advN xs q k = some (q.getD (totP xs) + k) := if_pos h
 have h2 : k < ((xs.flatMap viewS).drop (q.getD (totP xs))).length := by rw [List.length_drop]; unfold totP at h ⊢; omega
 unfold tkN
 rw [List.take_succ_eq_append_getElem h2, e]
 refine congrArg (fun p => _ ++ [p]) ?_
 show _ = (xs.flatMap viewS).getD _ _
 rw [List.getElem_drop, List.getD_eq_getElem?_getD, List.getElem?_eq_getElem (by unfold totP at h; exact h)]; rfl
end Go.Fw
