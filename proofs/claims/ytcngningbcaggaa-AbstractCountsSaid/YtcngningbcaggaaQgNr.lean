/- A sound tree gone through from the root down, with its nodes in a map. Plain Lean; nothing of the program is named here. No condition. -/
import Derived.Test.YtcngningbcaggaaQgNq
import Derived.Test.YtcngningbcaggaaQgNp
set_option linter.unusedVariables false
set_option linter.unusedSimpArgs false
set_option linter.unnecessarySimpa false

namespace Go.Fw
open Go Go.RowKit
def bySl (l : List Nd) : List (Int × Nd) := l.foldl (fun m n => putM m n.slot n) []
theorem bySl_succ {l : List Nd} {i : Nat} (h : i < l.length) : bySl (l.take (i + 1)) = putM (bySl (l.take i)) l[i].slot l[i] := by
 unfold bySl; rw [List.take_succ_eq_append_getElem h, List.foldl_append]; rfl
theorem bySl_get (l : List Nd) (k : Int) : ∀ i, i ≤ l.length → getM (bySl (l.take i)) k = (atS (l.take i) k).getLast?
 | 0, _ => rfl
 | i + 1, h => by
  rw [bySl_succ om9, getM_put, bySl_get l k i om9]
  by_cases e : l[i].slot = k
  ·rw [if_pos e.symm, atS_t om9 e]; simp
  ·rw [if_neg (fun h => e h.symm), atS_f om9 e]
section
variable {c : Cfg} {l : List Nd} {ss : List Seat}
structure Free (l : List Nd) (n : Nat) (x : Seat) (mt : List (Int × Bool)) : Prop where
 none : ∀ y ∈ preF l n x, getM mt y.n.slot = none
 nd : ((preF l n x).map fun y : Seat => y.n.slot).Nodup
structure FreeK (l : List Nd) (n : Nat) (x : Seat) (j : Nat) (mt : List (Int × Bool)) : Prop where
 none : ∀ y ∈ ((kidsD l x).drop j).flatMap (preF l n), getM mt y.n.slot = none
 nd : ((((kidsD l x).drop j).flatMap (preF l n)).map fun y : Seat => y.n.slot).Nodup
theorem Free.kids {n : Nat} {x : Seat} {mt : List (Int × Bool)} (h : Free l (n + 1) x mt) : FreeK l n x 0 (putM mt x.n.slot true) := by
 have hnd := h.nd
 rw [preF, List.map_cons, List.nodup_cons] at hnd
 refine ⟨fun y hy => ?_, by rw [List.drop_zero]; exact hnd.2⟩
 rw [List.drop_zero] at hy
 rw [getM_put, if_neg]
 ·exact h.none y (by rw [preF]; exact List.mem_cons_of_mem _ hy)
 ·intro e
  exact hnd.1 (by rw [← e]; exact List.mem_map.2 ⟨y, hy, rfl⟩)
theorem FreeK.head {n : Nat} {x : Seat} {j : Nat} {mt : List (Int × Bool)} (h : FreeK l n x j mt) (hj : j < (kidsD l x).length) : Free l n (kidsD l x)[j] mt := by
 have e := List.drop_eq_getElem_cons hj
 refine ⟨fun y hy => h.none y (by rw [e, List.flatMap_cons]; exact List.mem_append_left _ hy), ?_⟩
 have := h.nd
 rw [e, List.flatMap_cons, List.map_append, List.nodup_append] at this
 exact this.1
def Same9 (l : List Nd) (n : Nat) (x : Seat) (mt mt' : List (Int × Bool)) : Prop := ∀ k, (∀ y ∈ preF l n x, y.n.slot ≠ k) → getM mt' k = getM mt k
theorem FreeK.tail {n : Nat} {x : Seat} {j : Nat} {mt mt' : List (Int × Bool)} (h : FreeK l n x j mt) (hj : j < (kidsD l x).length) (hs : Same9 l n (kidsD l x)[j] mt mt') : FreeK l n x (j + 1) mt' := by
 have e := List.drop_eq_getElem_cons hj
 have hnd := h.nd
 rw [e, List.flatMap_cons, List.map_append, List.nodup_append] at hnd
 refine ⟨fun y hy => ?_, hnd.2.1⟩
 rw [hs y.n.slot fun z hz he => hnd.2.2 z.n.slot (List.mem_map.2 ⟨z, hz, rfl⟩) y.n.slot (List.mem_map.2 ⟨y, hy, rfl⟩) he]
 exact h.none y (by rw [e, List.flatMap_cons]; exact List.mem_append_right _ hy)
def SameK (l : List Nd) (n : Nat) (x : Seat) (j : Nat) (mt mt' : List (Int × Bool)) : Prop := ∀ k, x.n.slot ≠ k → (∀ y ∈ ((kidsD l x).take j).flatMap (preF l n), y.n.slot ≠ k) → getM mt' k = getM mt k
theorem SameK.zero {n : Nat} {x : Seat} {mt : List (Int × Bool)} : SameK l n x 0 mt (putM mt x.n.slot true) := fun k hk _ => by rw [getM_put, if_neg (fun e => hk e.symm)]
theorem SameK.succ {n : Nat} {x : Seat} {j : Nat} {mt m1 m2 : List (Int × Bool)} (h : SameK l n x j mt m1) (hj : j < (kidsD l x).length) (hs : Same9 l n (kidsD l x)[j] m1 m2) : SameK l n x (j + 1) mt m2 := fun k hk hy => by
 have e : (kidsD l x).take (j + 1) = (kidsD l x).take j ++ [(kidsD l x)[j]] := List.take_succ_eq_append_getElem hj
 rw [hs k fun z hz => hy z (by rw [e, List.flatMap_append]; exact List.mem_append_right _ (by simpa using hz))]
 exact h k hk fun y h2 => hy y (by rw [e, List.flatMap_append]; exact List.mem_append_left _ h2)
theorem SameK.all {n : Nat} {x : Seat} {j : Nat} {mt m1 : List (Int × Bool)} (h : SameK l n x j mt m1) (hj : (kidsD l x).length ≤ j) : Same9 l (n + 1) x mt m1 := fun k hy => by
 refine h k (hy x (by simp [preF])) fun y h2 => hy y ?_
 rw [List.take_of_length_le hj] at h2
 rw [preF]; exact List.mem_cons_of_mem _ h2
noncomputable def viewsF (l : List Nd) (n : Nat) (x : Seat) : List Pair := (dfsF l n x).flatMap viewS
noncomputable def viewsK (l : List Nd) (n : Nat) (x : Seat) (j : Nat) : List Pair := ((kidsD l x).take j).flatMap (viewsF l n)
theorem Tree.views (t : Tree c l ss) : viewsF l (rootS l 0).n.level.toNat (rootS l 0) = mapN l := by
 rw [mapN_t t.sts, t.leaves]; rfl
theorem Tree.ms_small (t : Tree c l ss) : ∀ x ∈ ss, x.ms.length ≤ 1024 * ((rootS l 0).n.level - x.n.level).toNat ∧ x.n.level ≤ (rootS l 0).n.level := by
 refine t.ind ⟨Nat.zero_le _, Int.le_refl _⟩ fun x hx h0 ih j hj => ?_
 have ha := t.at hx h0 hj
 have hms := congrArg List.length (t.kid_ms hx (t.rst x hx) j).1
 rw [List.length_append] at hms
 have c1 : (clips (kidSt l x j).s x.n.msgs).length ≤ x.n.msgs.length := clips_le
 have c2 : (clips (kidSt l x j).s x.ms).length ≤ x.ms.length := clips_le
 have c3 := t.msgs_len hx
 have : ((rootS l 0).n.level - (kidSt l x j).n.level).toNat = ((rootS l 0).n.level - x.n.level).toNat + 1 := om9
 rw [this]
 omega
def WkR (g TW TO tp : Nat) (bk bo : Nat) (m : List (Int × Nd)) (G : GH) (st : List (Int × Bool) × List Pair) (M : MH) : Prop :=
 ∃ (vat : Value) (bm : Nat) (vo : Value) (Mm Mo : MH), M = (bk, .cells (List.toArray [vat, .map (some bm), .func (.func g) #[] #[.pointer (some ⟨bo, 0, none⟩)]]) TW (0, 0)) :: (bo, .cells (List.toArray [vo]) TO (0, 0)) :: (Mm ++ Mo) ∧
  MpG vNode G vat m ∧ MpR vBool bm G st.1 Mm ∧ OwnR ePair tp G vo st.2 Mo
theorem WkR.mono {g TW TO tp bk bo : Nat} {m : List (Int × Nd)} {G G' : GH} {st : List (Int × Bool) × List Pair} {M : MH} (hl : Le G G') (h : WkR g TW TO tp bk bo m G st M) : WkR g TW TO tp bk bo m G' st M := by
 obtain ⟨vat, bm, vo, Mm, Mo, h1, h2, h3, h4⟩ := h
 exact ⟨vat, bm, vo, Mm, Mo, h1, h2.mono hl, h3.mono hl, h4.mono hl⟩
theorem WkR.cast {g TW TO tp bk bo : Nat} {m : List (Int × Nd)} {G : GH} {st st' : List (Int × Bool) × List Pair} {M : MH} (h : WkR g TW TO tp bk bo m G st M) (e : st = st') : WkR g TW TO tp bk bo m G st' M := e ▸ h
end
section
variable {α : Type} {E : Env} {f : Fr} {G : GH} {M Mk Ms Mr : MH} {ops rest : List Oper} {q : Bool} {K : Kt} {d : Nat} {ty : TypeId} {pos : String} {aft : Array Edge} {t et : TypeId} {x y kk : Operand} {b : Nat} {k : Int} {m : List (Int × α)} {V : VEnc α}
theorem W.lookG {z0 mv : Value} {z : α} (ht : mapIK E.P t = some et) (hz : zvK E.P et = some z0) (hzz : V.R G z0 z) (hm : MpG V G mv m) (hx : ev f x = mv) (hk : ev f kk = .int .i64 k)
  (h : ∀ v, V.R G v ((getM m k).getD z) → W E ops.toArray q rest (upd f d (.tuple #[v, .bool (getM m k).isSome])) G M K) (hd : Nat.blt d E.n = true := by rfl) :
  W E ops.toArray q (⟨some d, .lookup t x kk true, ty, pos, aft, none⟩ :: rest) f G M K := by
 obtain ⟨v, h1, h2⟩ := look_gh (E := E) (f := f) (M := M) (d := d) (ty := ty) (pos := pos) (aft := aft) (ok := true) ht hz hzz hm hx hk
 exact W.ok h2 (h v h1) hd
theorem W.lookO {z0 : Value} {z : α} (ht : mapIK E.P t = some et) (hz : zvK E.P et = some z0) (hzz : V.R G z0 z) (hx : ev f x = .map (some b)) (hk : ev f kk = .int .i64 k) (hm : MpR V b G m Ms) (hp : (Ms ++ Mr).Perm M)
  (h : ∀ v, V.R G v ((getM m k).getD z) → W E ops.toArray q rest (upd f d v) G M K) (hd : Nat.blt d E.n = true := by rfl) :
  W E ops.toArray q (⟨some d, .lookup t x kk false, ty, pos, aft, none⟩ :: rest) f G M K := by
 obtain ⟨v, h1, h2⟩ := look_own (E := E) (f := f) (M := M) (d := d) (ty := ty) (pos := pos) (aft := aft) (ok := false) ht hz hzz hx hk hm hp
 exact W.ok h2 (h v h1) hd
theorem W.callV {g : FuncId} {fst caps : List Value} {args : List Operand} {at' : Array TypeId} {vs : List Value} {Mp Mr : MH} {Q : Value → GH → MH → Prop} (hx : ev f x = .func (.func g) fst.toArray caps.toArray) (hc : Fc E.P g vs G Mp Q) (ha : fst ++ (args.map (ev f) ++ caps) = vs) (hM : (Mp ++ Mr).Perm M)
  (k : ∀ v G' M', Le G G' → Q v G' M' → W E ops.toArray false rest (upd f d v) G' (M' ++ Mr) K) (hd : Nat.blt d E.n = true := by rfl) :
  W E ops.toArray false (⟨some d, .call { callee := .value x, args := args.toArray, argTypes := at' }, ty, pos, aft, none⟩ :: rest) f G M K := by
 intro a w Q' hi hr hK
 refine wpList_plain rfl fun K' hK' => ?_
 unfold Oper.wp
 rw [hi.eval, run_callV hc.1 hx ha]
 have hr' := hr.r.perm hM
 have hw : Real w (fun b => b ∈ (Mp.map (·.1))) G Mp w := by
  have hs := hr'.sub (M' := Mp) (List.sublist_append_left _ _)
  exact ⟨rfl, rfl, rfl, Nat.le_refl _, fun _ _ _ => rfl, hr.r.ro, hs.mu, hs.dis, hs.nd, fun p hp => .inr (List.mem_map_of_mem hp)⟩
 refine (hc.2 w hw).mono ?_
 rintro e w' ⟨v', G', M', rfl, h2, h3, h4, h5⟩
 have h6 := Real.call hr' h2 h4
 refine hK' _ _ (k v' G' M' h3 h5 _ w' Q' (hi.put hd v') ⟨h6, hr.le.trans h3, ?_⟩ hK)
 intro b hb hb'
 cases hg : G b with
 | none =>
  rcases h4 b hg hb' with h7 | h7
  ·exact .inl (Nat.le_trans hr.r.size h7)
  ·obtain ⟨p, hp, e⟩ := List.mem_map.1 h7
   rcases hr'.lo p (by simp [hp]) with h8 | h8
   ·exact .inl (e ▸ h8)
   ·exact .inr (e ▸ h8)
 | some o => exact hr.nw b hb (by simp [hg])
end
end Go.Fw
