/- A sound tree gone through from the root down, with its nodes in a map. Plain Lean; nothing of the program is named here. No condition. -/
import Derived.Test.YtemoalimclnfkaaGreatQjNm
set_option linter.unusedVariables false
set_option linter.unusedSimpArgs false
set_option linter.unnecessarySimpa false

namespace Go.Fw
open Go Go.RowKit
def bySl (l : List Nd) : List (Int × Nd) := l.foldl (fun m n => putM m n.slot n) []
theorem bySl_succ {l : List Nd} {i : Nat} (h : i < l.length) : bySl (l.take (i + 1)) = putM (bySl (l.take i)) l[i].slot l[i] := by
 unfold bySl; rw [List.take_succ_eq_append_getElem h, List.foldl_append]; rfl
theorem bySl_get (l : List Nd) (k : Int) : ∀ i, i ≤ l.length → getM (bySl (l.take i)) k = (atS (l.take i) k).getLast?
 | 0, _ => rfl
 | i + 1, h => by
  rw [bySl_succ om9, getM_put, bySl_get l k i om9]
  by_cases e : l[i].slot = k
  ·rw [if_pos e.symm, atS_t om9 e]; simp
  ·rw [if_neg (fun h => e h.symm), atS_f om9 e]
section
variable {c : Cfg} {l : List Nd} {ss : List Seat}
structure Free (l : List Nd) (n : Nat) (x : Seat) (mt : List (Int × Bool)) : Prop where
 none : ∀ y ∈ preF l n x, getM mt y.n.slot = none
 nd : ((preF l n x).map fun y : Seat => y.n.slot).Nodup
theorem Free.self {n : Nat} {x : Seat} {mt : List (Int × Bool)} (h : Free l n x mt) : getM mt x.n.slot = Option.none := h.none x (by cases n <;> simp [preF])
structure FreeK (l : List Nd) (n : Nat) (x : Seat) (j : Nat) (mt : List (Int × Bool)) : Prop where
 none : ∀ y ∈ ((kidsD l x).drop j).flatMap (preF l n), getM mt y.n.slot = none
 nd : ((((kidsD l x).drop j).flatMap (preF l n)).map fun y : Seat => y.n.slot).Nodup
theorem Free.kids {n : Nat} {x : Seat} {mt : List (Int × Bool)} (h : Free l (n + 1) x mt) : FreeK l n x 0 (putM mt x.n.slot true) := by
 have hnd := h.nd
 rw [preF, List.map_cons, List.nodup_cons] at hnd
 refine ⟨fun y hy => ?_, by rw [List.drop_zero]; exact hnd.2⟩
 rw [List.drop_zero] at hy
 rw [getM_put, if_neg]
 ·exact h.none y (by rw [preF]; exact List.mem_cons_of_mem _ hy)
 ·intro e
  exact hnd.1 (by rw [← e]; exact List.mem_map.2 ⟨y, hy, rfl⟩)
theorem FreeK.head {n : Nat} {x : Seat} {j : Nat} {mt : List (Int × Bool)} (h : FreeK l n x j mt) (hj : j < (kidsD l x).length) : Free l n (kidsD l x)[j] mt := by
 have e := List.drop_eq_getElem_cons hj
 refine ⟨fun y hy => h.none y (by rw [e, List.flatMap_cons]; exact List.mem_append_left _ hy), ?_⟩
 have := h.nd
 rw [e, List.flatMap_cons, List.map_append, List.nodup_append] at this
 exact this.1
def Same9 (l : List Nd) (n : Nat) (x : Seat) (mt mt' : List (Int × Bool)) : Prop := ∀ k, (∀ y ∈ preF l n x, y.n.slot ≠ k) → getM mt' k = getM mt k
theorem FreeK.tail {n : Nat} {x : Seat} {j : Nat} {mt mt' : List (Int × Bool)} (h : FreeK l n x j mt) (hj : j < (kidsD l x).length) (hs : Same9 l n (kidsD l x)[j] mt mt') : FreeK l n x (j + 1) mt' := by
 have e := List.drop_eq_getElem_cons hj
 have hnd := h.nd
 rw [e, List.flatMap_cons, List.map_append, List.nodup_append] at hnd
 refine ⟨fun y hy => ?_, hnd.2.1⟩
 rw [hs y.n.slot fun z hz he => hnd.2.2 z.n.slot (List.mem_map.2 ⟨z, hz, rfl⟩) y.n.slot (List.mem_map.2 ⟨y, hy, rfl⟩) he]
 exact h.none y (by rw [e, List.flatMap_cons]; exact List.mem_append_right _ hy)
def SameK (l : List Nd) (n : Nat) (x : Seat) (j : Nat) (mt mt' : List (Int × Bool)) : Prop := ∀ k, x.n.slot ≠ k → (∀ y ∈ ((kidsD l x).take j).flatMap (preF l n), y.n.slot ≠ k) → getM mt' k = getM mt k
theorem SameK.zero {n : Nat} {x : Seat} {mt : List (Int × Bool)} : SameK l n x 0 mt (putM mt x.n.slot true) := fun k hk _ => by rw [getM_put, if_neg (fun e => hk e.symm)]
theorem SameK.succ {n : Nat} {x : Seat} {j : Nat} {mt m1 m2 : List (Int × Bool)} (h : SameK l n x j mt m1) (hj : j < (kidsD l x).length) (hs : Same9 l n (kidsD l x)[j] m1 m2) : SameK l n x (j + 1) mt m2 := fun k hk hy => by
 have e : (kidsD l x).take (j + 1) = (kidsD l x).take j ++ [(kidsD l x)[j]] := List.take_succ_eq_append_getElem hj
 rw [hs k fun z hz => hy z (by rw [e, List.flatMap_append]; exact List.mem_append_right _ (by simpa using hz))]
 exact h k hk fun y h2 => hy y (by rw [e, List.flatMap_append]; exact List.mem_append_left _ h2)
theorem SameK.all {n : Nat} {x : Seat} {j : Nat} {mt m1 : List (Int × Bool)} (h : SameK l n x j mt m1) (hj : (kidsD l x).length ≤ j) : Same9 l (n + 1) x mt m1 := fun k hy => by
 refine h k (hy x (by simp [preF])) fun y h2 => hy y ?_
 rw [List.take_of_length_le hj] at h2
 rw [preF]; exact List.mem_cons_of_mem _ h2
noncomputable def viewsF (l : List Nd) (n : Nat) (x : Seat) : List Pair := (dfsF l n x).flatMap viewS
noncomputable def viewsK (l : List Nd) (n : Nat) (x : Seat) (j : Nat) : List Pair := ((kidsD l x).take j).flatMap (viewsF l n)
theorem Tree.ms_small (t : Tree c l ss) : ∀ x ∈ ss, x.ms.length ≤ 1024 * ((rootS l 0).n.level - x.n.level).toNat ∧ x.n.level ≤ (rootS l 0).n.level := by
 refine t.ind ⟨Nat.zero_le _, Int.le_refl _⟩ fun x hx h0 ih j hj => ?_
 have ha := t.at hx h0 hj
 have hms := congrArg List.length (t.kid_ms hx (t.rst x hx) j).1
 rw [List.length_append] at hms
 have c1 : (clips (kidSt l x j).s x.n.msgs).length ≤ x.n.msgs.length := clips_le
 have c2 : (clips (kidSt l x j).s x.ms).length ≤ x.ms.length := clips_le
 have c3 := t.msgs_len hx
 have : ((rootS l 0).n.level - (kidSt l x j).n.level).toNat = ((rootS l 0).n.level - x.n.level).toNat + 1 := om9
 rw [this]
 omega
theorem Tree.kidsD_at (t : Tree c l ss) {x : Seat} (hx : x ∈ ss) (h0 : ¬ x.n.level = 0) : (kidsD l x).length = x.n.kids.length ∧ ∀ j (h : j < (kidsD l x).length), (kidsD l x)[j] = kidSt l x j := by
 have h1 := (kids_all (t.kids hx) h0).1
 refine ⟨by rw [h1, kidsF_len], fun j h => ?_⟩
 simp only [h1, kidsF, List.getElem_map, List.getElem_range]
def WkR (g TW TO tp : Nat) (bk bo : Nat) (m : List (Int × Nd)) (G : GH) (st : List (Int × Bool) × List Pair) (M : MH) : Prop :=
 ∃ (vat : Value) (bm : Nat) (vo : Value) (Mm Mo : MH), M = (bk, .cells (List.toArray [vat, .map (some bm), .func (.func g) #[] #[.pointer (some ⟨bo, 0, none⟩)]]) TW (0, 0)) :: (bo, .cells (List.toArray [vo]) TO (0, 0)) :: (Mm ++ Mo) ∧
  MpG vNode G vat m ∧ MpR vBool bm G st.1 Mm ∧ OwnR ePair tp G vo st.2 Mo
theorem WkR.mono {g TW TO tp bk bo : Nat} {m : List (Int × Nd)} {G G' : GH} {st : List (Int × Bool) × List Pair} {M : MH} (hl : Le G G') (h : WkR g TW TO tp bk bo m G st M) : WkR g TW TO tp bk bo m G' st M := by
 obtain ⟨vat, bm, vo, Mm, Mo, h1, h2, h3, h4⟩ := h
 exact ⟨vat, bm, vo, Mm, Mo, h1, h2.mono hl, h3.mono hl, h4.mono hl⟩
theorem WkR.cast {g TW TO tp bk bo : Nat} {m : List (Int × Nd)} {G : GH} {st st' : List (Int × Bool) × List Pair} {M : MH} (h : WkR g TW TO tp bk bo m G st M) (e : st = st') : WkR g TW TO tp bk bo m G st' M := e ▸ h
end
section
variable {α : Type} {E : Env} {f : Fr} {G : GH} {M Mk Ms Mr : MH} {ops rest : List Oper} {q : Bool} {K : Kt} {d : Nat} {ty : TypeId} {pos : String} {aft : Array Edge} {t et : TypeId} {x y kk : Operand} {b : Nat} {k : Int} {m : List (Int × α)} {V : VEnc α}
theorem W.lookG {z0 mv : Value} {z : α} (ht : mapIK E.P t = some et) (hz : zvK E.P et = some z0) (hzz : V.R G z0 z) (hm : MpG V G mv m) (hx : ev f x = mv) (hk : ev f kk = .int .i64 k)
  (h : ∀ v, V.R G v ((getM m k).getD z) → W E ops.toArray q rest (upd f d (.tuple #[v, .bool (getM m k).isSome])) G M K) (hd : Nat.blt d E.n = true := by rfl) :
  W E ops.toArray q (⟨some d, .lookup t x kk true, ty, pos, aft, none⟩ :: rest) f G M K := by
 obtain ⟨v, h1, h2⟩ := look_gh (E := E) (f := f) (M := M) (d := d) (ty := ty) (pos := pos) (aft := aft) (ok := true) ht hz hzz hm hx hk
 exact W.ok h2 (h v h1) hd
theorem W.lookO {z0 : Value} {z : α} (ht : mapIK E.P t = some et) (hz : zvK E.P et = some z0) (hzz : V.R G z0 z) (hx : ev f x = .map (some b)) (hk : ev f kk = .int .i64 k) (hm : MpR V b G m Ms) (hp : (Ms ++ Mr).Perm M)
  (h : ∀ v, V.R G v ((getM m k).getD z) → W E ops.toArray q rest (upd f d v) G M K) (hd : Nat.blt d E.n = true := by rfl) :
  W E ops.toArray q (⟨some d, .lookup t x kk false, ty, pos, aft, none⟩ :: rest) f G M K := by
 obtain ⟨v, h1, h2⟩ := look_own (E := E) (f := f) (M := M) (d := d) (ty := ty) (pos := pos) (aft := aft) (ok := false) ht hz hzz hx hk hm hp
 exact W.ok h2 (h v h1) hd
end
theorem kidsD_some {l : List Nd} {x : Seat} (h : (kidsO l x).isSome = true) : kidsO l x = some (kidsD l x) := by
 unfold kidsD
 cases e : kidsO l x with
 | none => rw [e] at h; cases h
 | some y => rfl
theorem kids_low {l : List Nd} {x y : Seat} (h : (kidsO l x).isSome = true) (hy : y ∈ kidsD l x) : y.n.level < x.n.level := by
 by_cases h0 : x.n.level = 0
 ·rw [kids_leaf h0] at hy; cases hy
 ·obtain ⟨h1, h2, h3, h4⟩ := kids_all h h0
  rw [h1] at hy
  obtain ⟨j, hj, rfl⟩ := List.mem_map.1 hy
  have := h4 j (List.mem_range.1 hj)
  unfold kidOk at this
  rw [Bool.and_eq_true, decide_eq_true_eq] at this
  have e : (kidSt l x j).n.level = x.n.level - 1 := this.2
  omega
theorem seats_of {l : List Nd} {root : Int} {T : List Seat} (h1 : (findN l root).2 = true) (h2 : T = rootS l root :: T.flatMap (kidsD l)) (h3 : ∀ x ∈ T, (kidsO l x).isSome = true) (h4 : T.length ≤ l.length) : seatsN l root = some T := by
 have key : ∀ (d i f : Nat), i + d = T.length → d < f → i ≤ (rootS l root :: (T.take i).flatMap (kidsD l)).length → seatsF l f i (rootS l root :: (T.take i).flatMap (kidsD l)) = some T := by
  intro d
  induction d with
  | zero =>
   intro i f hi hf hl
   rw [List.take_of_length_le om9, ← h2]
   obtain ⟨f, rfl⟩ : ∃ q, f = q + 1 := ⟨f - 1, om9⟩
   exact seatsF_done om9
  | succ d ih =>
   intro i f hi hf hl
   obtain ⟨f, rfl⟩ : ∃ q, f = q + 1 := ⟨f - 1, om9⟩
   have hT : T = (rootS l root :: (T.take i).flatMap (kidsD l)) ++ (T.drop i).flatMap (kidsD l) := by
    rw [List.cons_append, ← List.flatMap_append, List.take_append_drop]; exact h2
   obtain ⟨O, hO⟩ : ∃ O, O = rootS l root :: (T.take i).flatMap (kidsD l) := ⟨_, rfl⟩
   rw [← hO] at hl hT ⊢
   have hTl := congrArg List.length hT
   rw [List.length_append] at hTl
   by_cases hlt : i < O.length
   ·have e : O[i] = T[i]'om9 := by
     have h5 := List.getElem_of_eq hT (show i < T.length by omega)
     rw [h5, List.getElem_append_left hlt]
    have hk : kidsO l O[i] = some (kidsD l (T[i]'om9)) := by rw [e]; exact kidsD_some (h3 _ (List.getElem_mem _))
    rw [seatsF_some hlt om9 hk]
    have e2 : O ++ kidsD l (T[i]'om9) = rootS l root :: (T.take (i + 1)).flatMap (kidsD l) := by
     rw [hO, List.take_succ_eq_append_getElem om9, List.flatMap_append]; simp
    rw [e2]
    exact ih (i + 1) f om9 om9 (by rw [← e2, List.length_append]; omega)
   ·exfalso
    have hd : T.drop i = (T.drop i).flatMap (kidsD l) := by
     have h5 := congrArg (List.drop i) hT
     rw [List.drop_append, List.drop_of_length_le (l := O) om9, List.nil_append, show i - O.length = 0 by omega, List.drop_zero] at h5
     exact h5
    have h6 := fix_nil2 hd fun x hx y hy => kids_low (h3 x (List.mem_of_mem_drop hx)) hy
    have h7 := congrArg List.length h6
    rw [List.length_drop] at h7
    simp at h7
    omega
 unfold seatsN
 rw [if_pos h1]
 have := key T.length 0 (l.length + 2) om9 om9 (Nat.zero_le _)
 simpa using this
abbrev Key9 := Int × Int × Int
def Seat.key (x : Seat) : Key9 := (x.n.slot, x.n.level, x.n.right)
def LkK : List Key9 → Prop
 | [] => True
 | [x] => x.2.2 = -1
 | x :: y :: T => x.2.2 = (if y.2.1 = x.2.1 then y.1 else -1) ∧ LkK (y :: T)
theorem want_succ (x : Seat) (L : List Seat) (i : Nat) : wantN (x :: L) (i + 1) = wantN L i := by
 unfold wantN
 simp
theorem linked_iff : ∀ ss, LinkedP ss ↔ LkK (ss.map Seat.key)
 | [] => ⟨fun _ => trivial, fun _ i h => absurd h (Nat.not_lt_zero _)⟩
 | [x] => by
  constructor
  ·intro h
   have := h 0 (by simp)
   rw [wantN_f (by simp)] at this
   exact this
  ·intro h i hi
   have : i = 0 := by simp at hi; exact hi
   subst this
   rw [wantN_f (by simp)]
   exact h
 | x :: y :: T => by
  have ih := linked_iff (y :: T)
  have e : wantN (x :: y :: T) 0 = if y.n.level = x.n.level then y.n.slot else -1 := by
   unfold wantN
   simp
  constructor
  ·intro h
   refine ⟨?_, ih.1 fun i hi => ?_⟩
   ·have := h 0 (by simp)
    rw [e] at this
    exact this
   ·have := h (i + 1) (by simpa using hi)
    rw [want_succ] at this
    exact this
  ·intro h i hi
   cases i with
   | zero => rw [e]; exact h.1
   | succ i => rw [want_succ]; exact ih.2 h.2 i (by simpa using hi)
theorem lk_part {s v r y : Int} : ∀ (P S : List Key9), LkK (P ++ (s, v, r) :: S) → LkK (P ++ (s, v, y) :: (y, v, r) :: S)
 | [], [], h => ⟨(if_pos rfl).symm, h⟩
 | [], q :: S, h => ⟨(if_pos rfl).symm, h.1, h.2⟩
 | [p], S, h => by
  have h : p.2.2 = (if v = p.2.1 then s else -1) ∧ LkK ([] ++ (s, v, r) :: S) := h
  exact ⟨h.1, lk_part [] S h.2⟩
 | p :: q :: P, S, h => by
  have h : p.2.2 = (if q.2.1 = p.2.1 then q.1 else -1) ∧ LkK ((q :: P) ++ (s, v, r) :: S) := h
  exact ⟨h.1, lk_part (q :: P) S h.2⟩
theorem lk_head {s s' v r : Int} : ∀ (S : List Key9), LkK ((s, v, r) :: S) → LkK ((s', v, r) :: S)
 | [], h => h
 | q :: S, h => ⟨h.1, h.2⟩
theorem lk_lift {s v x y : Int} {S : List Key9} (h : LkK ((s, v, -1) :: S)) : LkK ((s, v + 1, -1) :: (x, v, y) :: (y, v, -1) :: S) :=
 ⟨(if_neg (by show ¬ v = v + 1; omega)).symm, (if_pos rfl).symm, lk_head S h⟩
theorem once_of {l : List Nd} {T : List Seat} (hs : SlotsP l) (hp : (T.map fun x : Seat => x.n.slot).Perm (l.map fun n : Nd => n.slot)) : OnceP l T := by
 refine ⟨by simpa using hp.length_eq.symm, fun i h => ?_⟩
 have h1 := (List.Perm.filter (fun q : Int => decide (q = l[i].slot)) hp).length_eq
 rw [filter_map9, filter_map9, List.length_map, List.length_map] at h1
 have h2 : (l.filter fun n => decide (n.slot = l[i].slot)).length = 1 := by
  have := atS_all hs l[i].slot
  unfold atS at this
  rw [this, (hs i h).1, dif_pos ⟨om9, om9, om9⟩]
  rfl
 rw [← h2, ← h1]; rfl
theorem slots_nd {l : List Nd} (hs : SlotsP l) : (l.map fun n : Nd => n.slot).Nodup := by
 refine List.pairwise_iff_getElem.2 fun i j hi hj hij he => ?_
 rw [List.getElem_map, List.getElem_map] at he
 have h3 := (hs i (by simpa using hi)).1
 have h4 := (hs j (by simpa using hj)).1
 omega
variable {c : Cfg} {l : List Nd} {ss : List Seat}
theorem Tree.perm_s (t : Tree c l ss) : (ss.map fun x : Seat => x.n.slot).Perm (l.map fun n : Nd => n.slot) := by
 have := t.perm.map fun n : Nd => n.slot
 rwa [List.map_map] at this
theorem Tree.nodup_s (t : Tree c l ss) : (ss.map fun x : Seat => x.n.slot).Nodup := (t.perm_s.nodup_iff).2 (slots_nd t.slot)
theorem uniq_of : ∀ {L : List Seat}, (L.map fun x : Seat => x.n.slot).Nodup → ∀ {x y : Seat}, x ∈ L → y ∈ L → x.n.slot = y.n.slot → x = y
 | [], _, _, _, hx, _, _ => by cases hx
 | a :: L, h, x, y, hx, hy, e => by
  rw [List.map_cons, List.nodup_cons] at h
  rcases List.mem_cons.1 hx with e1 | h1
  ·rcases List.mem_cons.1 hy with e2 | h2
   ·rw [e1, e2]
   ·exact absurd (List.mem_map.2 ⟨y, h2, by rw [← e1]; exact e.symm⟩) h.1
  ·rcases List.mem_cons.1 hy with e2 | h2
   ·exact absurd (List.mem_map.2 ⟨x, h1, by rw [← e2]; exact e⟩) h.1
   ·exact uniq_of h.2 h1 h2 e
theorem Tree.uniq (t : Tree c l ss) {x y : Seat} (hx : x ∈ ss) (hy : y ∈ ss) (e : x.n.slot = y.n.slot) : x = y := uniq_of t.nodup_s hx hy e
theorem flat_uniq {f : Seat → List Seat} : ∀ {L : List Seat}, ((L.flatMap f).map fun x : Seat => x.n.slot).Nodup → ∀ {x z y y' : Seat}, x ∈ L → z ∈ L → y ∈ f x → y' ∈ f z → y.n.slot = y'.n.slot → x = z
 | [], _, _, _, _, _, hx, _, _, _, _ => by cases hx
 | a :: L, h, x, z, y, y', hx, hz, hy, hy', e => by
  rw [List.flatMap_cons, List.map_append, List.nodup_append] at h
  obtain ⟨h1, h2, h3⟩ := h
  rcases List.mem_cons.1 hx with e1 | g1
  ·rcases List.mem_cons.1 hz with e2 | g2
   ·rw [e1, e2]
   ·exact absurd e (h3 _ (List.mem_map.2 ⟨y, by rw [← e1]; exact hy, rfl⟩) _ (List.mem_map.2 ⟨y', List.mem_flatMap.2 ⟨z, g2, hy'⟩, rfl⟩))
  ·rcases List.mem_cons.1 hz with e2 | g2
   ·exact absurd e.symm (h3 _ (List.mem_map.2 ⟨y', by rw [← e2]; exact hy', rfl⟩) _ (List.mem_map.2 ⟨y, List.mem_flatMap.2 ⟨x, g1, hy⟩, rfl⟩))
   ·exact flat_uniq h2 g1 g2 hy hy' e
theorem flat_nd {f : Seat → List Seat} : ∀ {L : List Seat}, ((L.flatMap f).map fun x : Seat => x.n.slot).Nodup → ∀ {x : Seat}, x ∈ L → ((f x).map fun x : Seat => x.n.slot).Nodup
 | [], _, _, hx => by cases hx
 | a :: L, h, x, hx => by
  rw [List.flatMap_cons, List.map_append, List.nodup_append] at h
  rcases List.mem_cons.1 hx with rfl | hx
  ·exact h.1
  ·exact flat_nd h.2.1 hx
theorem Tree.tail_nd (t : Tree c l ss) : ((ss.flatMap (kidsD l)).map fun x : Seat => x.n.slot).Nodup := by
 have h := t.nodup_s
 rw [t.fix, List.map_cons, List.nodup_cons] at h
 exact h.2
theorem Tree.root_kid (t : Tree c l ss) {x y : Seat} (hx : x ∈ ss) (hy : y ∈ kidsD l x) : y.n.slot ≠ (rootS l 0).n.slot := fun e => by
 have h := t.nodup_s
 rw [t.fix, List.map_cons, List.nodup_cons] at h
 exact h.1 (List.mem_map.2 ⟨y, List.mem_flatMap.2 ⟨x, hx, hy⟩, e⟩)
theorem Tree.parent (t : Tree c l ss) {x z y y' : Seat} (hx : x ∈ ss) (hz : z ∈ ss) (hy : y ∈ kidsD l x) (hy' : y' ∈ kidsD l z) (e : y.n.slot = y'.n.slot) : x = z := flat_uniq t.tail_nd hx hz hy hy' e
theorem Tree.kid_nd (t : Tree c l ss) {x : Seat} (hx : x ∈ ss) {i j : Nat} (hi : i < (kidsD l x).length) (hj : j < (kidsD l x).length) (e : (kidsD l x)[i].n.slot = (kidsD l x)[j].n.slot) : i = j := by
 have h := flat_nd t.tail_nd hx
 have h2 := List.pairwise_iff_getElem.1 h
 simp only [List.length_map, List.getElem_map] at h2
 rcases Nat.lt_trichotomy i j with h3 | h3 | h3
 ·exact absurd e (h2 i j hi hj h3)
 ·exact h3
 ·exact absurd e.symm (h2 j i hj hi h3)
theorem tree_mk (hc : CfgR c) (hpos : 0 < l.length) (hsml : Sml l) (hs : SlotsP l) (hfix : ss = rootS l 0 :: ss.flatMap (kidsD l)) (hk : ∀ x ∈ ss, (kidsO l x).isSome = true)
  (hp : (ss.map fun x : Seat => x.n.slot).Perm (l.map fun n : Nd => n.slot)) (hlk : LkK (ss.map Seat.key)) (hlen : (l.length : Int) ≤ c.slots) (hseat : ∀ x ∈ ss, SeatP c x) : Tree c l ss :=
 ⟨hc, hpos, hsml, hs, seats_of (by have := find_at hs hpos; rw [show ((0 : Nat) : Int) = 0 from rfl] at this; rw [this]) hfix hk (by have := hp.length_eq; simp at this; omega),
  ⟨⟨once_of hs hp, (linked_iff ss).2 hlk, hlen⟩, fun i h => hseat _ (List.getElem_mem h)⟩⟩
theorem Tree.two (t : Tree c l ss) {x : Seat} (hx : x ∈ ss) (s : Span) : mergeN [clips s x.n.msgs, clips s x.ms] = clips s x.n.msgs ++ clips s x.ms ∧ Rst (clips s x.n.msgs ++ clips s x.ms) := by
 obtain ⟨h1, _, h3⟩ := t.msgs hx
 have hs := (t.seat hx).2.2.2
 refine merge_two (clips_rst h1) (clips_rst (t.rst x hx)) fun a ha b hb => ?_
 obtain ⟨a', ha', e1⟩ := clips_stamp ha
 obtain ⟨b', hb', e2⟩ := clips_stamp hb
 have := h3 a' ha'
 obtain ⟨i, hi, rfl⟩ := List.getElem_of_mem hb'
 have := hs i hi
 omega
theorem kidSt_ext {l l' : List Nd} {x y : Seat} {i j : Nat} (hn : (findN l (x.n.kids.getD i 0)).1 = (findN l' (y.n.kids.getD j 0)).1)
  (hs : ∀ q, (x.s.meet (rangeN x.n.pivots (i : Int))).has q = (y.s.meet (rangeN y.n.pivots (j : Int))).has q)
  (hm : ∀ s : Span, s = x.s.meet (rangeN x.n.pivots (i : Int)) → mergeN [clips s x.n.msgs, clips s x.ms] = mergeN [clips s y.n.msgs, clips s y.ms]) : kidSt l x i = kidSt l' y j := by
 have e : x.s.meet (rangeN x.n.pivots (i : Int)) = y.s.meet (rangeN y.n.pivots (j : Int)) := by
  rw [← meet_norm x.s, ← meet_norm y.s]
  exact norm_ext hs
 have h := hm _ rfl
 show (⟨_, _, _⟩ : Seat) = ⟨_, _, _⟩
 rw [hn, h, e]
end Go.Fw

namespace Go.Fw
def binsN (p : List Str) (c : List Int) (i : Nat) (k : Str) (v : Int) : List Str × List Int :=
 if c.length ≤ i ∨ (rangeN p (i : Int)).has k = false ∨ k = (rangeN p (i : Int)).lo then ([], []) else ((p.take i ++ [k]) ++ p.drop i, (c.take (i + 1) ++ [v]) ++ c.drop (i + 1))
def bremN (p : List Str) (c : List Int) (i : Nat) : List Str × List Int :=
 if i < 1 ∨ c.length ≤ i ∨ p.length < i then ([], []) else (p.take (i - 1) ++ p.drop i, c.take i ++ c.drop (i + 1))
theorem range_in {p : List Str} {i : Nat} {k : Str} (h : (rangeN p (i : Int)).has k = true) : i ≤ p.length := by
 by_cases h2 : i ≤ p.length
 ·exact h2
 ·rw [rangeN_out om9] at h
  have : Span.zero.has k = false := by
   simp only [Span.zero, Span.has]
   cases h3 : k.lt Str.nil
   ·simp
   ·simp
  rw [this] at h; cases h
theorem range_within {p : List Str} {i : Nat} {k : Str} (h : (rangeN p (i : Int)).has k = true) (h2 : ¬ k = (rangeN p (i : Int)).lo) :
  (∀ h : 0 < i ∧ i - 1 < p.length, (p[i - 1]'h.2).lt k = true) ∧ (∀ h : i < p.length, k.lt p[i] = true) := by
 have hi := range_in h
 have e := rangeN_in (l := p) (i := (i : Int)) om9 om9
 have h0 := h
 rw [e, norm_has] at h
 simp only [Span.has, Bool.and_eq_true, Bool.or_eq_true, Bool.not_eq_true', decide_eq_true_eq] at h
 obtain ⟨h3, h4⟩ := h
 have hhi : ∀ h : i < p.length, k.lt p[i] = true := fun hlt => by
  rcases h4 with h4 | h4
  ·omega
  ·rw [show ((i : Int)).toNat = i from rfl, getD_in (d := Str.nil) hlt] at h4; exact h4
 refine ⟨fun ⟨h5, h6⟩ => ?_, hhi⟩
 rw [if_pos om9, show ((i : Int) - 1).toNat = i - 1 from by omega, getD_in (d := Str.nil) h6] at h3
 cases hlt : (p[i - 1]'h6).lt k
 ·exfalso
  have hke : k = p[i - 1]'h6 := Str.lt_total h3 hlt
  apply h2
  rw [e, if_pos om9, show ((i : Int) - 1).toNat = i - 1 from by omega, getD_in (d := Str.nil) h6]
  unfold Span.norm
  split
  ·rename_i hem
   exfalso
   simp only [Span.empty, Bool.and_eq_true, Bool.not_eq_true', decide_eq_false_iff_not] at hem
   have := h4.resolve_left om9
   rw [hke] at this
   simp_all
  ·split <;> exact hke
 ·rfl
theorem bins_right {p : List Str} {c : List Int} {i : Nat} {k : Str} {v : Int} (hr : rightN p c.length = true) (hi : i < c.length) (h : (rangeN p (i : Int)).has k = true) (h2 : ¬ k = (rangeN p (i : Int)).lo) :
  rightN ((p.take i ++ [k]) ++ p.drop i) ((c.take (i + 1) ++ [v]) ++ c.drop (i + 1)).length = true := by
 obtain ⟨hp, hn⟩ := rightN_spec hr
 obtain ⟨h3, h4⟩ := range_within h h2
 have hi' := range_in h
 refine rightN_of (rising_iff.2 fun j hj => ?_) (by simp; omega)
 have hl : ((p.take i ++ [k]) ++ p.drop i).length = p.length + 1 := by simp; omega
 have get : ∀ q (hq : q < ((p.take i ++ [k]) ++ p.drop i).length), ((p.take i ++ [k]) ++ p.drop i)[q] = if h : q < i then p[q]'om9 else if h : q = i then k else p[q - 1]'om9 := fun q hq => by
  by_cases h5 : q < i
  ·rw [dif_pos h5, List.getElem_append_left (by simp; omega), List.getElem_append_left (by simp; omega), List.getElem_take]
  ·rw [dif_neg h5]
   by_cases h6 : q = i
   ·rw [dif_pos h6, List.getElem_append_left (by simp; omega), List.getElem_append_right (by simp; omega)]; simp
   ·rw [dif_neg h6, List.getElem_append_right (by simp; omega), List.getElem_drop]
    congr 1; simp; omega
 rw [get, get]
 have hp' := rising_iff.1 hp
 by_cases a : j + 1 < i
 ·rw [dif_pos om9, dif_pos a]; exact hp' j om9
 ·by_cases b : j + 1 = i
  ·rw [dif_pos om9, dif_neg om9, dif_pos b]
   have := h3 ⟨om9, om9⟩
   simpa only [show i - 1 = j from by omega] using this
  ·by_cases d : j = i
   ·rw [dif_neg om9, dif_pos d, dif_neg om9, dif_neg om9]
    have := h4 om9
    simpa only [show j + 1 - 1 = i from by omega] using this
   ·rw [dif_neg om9, dif_neg d, dif_neg om9, dif_neg om9]
    have := hp' (j - 1) om9
    simpa only [show j - 1 + 1 = j + 1 - 1 from by omega] using this
end Go.Fw

namespace Go.Fw
def adoptN (n : Nd) (i : Nat) (k : Str) (v : Int) : Nd × Bool :=
 if n.level = 0 ∨ (binsN n.pivots n.kids i k v).2.length = 0 then (Nd.zero, false)
 else ({ n with pivots := (binsN n.pivots n.kids i k v).1, kids := (binsN n.pivots n.kids i k v).2 }, true)
end Go.Fw
