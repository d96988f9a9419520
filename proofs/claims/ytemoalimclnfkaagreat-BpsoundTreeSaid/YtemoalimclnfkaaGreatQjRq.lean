/- Owned memory in any order, frames of contracts; a row fewer in a tree of rows behind slots. Plain Lean; nothing of the program is named here. No condition. -/
import Derived.Test.YtemoalimclnfkaaGreatQjRo
set_option linter.unusedVariables false
set_option linter.unusedSimpArgs false
set_option linter.unnecessarySimpa false
namespace Go.Fw
open Go Go.RowKit
/-! ## Orders -/
abbrev MQ := Quotient (List.isSetoid (Nat × Obj))
def mq (M : MH) : MQ := Quotient.mk _ M
def mqA (a b : MQ) : MQ := Quotient.liftOn₂ a b (fun x y => mq (x ++ y)) fun _ _ _ _ h k => Quotient.sound (List.Perm.append h k)
theorem mq_app (a b : MH) : mq (a ++ b) = mqA (mq a) (mq b) := rfl
def mo (x : Nat × Obj) : MQ := mq [x]
theorem mq_cons (x : Nat × Obj) (b : MH) : mq (x :: b) = mqA (mo x) (mq b) := rfl
theorem mq_zero (a : MQ) : mqA a (mq []) = a := by
  induction a using Quotient.inductionOn with
  | h a => exact congrArg mq (List.append_nil a)
instance : Std.Associative mqA := ⟨fun a b c => by
  induction a using Quotient.inductionOn with
  | h a =>
    induction b using Quotient.inductionOn with
    | h b =>
      induction c using Quotient.inductionOn with
      | h c => exact congrArg mq (List.append_assoc a b c)⟩
instance : Std.Commutative mqA := ⟨fun a b => by
  induction a using Quotient.inductionOn with
  | h a =>
    induction b using Quotient.inductionOn with
    | h b => exact Quotient.sound List.perm_append_comm⟩
theorem of_mq {a b : MH} (h : mq a = mq b) : a.Perm b := Quotient.exact h
/-! ## Frames -/
theorem Fc.perm {P : Program} {g : FuncId} {vs : List Value} {G : GH} {M M' : MH} {Q : Value → GH → MH → Prop} (hp : M'.Perm M) (h : Fc P g vs G M' Q) : Fc P g vs G M Q := by
  refine ⟨h.1, fun w hw => ?_⟩
  have ho : ∀ b, b ∈ M'.map (·.1) ↔ b ∈ M.map (·.1) := fun b => (hp.map _).mem_iff
  have e : (fun b => b ∈ M'.map (·.1)) = fun b => b ∈ M.map (·.1) := funext fun b => propext (ho b)
  have hw2 : Real w (fun b => b ∈ M'.map (·.1)) G M' w := by rw [e]; exact hw.perm hp
  refine (h.2 w hw2).mono ?_
  rintro x w' ⟨v, G', M1, a1, a2, a3, a4, a5⟩
  rw [e] at a2
  exact ⟨v, G', M1, a1, a2, a3, fun b h1 h2 => (a4 b h1 h2).imp id (ho b).1, a5⟩
theorem Fc.frame {P : Program} {g : FuncId} {vs : List Value} {G : GH} {M Mr : MH} {Q : Value → GH → MH → Prop} (h : Fc P g vs G M Q) : Fc P g vs G (M ++ Mr) (fun v G' M' => ∃ M1, M' = M1 ++ Mr ∧ Q v G' M1) := by
  refine ⟨h.1, fun w hw => ?_⟩
  have hs := hw.sub (M' := M) (List.sublist_append_left _ _)
  have hw2 : Real w (fun b => b ∈ M.map (·.1)) G M w := ⟨rfl, rfl, rfl, Nat.le_refl _, fun _ _ _ => rfl, hs.ro, hs.mu, hs.dis, hs.nd, fun p hp => .inr (List.mem_map_of_mem hp)⟩
  refine (h.2 w hw2).mono ?_
  rintro x w' ⟨v, G', M1, a1, a2, a3, a4, a5⟩
  exact ⟨v, G', M1 ++ Mr, a1, Real.call hw a2 a4, a3, fun b h1 h2 => (a4 b h1 h2).imp id fun h9 => by rw [List.map_append]; exact List.mem_append_left _ h9, M1, rfl, a5⟩
theorem Fc.perm_frame {P : Program} {g : FuncId} {vs : List Value} {G : GH} {M M' Mr : MH} {Q : Value → GH → MH → Prop} (h : Fc P g vs G M' Q) (hp : (M' ++ Mr).Perm M) : Fc P g vs G M (fun v G' M1 => ∃ M2, M1 = M2 ++ Mr ∧ Q v G' M2) := Fc.perm hp h.frame
/-! ## Two neighbours mended -/
def mP {k : Nat} (P : List Str) (i : Nat) : Option (Str × BT k) → List Str
  | none => P.take (i + 1 - 1) ++ P.drop (i + 1)
  | some w => P.set i w.1
def mK {k : Nat} (K : List Int) (i : Nat) : Option (Str × BT k) → List Int
  | none => K.take (i + 1) ++ K.drop (i + 1 + 1)
  | some _ => K
def mT {k : Nat} (K : List (BT k)) (i : Nat) (r : BT k × Option (Str × BT k)) : List (BT k) :=
  match r.2 with
  | none => K.take i ++ ([r.1] ++ K.drop (i + 1 + 1))
  | some w => K.take i ++ ([r.1, w.2] ++ K.drop (i + 1 + 1))
def mU {k : Nat} (u : List Bool) (s : Int) : Option (Str × BT k) → List Bool
  | none => u.set s.toNat false
  | some _ => u
theorem set_spl8 {l : List Str} {i : Nat} (h : i < l.length) (a : Str) : l.set i a = l.take i ++ ([a] ++ l.drop (i + 1)) := set_spl9 h a
theorem mendB_eq {fan leaf : Int} {k : Nat} {s : Int} {P : List Str} {K : List (BT k)} {i : Nat} {u : List Bool} (hi : i + 1 < K.length) (hP : i < P.length) :
    mendB fan leaf s P K i u = (mkN s (mP P i (joinB fan leaf k (K[i]'(by omega)) P[i] K[i + 1]).2) (mT K i (joinB fan leaf k (K[i]'(by omega)) P[i] K[i + 1])), mU u (K[i + 1]).slot (joinB fan leaf k (K[i]'(by omega)) P[i] K[i + 1]).2) := by
  unfold mendB
  rw [getD_lt hi, getD_lt (show i < K.length by omega), getD_lt hP]
  generalize joinB fan leaf k (K[i]'(by omega)) P[i] K[i + 1] = r
  obtain ⟨a, r⟩ := r
  cases r with
  | none => rfl
  | some w =>
    show (mkN s (P.take i ++ ([w.1] ++ P.drop (i + 1))) _, _) = (mkN s (P.set i w.1) _, _)
    rw [set_spl8 hP]; rfl
theorem mT_slots {k : Nat} {K : List (BT k)} {i : Nat} {r : BT k × Option (Str × BT k)} (hi : i + 1 < K.length) (h1 : r.1.slot = (K[i]'(by omega)).slot) (h2 : ∀ w, r.2 = some w → w.2.slot = K[i + 1].slot) : (mT K i r).map BT.slot = mK (K.map BT.slot) i r.2 := by
  obtain ⟨a, r⟩ := r
  cases r with
  | none =>
    show (K.take i ++ ([a] ++ K.drop (i + 1 + 1))).map BT.slot = (K.map BT.slot).take (i + 1) ++ (K.map BT.slot).drop (i + 1 + 1)
    rw [List.map_append, List.map_append, List.map_cons, List.map_nil, h1, List.take_succ_eq_append_getElem (by simp; omega), List.map_take, List.map_drop, List.getElem_map, List.append_assoc]
  | some w =>
    show (K.take i ++ ([a, w.2] ++ K.drop (i + 1 + 1))).map BT.slot = K.map BT.slot
    have e : K = K.take i ++ ([K[i]'(by omega), K[i + 1]] ++ K.drop (i + 1 + 1)) := by
      conv => lhs; rw [← List.take_append_drop i K, List.drop_eq_getElem_cons (by omega : i < K.length), List.drop_eq_getElem_cons hi]
      rfl
    conv => rhs; rw [e]
    rw [List.map_append, List.map_append, List.map_append, List.map_append, List.map_cons, List.map_cons, List.map_cons, List.map_cons, h1, h2 w rfl]
theorem mT_flat {k : Nat} {K : List (BT k)} {i : Nat} {r : BT k × Option (Str × BT k)} : (mT K i r).flatMap (nds k) = (K.take i).flatMap (nds k) ++ (btN r ++ (K.drop (i + 1 + 1)).flatMap (nds k)) := by
  obtain ⟨a, r⟩ := r
  cases r with
  | none => simp [mT, btN]
  | some w => simp [mT, btN]
theorem flat_two {k : Nat} {K : List (BT k)} {i : Nat} (hi : i + 1 < K.length) : K.flatMap (nds k) = (K.take i).flatMap (nds k) ++ (nds k (K[i]'(by omega)) ++ (nds k K[i + 1] ++ (K.drop (i + 1 + 1)).flatMap (nds k))) := by
  conv => lhs; rw [← List.take_append_drop i K, List.drop_eq_getElem_cons (by omega : i < K.length), List.drop_eq_getElem_cons hi]
  rw [List.flatMap_append, List.flatMap_cons, List.flatMap_cons]
abbrev MendQ (AR : GH → List (Option Nat) × List Bool → MH → Prop) (Tn Ts : TypeId) (tb : Nat × Obj) (b_n : Nat) (lv : Int) (vR : Value) (st : List (Option Nat) × List Bool) (Pn : List Str) (Kn : List Int) (i : Nat) {k : Nat} (r : BT k × Option (Str × BT k)) (bs : Int) (v : Value) (G' : GH) (M' : MH) : Prop :=
  ∃ cells' Ma' vp vk Mp' Mx, M'.Perm (tb :: (b_n, .cells (List.toArray [.int .i64 lv, vp, vk, vR]) Tn (0, 0)) :: (Ma' ++ (Mp' ++ Mx))) ∧ AR G' (cells', mU st.2 bs r.2) Ma' ∧ OwnR eStr Ts G' vp (mP Pn i r.2) Mp' ∧ SlR eInt G' vk (mK Kn i r.2) ∧ NsM Tn Ts cells' (btN r) G' Mx ∧ (∀ j : Nat, j ≠ bs.toNat → cells'[j]? = st.1[j]?) ∧ v = .tuple #[]
theorem NsM.ne {Tn Ts : TypeId} {cells : List (Option Nat)} {G : GH} {l : List BNd} {Ms : MH} {s : Nat} {x : Option Nat} (h : NsM Tn Ts cells l G Ms) (hne : ∀ n ∈ l, n.slot.toNat ≠ s) : NsM Tn Ts (cells.set s x) l G Ms := h.agree fun n hn => List.getElem?_set_ne (hne n hn).symm
theorem MendQ.of {AR : GH → List (Option Nat) × List Bool → MH → Prop} {Tn Ts : TypeId} {tb : Nat × Obj} {b_n : Nat} {lv : Int} {vR : Value} {st : List (Option Nat) × List Bool} {Pn : List Str} {Kn : List Int} {i k : Nat} {r r' : BT k × Option (Str × BT k)} {bs : Int} {v : Value} {G' : GH} {M' : MH} (e : r = r') (h : MendQ AR Tn Ts tb b_n lv vR st Pn Kn i r' bs v G' M') : MendQ AR Tn Ts tb b_n lv vR st Pn Kn i r bs v G' M' := e ▸ h
/-! ## Slots that are given back -/
structure DelS (u u' : List Bool) (gone : List Int) : Prop where
  len : u'.length = u.length
  iff : ∀ s, hasN u' s = true ↔ hasN u s = true ∧ s ∉ gone
theorem DelS.rfl9 {u : List Bool} : DelS u u [] := ⟨rfl, fun s => by simp⟩
theorem DelS.trans {u u' u'' : List Bool} {a b : List Int} (h : DelS u u' a) (k : DelS u' u'' b) : DelS u u'' (a ++ b) :=
  ⟨k.len.trans h.len, fun s => by rw [k.iff, h.iff, List.mem_append, not_or, and_assoc]⟩
theorem del_one {u : List Bool} {s : Int} (hs : hasN u s = true) : DelS u (u.set s.toNat false) [s] := by
  obtain ⟨h0, h1, h2⟩ := hasN_lt hs
  refine ⟨List.length_set, fun x => ?_⟩
  rw [List.mem_singleton, hasN_iff, hasN_iff]
  constructor
  · rintro ⟨j, hj, rfl, h3⟩
    rw [List.length_set] at hj
    by_cases e : s.toNat = j
    · subst e; simp at h3
    · rw [List.getElem_set_ne e] at h3
      exact ⟨⟨j, hj, rfl, h3⟩, fun e2 => e (by omega)⟩
  · rintro ⟨⟨j, hj, rfl, h3⟩, h4⟩
    refine ⟨j, by rw [List.length_set]; exact hj, rfl, ?_⟩
    rw [List.getElem_set_ne fun e => h4 (by omega)]; exact h3
theorem DelS.us {u u' : List Bool} {gone : List Int} {l : List BNd} (h : DelS u u' gone) (hu : UsN u l) (hg : ∀ s ∈ gone, s ∉ l.map BNd.slot) : UsN u' l := fun n hn => (h.iff _).2 ⟨hu n hn, fun hm => hg _ hm (List.mem_map_of_mem hn)⟩
theorem us_nn {u : List Bool} {l : List BNd} (h : UsN u l) {n : BNd} (hn : n ∈ l) : 0 ≤ n.slot := (hasN_lt (h n hn)).1
theorem us_slot {u : List Bool} {l : List BNd} : UsN u l ↔ ∀ s ∈ l.map BNd.slot, hasN u s = true := ⟨fun h s hs => by
  obtain ⟨n, hn, rfl⟩ := List.mem_map.1 hs
  exact h n hn, fun h n hn => h _ (List.mem_map_of_mem hn)⟩
theorem sep_two {l1 l2 : List BNd} {u u' : List Bool} (hn : ((l1 ++ l2).map BNd.slot).Nodup) (h1 : UsN u l1) (h2 : UsN u' l2) : ∀ n ∈ l1, ∀ m ∈ l2, n.slot.toNat ≠ m.slot.toNat := fun n hn1 m hm2 e => by
  rw [List.map_append, List.nodup_append] at hn
  have a := us_nn h1 hn1
  have b := us_nn h2 hm2
  exact hn.2.2 _ (List.mem_map_of_mem hn1) _ (List.mem_map_of_mem hm2) (by omega)
section
variable {fan leaf : Int} {key : Str}
theorem rem_kids {k : Nat} {y : BT (k + 1)} {u u2 : List Bool} {gone : List Int} (hnd : ((nds (k + 1) y).map BNd.slot).Nodup) (hus : UsN u (nds (k + 1) y)) {j : Nat} (hj : j < (ndK y).length) {c : BT k} (hd : DelS u u2 gone) (hp : ((nds k (ndK y)[j]).map BNd.slot).Perm ((nds k c).map BNd.slot ++ gone)) :
    UsN u2 (((ndK y).set j c).flatMap (nds k)) ∧ ((((ndK y).set j c).flatMap (nds k)).map BNd.slot).Nodup ∧ ((nds (k + 1) y).map BNd.slot).Perm (y.slot :: ((((ndK y).set j c).flatMap (nds k)).map BNd.slot ++ gone)) ∧ hasN u2 y.slot = true ∧ y.slot ∉ (((ndK y).set j c).flatMap (nds k)).map BNd.slot := by
  have hP : ((nds (k + 1) y).map BNd.slot).Perm (y.slot :: ((((ndK y).set j c).flatMap (nds k)).map BNd.slot ++ gone)) := by
    rw [nds_succ, List.map_cons, ndB_slot]
    refine List.Perm.cons _ ?_
    rw [flat_kid hj, set_spl9 hj, List.flatMap_append, List.flatMap_cons, List.map_append, List.map_append, List.map_append, List.map_append, List.append_assoc, List.append_assoc]
    refine List.Perm.append_left _ ((List.Perm.append_right _ hp).trans ?_)
    rw [List.append_assoc]
    exact List.Perm.append_left _ List.perm_append_comm
  have hn2 := hP.nodup_iff.1 hnd
  rw [List.nodup_cons, List.nodup_append] at hn2
  obtain ⟨n1, n2, n3, n4⟩ := hn2
  have hu := us_slot.1 hus
  have hin : ∀ s, s ∈ y.slot :: ((((ndK y).set j c).flatMap (nds k)).map BNd.slot ++ gone) → hasN u s = true := fun s hs => hu s (hP.mem_iff.2 hs)
  refine ⟨us_slot.2 fun s hs => (hd.iff s).2 ⟨hin s (List.mem_cons_of_mem _ (List.mem_append_left _ hs)), fun h => n4 s hs s h rfl⟩, n2, hP, (hd.iff _).2 ⟨hin _ (List.mem_cons_self ..), fun h => n1 (List.mem_append_right _ h)⟩, fun h => n1 (List.mem_append_left _ h)⟩
def mG {k : Nat} (bs : Int) : Option (Str × BT k) → List Int
  | none => [bs]
  | some _ => []
theorem join_slots : ∀ {k : Nat} {a b : BT k} {p : Str}, ((nds k a).map BNd.slot ++ (nds k b).map BNd.slot).Perm ((btN (joinB fan leaf k a p b)).map BNd.slot ++ mG b.slot (joinB fan leaf k a p b).2)
  | 0, a, b, p => by
    show List.Perm _ ((btN (join0 leaf a.slot b.slot (lfR a ++ lfR b))).map BNd.slot ++ mG b.slot (join0 leaf a.slot b.slot (lfR a ++ lfR b)).2)
    unfold join0
    split <;> exact List.Perm.refl _
  | k + 1, a, b, p => by
    show List.Perm _ ((btN (joinP fan a.slot b.slot (ndP a ++ p :: ndP b) (ndK a ++ ndK b))).map BNd.slot ++ mG b.slot (joinP fan a.slot b.slot (ndP a ++ p :: ndP b) (ndK a ++ ndK b)).2)
    have hl : (nds (k + 1) a).map BNd.slot ++ (nds (k + 1) b).map BNd.slot = (a.slot :: ((ndK a).flatMap (nds k)).map BNd.slot) ++ (b.slot :: ((ndK b).flatMap (nds k)).map BNd.slot) := by
      rw [nds_succ, nds_succ, List.map_cons, List.map_cons, ndB_slot, ndB_slot]
    rw [hl]
    unfold joinP
    split
    · show List.Perm _ ((nds (k + 1) (mkN a.slot (ndP a ++ p :: ndP b) (ndK a ++ ndK b)) ++ []).map BNd.slot ++ [b.slot])
      rw [List.append_nil, nds_mk, List.flatMap_append, List.map_append]
      exact List.Perm.cons _ (List.perm_middle.trans (List.perm_append_singleton _ _).symm)
    · show List.Perm _ ((nds (k + 1) (mkN a.slot _ _) ++ nds (k + 1) (mkN b.slot _ _)).map BNd.slot ++ [])
      rw [List.append_nil, List.map_append, nds_mk, nds_mk]
      have e1 : ((ndK a).flatMap (nds k)).map BNd.slot ++ ((ndK b).flatMap (nds k)).map BNd.slot = (((ndK a ++ ndK b).take (((ndK a ++ ndK b).length + 1) / 2)).flatMap (nds k)).map BNd.slot ++ (((ndK a ++ ndK b).drop (((ndK a ++ ndK b).length + 1) / 2)).flatMap (nds k)).map BNd.slot := by
        rw [← List.map_append, ← List.map_append, ← List.flatMap_append, ← List.flatMap_append, List.take_append_drop]
      refine List.Perm.cons _ (List.perm_middle.trans ?_)
      rw [e1]
      exact List.perm_middle.symm
theorem mend_slots {k : Nat} {K : List (BT k)} {i : Nat} (hi : i + 1 < K.length) {p : Str} :
    ((K.flatMap (nds k)).map BNd.slot).Perm (((mT K i (joinB fan leaf k (K[i]'(by omega)) p K[i + 1])).flatMap (nds k)).map BNd.slot ++ mG K[i + 1].slot (joinB fan leaf k (K[i]'(by omega)) p K[i + 1]).2) := by
  have hj := join_slots (fan := fan) (leaf := leaf) (a := K[i]'(by omega)) (b := K[i + 1]) (p := p)
  rw [mT_flat, flat_two hi]
  simp only [List.map_append, List.append_assoc]
  refine List.Perm.append_left _ ?_
  rw [← List.append_assoc]
  refine (List.Perm.append_right _ hj).trans ?_
  rw [List.append_assoc]
  exact List.Perm.append_left _ List.perm_append_comm
theorem mend_dels {k : Nat} {K : List (BT k)} {i : Nat} (hi : i + 1 < K.length) {r : Option (Str × BT k)} {u : List Bool} (hu : UsN u (K.flatMap (nds k))) : DelS u (mU u K[i + 1].slot r) (mG K[i + 1].slot r) := by
  cases r with
  | none =>
    have : hasN u K[i + 1].slot = true := by
      have h := hu (ndB k K[i + 1]) (List.mem_flatMap.2 ⟨K[i + 1], List.getElem_mem hi, nds_head⟩)
      rwa [ndB_slot] at h
    exact del_one this
  | some w => exact DelS.rfl9
theorem rem_del (hf : 4 ≤ fan) (hlf : 2 ≤ leaf) (hk16 : key.b.size ≤ 16) : ∀ (k : Nat) {lo : Int} {s : Span} {y : BT k} (u : List Bool), (k = 0 ∨ 2 ≤ lo) → s.norm = s → s.has key = true → BT.ok fan leaf k lo (mxB fan leaf k) s y → UsN u (nds k y) → ((nds k y).map BNd.slot).Nodup →
    ∃ gone, DelS u (remB fan leaf key k y u).2 gone ∧ ((nds k y).map BNd.slot).Perm ((nds k (remB fan leaf key k y u).1).map BNd.slot ++ gone)
  | 0, lo, s, y, u, _, _, _, _, _, _ => ⟨[], DelS.rfl9, by rw [List.append_nil]; exact List.Perm.refl _⟩
  | k + 1, lo, s, y, u, hlo, hs, hk, h, hu, hnd => by
    have hlo : 2 ≤ lo := by omega
    have hl := kid_at hs h key
    have hc := h.2
    obtain ⟨v, _, v1, v2, v3, _⟩ := hc.at hs (i := routeN (ndP y) key) (List.length_filter_le _ _)
    have hv : v.has key = true := by rw [v2, hk, decide_eq_true rfl]; rfl
    have hmn : k = 0 ∨ 2 ≤ mnB fan leaf k := by
      by_cases e : k = 0
      · exact .inl e
      · right; unfold mnB; rw [if_neg e]; omega
    have hlen := hc.len
    have hcl : lo ≤ ((ndK y).length : Int) := h.1.1
    have hnk : ((nds k (ndK y)[routeN (ndP y) key]).map BNd.slot).Nodup := by
      rw [nds_succ, List.map_cons, List.nodup_cons, flat_kid hl, List.map_append, List.map_append, List.nodup_append, List.nodup_append] at hnd
      exact hnd.2.2.1.1
    obtain ⟨g1, d1, p1⟩ := rem_del hf hlf hk16 k u hmn v1 hv v3 (us_kid hu (List.getElem_mem hl)) hnk
    have hIt := remB_t (fan := fan) (leaf := leaf) (u := u) hl
    have hIf := remB_f (fan := fan) (leaf := leaf) (u := u) hl
    generalize remB fan leaf key k (ndK y)[routeN (ndP y) key] u = r at *
    obtain ⟨c, u2⟩ := r
    dsimp only at *
    obtain ⟨k1, k2, k3, k4, k5⟩ := rem_kids hnd hu hl d1 p1
    have hset : ((ndK y).set (routeN (ndP y) key) c).length = (ndK y).length := List.length_set
    cases hfw : fewB fan leaf k c
    · rw [hIf hfw]
      exact ⟨g1, d1, by rw [nds_mk]; exact k3⟩
    · rw [hIt hfw]
      have hi : routeN (ndP y) key - 1 + 1 < ((ndK y).set (routeN (ndP y) key) c).length := by omega
      rw [mendB_eq hi (by omega)]
      refine ⟨g1 ++ mG _ _, d1.trans (mend_dels hi k1), ?_⟩
      rw [nds_mk]
      refine k3.trans (List.Perm.cons _ ?_)
      have ms := mend_slots (fan := fan) (leaf := leaf) hi (p := (ndP y)[routeN (ndP y) key - 1]'(by omega))
      refine (List.Perm.append_right g1 ms).trans ?_
      rw [List.append_assoc]
      exact List.Perm.append_left _ List.perm_append_comm
theorem few_kk {k : Nat} {x : Int} {Q : List Str} {L : List Int} {R : List Pair} {s : Int} {P : List Str} {K : List (BT k)} (h : L.length = K.length) : fewN fan leaf ⟨x, ((k + 1 : Nat) : Int), Q, L, R⟩ = fewB fan leaf (k + 1) (mkN s P K) := by
  unfold fewN fewB mnB
  rw [if_neg (show ¬ ((k + 1 : Nat) : Int) = 0 by omega), if_neg (by omega)]
  show decide ((L.length : Int) < fan / 2) = decide ((K.length : Int) < fan / 2)
  rw [h]
end
theorem join_slot {fan leaf : Int} : ∀ {k : Nat} {a b : BT k} {p : Str}, (joinB fan leaf k a p b).1.slot = a.slot ∧ ∀ w, (joinB fan leaf k a p b).2 = some w → w.2.slot = b.slot
  | 0, a, b, p => by
    rw [show joinB fan leaf 0 a p b = join0 leaf a.slot b.slot (lfR a ++ lfR b) from rfl]
    unfold join0
    split
    · exact ⟨rfl, fun w hw => by cases hw⟩
    · exact ⟨rfl, fun w hw => by cases hw; rfl⟩
  | k + 1, a, b, p => by
    rw [show joinB fan leaf (k + 1) a p b = joinP fan a.slot b.slot (ndP a ++ p :: ndP b) (ndK a ++ ndK b) from rfl]
    unfold joinP
    split
    · exact ⟨rfl, fun w hw => by cases hw⟩
    · exact ⟨rfl, fun w hw => by cases hw; rfl⟩
theorem mend_ne {k : Nat} {K : List (BT k)} {i : Nat} (hi : i + 1 < K.length) {u : List Bool} (hu : UsN u (K.flatMap (nds k))) (hn : ((K.flatMap (nds k)).map BNd.slot).Nodup) :
    (∀ n ∈ nds k (K[i]'(by omega)) ++ ndT k K[i + 1], n.slot.toNat ≠ (K[i + 1]).slot.toNat) ∧ (∀ n ∈ (K.take i).flatMap (nds k), n.slot.toNat ≠ (K[i + 1]).slot.toNat) ∧ ∀ n ∈ (K.drop (i + 1 + 1)).flatMap (nds k), n.slot.toNat ≠ (K[i + 1]).slot.toNat := by
  rw [flat_two hi] at hu hn
  have hp : ((K.take i).flatMap (nds k) ++ (nds k (K[i]'(by omega)) ++ (nds k K[i + 1] ++ (K.drop (i + 1 + 1)).flatMap (nds k)))).Perm (((K.take i).flatMap (nds k) ++ (nds k (K[i]'(by omega)) ++ (ndT k K[i + 1] ++ (K.drop (i + 1 + 1)).flatMap (nds k)))) ++ [ndB k K[i + 1]]) := by
    rw [List.append_assoc, List.append_assoc]
    refine List.Perm.append_left _ (List.Perm.append_left _ ?_)
    exact (List.perm_append_singleton _ _).symm
  have hn2 := (hp.map BNd.slot).nodup_iff.1 hn
  have hu1 : UsN u ((K.take i).flatMap (nds k) ++ (nds k (K[i]'(by omega)) ++ (ndT k K[i + 1] ++ (K.drop (i + 1 + 1)).flatMap (nds k)))) := fun n h => hu n (hp.mem_iff.2 (List.mem_append_left _ h))
  have hu2 : UsN u [ndB k K[i + 1]] := fun n h => hu n (hp.mem_iff.2 (List.mem_append_right _ h))
  have hs := fun n h => sep_two hn2 hu1 hu2 n h (ndB k K[i + 1]) (List.mem_singleton.2 rfl)
  rw [ndB_slot] at hs
  refine ⟨fun n h => hs n (List.mem_append_right _ ?_), fun n h => hs n (List.mem_append_left _ h), fun n h => hs n (List.mem_append_right _ (List.mem_append_right _ (List.mem_append_right _ h)))⟩
  rcases List.mem_append.1 h with h | h
  · exact List.mem_append_left _ h
  · exact List.mem_append_right _ (List.mem_append_left _ h)
abbrev RemQ (AR : GH → List (Option Nat) × List Bool → MH → Prop) (Tn Ts : TypeId) (tb : Nat × Obj) (fan leaf : Int) (st : List (Option Nat) × List Bool) {k : Nat} (y : BT k) (r : BT k × List Bool) (v : Value) (G' : GH) (M' : MH) : Prop :=
  ∃ cells' Ma' Mn', M'.Perm (tb :: (Ma' ++ Mn')) ∧ AR G' (cells', r.2) Ma' ∧ NsM Tn Ts cells' (nds k r.1) G' Mn' ∧ (∀ j : Nat, (∀ s ∈ (nds k y).map BNd.slot, s.toNat ≠ j) → cells'[j]? = st.1[j]?) ∧ v = .bool (fewB fan leaf k r.1)
theorem RemQ.of {AR : GH → List (Option Nat) × List Bool → MH → Prop} {Tn Ts : TypeId} {tb : Nat × Obj} {fan leaf : Int} {st : List (Option Nat) × List Bool} {k : Nat} {y : BT k} {r r' : BT k × List Bool} {v : Value} {G' : GH} {M' : MH} (e : r = r') (h : RemQ AR Tn Ts tb fan leaf st y r' v G' M') : RemQ AR Tn Ts tb fan leaf st y r v G' M' := e ▸ h
theorem NsM.sib {Tn Ts : TypeId} {cells cells' : List (Option Nat)} {G : GH} {u : List Bool} {l lk : List BNd} {Ms : MH} (h : NsM Tn Ts cells l G Ms) (hl : UsN u l) (hk : UsN u lk) (hn : ((l ++ lk).map BNd.slot).Nodup) (ha : ∀ j : Nat, (∀ s ∈ lk.map BNd.slot, s.toNat ≠ j) → cells'[j]? = cells[j]?) : NsM Tn Ts cells' l G Ms := h.agree fun n hn1 => ha _ fun s hs => by
  obtain ⟨m, hm, rfl⟩ := List.mem_map.1 hs
  exact (sep_two hn hl hk n hn1 m hm).symm
theorem nodup_sib {k : Nat} {y : BT (k + 1)} (hnd : ((nds (k + 1) y).map BNd.slot).Nodup) {j : Nat} (hj : j < (ndK y).length) : ((nds k (ndK y)[j]).map BNd.slot).Nodup ∧ ((((ndK y).take j).flatMap (nds k) ++ nds k (ndK y)[j]).map BNd.slot).Nodup ∧ ((((ndK y).drop (j + 1)).flatMap (nds k) ++ nds k (ndK y)[j]).map BNd.slot).Nodup ∧ y.slot ∉ (nds k (ndK y)[j]).map BNd.slot := by
  rw [nds_succ, List.map_cons, List.nodup_cons, ndB_slot, flat_kid hj, List.map_append, List.map_append, List.nodup_append, List.nodup_append] at hnd
  obtain ⟨h0, h1, ⟨h2, h3, h4⟩, h5⟩ := hnd
  refine ⟨h2, ?_, ?_, fun h => h0 (List.mem_append_right _ (List.mem_append_left _ h))⟩
  · rw [List.map_append, List.nodup_append]
    exact ⟨h1, h2, fun a ha b hb => h5 a ha b (List.mem_append_left _ hb)⟩
  · rw [List.map_append, List.nodup_append]
    exact ⟨h3, h2, fun a ha b hb e => h4 b hb a ha e.symm⟩
end Go.Fw
