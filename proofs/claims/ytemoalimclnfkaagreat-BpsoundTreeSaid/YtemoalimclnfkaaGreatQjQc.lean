/- Searches in maps in any region, how many keys a map has, seats without messages, and what goes through a plain tree. Nothing of the program is named here. No condition. -/
import Derived.Test.YtemoalimclnfkaaGreatQjSo
set_option linter.unusedVariables false
set_option linter.unusedSimpArgs false
set_option linter.unnecessarySimpa false
namespace Go.Fw
open Go Go.RowKit
section
variable {α : Type} {G : GH} {V : VEnc α} {P : Program} {t et : TypeId} {m : List (Int × α)}
theorem look_ghA {mv z0 : Value} {z : α} (k : Int) (ht : mapIK P t = some et) (hz : zvK P et = some z0) (hzz : V.R G z0 z) (hm : MpG V G mv m) :
    ∃ v, V.R G v ((getM m k).getD z) ∧ (∀ {E : Env} {f : Fr} {M : MH} {d : Nat} {ty : TypeId} {pos : String} {aft : Array Edge} {x kk : Operand}, E.P = P → ev f x = mv → ev f kk = .int .i64 k → Ok E f G M ⟨some d, .lookup t x kk true, ty, pos, aft, none⟩ (.tuple #[v, .bool (getM m k).isSome])) ∧
      ∀ {E : Env} {f : Fr} {M : MH} {d : Nat} {ty : TypeId} {pos : String} {aft : Array Edge} {x kk : Operand}, E.P = P → ev f x = mv → ev f kk = .int .i64 k → Ok E f G M ⟨some d, .lookup t x kk false, ty, pos, aft, none⟩ v := by
  obtain ⟨b, es, clock, rfl, hg, he⟩ := hm
  obtain ⟨v, h1, h2⟩ := look_run (b := b) (clock := clock) (k := k) ht hz hzz he
  refine ⟨v, h1, fun {E f M d ty pos aft x kk} hP hx hk w hr => ?_, fun {E f M d ty pos aft x kk} hP hx hk w hr => ?_⟩
  · have := h2 w true (hr.r.ro _ _ hg)
    rw [← hP] at this
    simp [execOp, hx, hk, this]
  · have := h2 w false (hr.r.ro _ _ hg)
    rw [← hP] at this
    simp [execOp, hx, hk, this]
theorem look_owA {b : Nat} {Ms : MH} {z0 : Value} {z : α} (k : Int) (ht : mapIK P t = some et) (hz : zvK P et = some z0) (hzz : V.R G z0 z) (hm : MpR V b G m Ms) :
    ∃ v, V.R G v ((getM m k).getD z) ∧ (∀ {E : Env} {f : Fr} {M Mr : MH} {d : Nat} {ty : TypeId} {pos : String} {aft : Array Edge} {x kk : Operand}, (Ms ++ Mr).Perm M → E.P = P → ev f x = .map (some b) → ev f kk = .int .i64 k → Ok E f G M ⟨some d, .lookup t x kk true, ty, pos, aft, none⟩ (.tuple #[v, .bool (getM m k).isSome])) ∧
      ∀ {E : Env} {f : Fr} {M Mr : MH} {d : Nat} {ty : TypeId} {pos : String} {aft : Array Edge} {x kk : Operand}, (Ms ++ Mr).Perm M → E.P = P → ev f x = .map (some b) → ev f kk = .int .i64 k → Ok E f G M ⟨some d, .lookup t x kk false, ty, pos, aft, none⟩ v := by
  obtain ⟨es, clock, rfl, he⟩ := hm
  obtain ⟨v, h1, h2⟩ := look_run (b := b) (clock := clock) (k := k) ht hz hzz he
  refine ⟨v, h1, fun {E f M Mr d ty pos aft x kk} hp hP hx hk w hr => ?_, fun {E f M Mr d ty pos aft x kk} hp hP hx hk w hr => ?_⟩
  · have := h2 w true (mem_own hp hr)
    rw [← hP] at this
    simp [execOp, hx, hk, this]
  · have := h2 w false (mem_own hp hr)
    rw [← hP] at this
    simp [execOp, hx, hk, this]
theorem ok_lenM {E : Env} {f : Fr} {M Ms Mr : MH} {b d : Nat} {ty : TypeId} {pos : String} {aft : Array Edge} {x : Operand} (ht : mapIK E.P t = some et) (hm : MpR V b G m Ms) (hp : (Ms ++ Mr).Perm M) (hx : ev f x = .map (some b)) :
    Ok E f G M ⟨some d, .call { callee := .builtin .len, args := #[x], argTypes := #[t] }, ty, pos, aft, none⟩ (.int .i64 (m.length : Nat)) := fun w hr => by
  obtain ⟨es, clock, rfl, he⟩ := hm
  obtain ⟨kt, h1, _, _⟩ := mapIK_ok ht
  have hgo := MapKept.run_getObj_map (P := E.P) (mem_own hp hr)
  simp [execOp, resolve, invoke, builtin, hx, Builtin.len_, run_underlying h1, hgo, goInt, he.len]
end
/-! ## Nodes by their slots -/
theorem atS_le {l : List Nd} (h : SlotsNd l) (s : Int) : (atS l s).length ≤ 1 := by
  have h1 := List.nodup_iff_count.1 h s
  rw [List.count_eq_countP, List.countP_map, ] at h1
  unfold atS
  rw [← List.countP_eq_length_filter]
  refine Nat.le_trans (Nat.le_of_eq (List.countP_congr fun y _ => ?_)) h1
  simp [Function.comp]
theorem by_find {l : List Nd} (h : SlotsNd l) (s : Int) : (getM (bySl l) s).isSome = (findN l s).2 ∧ (getM (bySl l) s).getD Nd.zero = (findN l s).1 := by
  have h1 := bySl_get l s l.length (Nat.le_refl _)
  rw [List.take_length] at h1
  have h2 := atS_le h s
  rw [h1]
  unfold findN
  cases ha : atS l s with
  | nil => exact ⟨rfl, rfl⟩
  | cons n L =>
    rw [ha] at h2
    have : L = [] := by
      cases L with
      | nil => rfl
      | cons _ _ => simp at h2
    subst this
    exact ⟨rfl, rfl⟩
theorem nd_take {l : List Nd} {i : Nat} (hi : i < l.length) (h : SlotsNd (l.take i)) (hn : (getM (bySl (l.take i)) l[i].slot).isSome = false) : SlotsNd (l.take (i + 1)) := by
  unfold SlotsNd at h ⊢
  rw [List.take_succ_eq_append_getElem hi, List.map_append, List.nodup_append]
  refine ⟨h, by simp, fun a ha b hb e => ?_⟩
  simp at hb
  subst hb
  obtain ⟨n, hm, e2⟩ := List.mem_map.1 ha
  rw [bySl_get l _ i (by omega)] at hn
  have : n ∈ atS (l.take i) l[i].slot := List.mem_filter.2 ⟨hm, by rw [← e, ← e2]; simp⟩
  cases hl : (atS (l.take i) l[i].slot).getLast? with
  | none => rw [List.getLast?_eq_none_iff] at hl; rw [hl] at this; cases this
  | some _ => rw [hl] at hn; cases hn
theorem nd_not {l : List Nd} {i : Nat} (hi : i < l.length) (hn : (getM (bySl (l.take i)) l[i].slot).isSome = true) : ¬ SlotsNd l := fun h => by
  rw [bySl_get l _ i (by omega)] at hn
  cases hl : (atS (l.take i) l[i].slot).getLast? with
  | none => rw [hl] at hn; cases hn
  | some n =>
    have hm := List.mem_filter.1 (List.mem_of_getLast? hl)
    obtain ⟨j, hj, e⟩ := List.getElem_of_mem hm.1
    rw [List.length_take] at hj
    rw [List.getElem_take] at e
    have e2 : l[j].slot = l[i].slot := by rw [e]; exact of_decide_eq_true hm.2
    exact List.pairwise_iff_getElem.1 h j i (by simpa using (by omega : j < l.length)) (by simpa using hi) (by omega) (by rw [List.getElem_map, List.getElem_map]; exact e2)
theorem nodup_len {α : Type} [DecidableEq α] : ∀ {A B : List α}, A.Nodup → (∀ a ∈ A, a ∈ B) → A.length ≤ B.length
  | [], _, _, _ => Nat.zero_le _
  | a :: A, B, hA, hs => by
    obtain ⟨h1, h2⟩ := List.nodup_cons.1 hA
    have hm := hs a (by simp)
    have ih := nodup_len (A := A) (B := B.erase a) h2 fun x hx => (List.mem_erase_of_ne fun (e : x = a) => h1 (e ▸ hx)).2 (hs x (List.mem_cons_of_mem _ hx))
    have := List.length_erase_of_mem hm
    have := List.length_pos_of_mem hm
    rw [List.length_cons]; omega
structure Met (l : List Nd) (mt : List (Int × Bool)) : Prop where
  nd : (mt.map (·.1)).Nodup
  sub : ∀ s ∈ mt.map (·.1), s ∈ l.map fun n : Nd => n.slot
  tr : ∀ s, getM mt s ≠ some false
theorem Met.len {l : List Nd} {mt : List (Int × Bool)} (h : Met l mt) : mt.length ≤ l.length := by
  have := nodup_len h.nd h.sub
  simpa using this
theorem put_keys : ∀ (m : List (Int × Bool)) (k : Int) (a : Bool), getM m k = none → (putM m k a).map (·.1) = m.map (·.1) ++ [k]
  | [], _, _, _ => rfl
  | p :: m, k, a, h => by
    rw [getM_cons] at h
    rw [putM]
    by_cases e : p.1 = k
    · rw [if_pos e] at h; cases h
    · rw [if_neg e] at h
      rw [if_neg e, List.map_cons, put_keys m k a h]; rfl
theorem getM_key : ∀ {m : List (Int × Bool)} {k : Int}, getM m k = none → k ∉ m.map (·.1)
  | [], _, _ => by simp
  | p :: m, k, h => by
    rw [getM_cons] at h
    by_cases e : p.1 = k
    · rw [if_pos e] at h; cases h
    · rw [if_neg e] at h
      rw [List.map_cons, List.mem_cons]
      rintro (e2 | h2)
      · exact e e2.symm
      · exact getM_key h h2
theorem Met.put {l : List Nd} {mt : List (Int × Bool)} (h : Met l mt) {k : Int} (hk : getM mt k = none) (hl : k ∈ l.map fun n : Nd => n.slot) : Met l (putM mt k true) := by
  refine ⟨?_, fun s hs => ?_, fun s hs => ?_⟩
  · rw [put_keys _ _ _ hk, List.nodup_append]
    exact ⟨h.nd, by simp, fun a ha b hb e => getM_key hk (by simp at hb; rw [← hb, ← e]; exact ha)⟩
  · rw [put_keys _ _ _ hk] at hs
    rcases List.mem_append.1 hs with hs | hs
    · exact h.sub s hs
    · simp at hs; rw [hs]; exact hl
  · rw [getM_put] at hs
    split at hs
    · cases hs
    · exact h.tr s hs
theorem Met.nil (l : List Nd) : Met l [] := ⟨by simp, fun s hs => by simp at hs, fun s h => by cases h⟩
theorem Met.none {l : List Nd} {mt : List (Int × Bool)} (h : Met l mt) {s : Int} (hs : (getM mt s).getD false = false) : getM mt s = none := by
  cases hg : getM mt s with
  | none => rfl
  | some b =>
    cases b
    · exact absurd hg (h.tr s)
    · rw [hg] at hs; cases hs
/-! ## Seats without messages -/
def SeatC17 (G : GH) (cs : List Value) (x : Seat) : Prop :=
  ∃ a1 c1 a2 c2 a3 c3 a4 c4, cs = [.int .i64 x.n.slot, .int .i64 x.n.level, .slice a1 x.n.pivots.length c1, .slice a2 x.n.kids.length c2, .string x.n.high.b, .bool x.n.top, .int .i64 x.n.right, .int .i64 x.n.seen, .slice a3 x.n.msgs.length c3, .slice a4 x.n.rows.length c4, .string x.s.lo.b, .string x.s.hi.b, .bool x.s.opn] ∧
    x.n.Ok ∧ SlR eStr G (.slice a1 x.n.pivots.length c1) x.n.pivots ∧ SlR eInt G (.slice a2 x.n.kids.length c2) x.n.kids ∧ SlR eMsg G (.slice a3 x.n.msgs.length c3) x.n.msgs ∧ SlR ePair G (.slice a4 x.n.rows.length c4) x.n.rows
theorem SeatC17.mono {G G' : GH} {cs x} (hl : Le G G') (h : SeatC17 G cs x) : SeatC17 G' cs x := by
  obtain ⟨a1, c1, a2, c2, a3, c3, a4, c4, h0, h6, h1, h2, h3, h4⟩ := h
  exact ⟨a1, c1, a2, c2, a3, c3, a4, c4, h0, h6, h1.mono hl, h2.mono hl, h3.mono hl, h4.mono hl⟩
def eSeat17 : Enc Seat where
  k := 13
  w := 192
  R := SeatC17
  mono := fun hl h => h.mono hl
  len := fun h => by obtain ⟨a1, c1, a2, c2, a3, c3, a4, c4, h0, _⟩ := h; rw [h0]; rfl
  one := fun h u hu => by
    obtain ⟨a1, c1, a2, c2, a3, c3, a4, c4, h0, _⟩ := h
    rw [h0] at hu
    simp at hu
    rcases hu with rfl | rfl | rfl | rfl | rfl | rfl | rfl | rfl | rfl | rfl | rfl | rfl | rfl <;> rfl
theorem tdiv2 {m : Int} (h : i64 m) : -9223372036854775808 ≤ m.tdiv 2 ∧ m.tdiv 2 ≤ 9223372036854775807 := by
  obtain ⟨h1, h2⟩ := h
  rcases Int.le_total 0 m with h3 | h3
  · rw [Int.tdiv_eq_ediv_of_nonneg h3]; omega
  · have e : m.tdiv 2 = -((-m).tdiv 2) := by rw [Int.neg_tdiv]; omega
    rw [e, Int.tdiv_eq_ediv_of_nonneg (by omega)]; omega
def rows17 (L : List Seat) : List Pair := L.flatMap fun x => x.n.rows
theorem idx_all {α : Type} (q : α → Bool) (l : List α) : (!decide ((0 : Int) ≤ idxN q l)) = true ↔ ∀ x ∈ l, q x = false := by
  rcases idxN_cases q l with ⟨h, h2⟩ | ⟨k, hk, h, h2, _⟩
  · rw [h]; exact ⟨fun _ => h2, fun _ => rfl⟩
  · rw [h]
    constructor
    · intro h3; simp at h3
    · intro h3; rw [h3 _ (List.getElem_mem hk)] at h2; cases h2
/-! ## What goes through a plain tree -/
def LkR (TW tp bk : Nat) (c : Cfg) (m : List (Int × Nd)) (G : GH) (st : List (Int × Bool) × List Pair) (M : MH) : Prop :=
  ∃ (vat : Value) (bm : Nat) (vo : Value) (Mm Mo : MH), M = (bk, .cells (List.toArray [.int .i64 c.fan, .int .i64 c.leaf, .int .i64 c.bud, .int .i64 c.slots, .int .i64 c.rest, vat, .map (some bm), vo]) TW (0, 0)) :: (Mm ++ Mo) ∧
    MpG vNode G vat m ∧ MpR vBool bm G st.1 Mm ∧ OwnR ePair tp G vo st.2 Mo
theorem LkR.mono {TW tp bk : Nat} {c : Cfg} {m : List (Int × Nd)} {G G' : GH} {st : List (Int × Bool) × List Pair} {M : MH} (hl : Le G G') (h : LkR TW tp bk c m G st M) : LkR TW tp bk c m G' st M := by
  obtain ⟨vat, bm, vo, Mm, Mo, h1, h2, h3, h4⟩ := h
  exact ⟨vat, bm, vo, Mm, Mo, h1, h2.mono hl, h3.mono hl, h4.mono hl⟩
theorem LkR.cast {TW tp bk : Nat} {c : Cfg} {m : List (Int × Nd)} {G : GH} {st st' : List (Int × Bool) × List Pair} {M : MH} (h : LkR TW tp bk c m G st M) (e : st = st') : LkR TW tp bk c m G st' M := e ▸ h
def DfsQ (c : Cfg) (l : List Nd) (lv : Int) (top : Bool) (x : Seat) (slot : Int) (mt : List (Int × Bool)) (rows : List Pair) (b : Bool) (mt' : List (Int × Bool)) (rows' : List Pair) : Prop :=
  (b = true → (0 ≤ lv ∧ (findN l slot).2 = true ∧ Down c l lv.toNat top x mt) ∧ After l lv.toNat x mt mt' ∧ rows' = rows ++ rowsF l lv.toNat x ∧ Met l mt' ∧ rows'.length ≤ 4000 * mt'.length) ∧
  (b = false → ¬ (0 ≤ lv ∧ (findN l slot).2 = true ∧ Down c l lv.toNat top x mt))
section
variable {c : Cfg} {l : List Nd} {lv slot : Int} {top : Bool} {x : Seat} {mt mt' : List (Int × Bool)} {rows rows' : List Pair}
theorem dfs_no (h : ¬ (0 ≤ lv ∧ (findN l slot).2 = true ∧ Down c l lv.toNat top x mt)) : DfsQ c l lv top x slot mt rows false mt' rows' := ⟨fun e => (by cases e), fun _ => h⟩
theorem kid_n {j : Nat} (hj : j < x.n.kids.length) : (kidSt l x j).n = (findN l x.n.kids[j]).1 := by
  show (findN l (x.n.kids.getD j 0)).1 = _
  rw [List.getD_eq_getElem?_getD, List.getElem?_eq_getElem hj]; rfl
theorem kid_fnd {j : Nat} (h : kidOk l x j = true) (hj : j < x.n.kids.length) : (findN l x.n.kids[j]).2 = true := by
  unfold kidOk at h
  rw [List.getD_eq_getElem?_getD, List.getElem?_eq_getElem hj, Bool.and_eq_true] at h
  exact h.1
theorem kid_ok9 {j : Nat} (hj : j < x.n.kids.length) (hf : (findN l x.n.kids[j]).2 = true) (hl : (kidSt l x j).n.level = x.n.level - 1) : kidOk l x j = true := by
  rw [kid_n hj] at hl
  unfold kidOk
  rw [List.getD_eq_getElem?_getD, List.getElem?_eq_getElem hj, Bool.and_eq_true, decide_eq_true_eq]
  exact ⟨hf, hl⟩
theorem down_lvl (hn : x.n = (findN l slot).1) (h : 0 ≤ lv ∧ (findN l slot).2 = true ∧ Down c l lv.toNat top x mt) : (findN l slot).2 = true ∧ getM mt slot = none ∧ x.n.level = lv := by
  obtain ⟨h1, h2, h3⟩ := h
  have := h3.self
  rw [hn, (find_slot h2).1] at this
  have h4 := (wf_top h3.1).2
  exact ⟨h2, this, by omega⟩
end
section
variable {c : Cfg} {l : List Nd} {root : Int} {b : Bool} {mt : List (Int × Bool)} {rows : List Pair}
theorem good_down (h : Good17 c root l) : 0 ≤ (findN l root).1.level ∧ (findN l root).2 = true ∧ Down c l (findN l root).1.level.toNat true (rootS l root) [] := ⟨h.lvl, h.found, h.wf, h.pre, fun _ _ => rfl⟩
theorem whole_t (hnd : SlotsNd l) (hq : DfsQ c l (findN l root).1.level true (rootS l root) root [] [] b mt rows) (hb : b = true) (hl : mt.length = l.length) : Good17 c root l ∧ rows = map17 c root l := by
  obtain ⟨⟨h1, h2, h3⟩, h4, h5, h6, h7⟩ := hq.1 hb
  have hlen := h4.len
  rw [List.length_nil] at hlen
  have hg : Good17 c root l := ⟨h2, hnd, h1, h3.1, h3.2.1, by omega⟩
  exact ⟨hg, by rw [map17_good hg, h5]; rfl⟩
theorem whole_l (hq : DfsQ c l (findN l root).1.level true (rootS l root) root [] [] b mt rows) (hb : b = true) (hl : mt.length ≠ l.length) : ¬ Good17 c root l := fun hg => by
  obtain ⟨_, h4, _⟩ := hq.1 hb
  have hlen := h4.len
  rw [List.length_nil] at hlen
  exact hl (by rw [hlen, hg.len]; omega)
theorem whole_f (hq : DfsQ c l (findN l root).1.level true (rootS l root) root [] [] b mt rows) (hb : b = false) : ¬ Good17 c root l := fun hg => hq.2 hb (good_down hg)
theorem nd_bad (h : ¬ SlotsNd l) : ¬ Good17 c root l := fun hg => h hg.nd
theorem wf_len : ∀ (n : Nat) (top : Bool) (x : Seat), wfF c l n top x → n + 1 ≤ (preS l n x).length
  | 0, _, x, _ => by rw [preS_0]; simp
  | n + 1, top, x, h => by
    have h0 : ¬ x.n.level = 0 := by have := (wf_top h).2; omega
    have hk := kids_all h.2.1 h0
    have hp : 0 < x.n.kids.length := by have := (rightN_spec hk.2.2.1).2; omega
    rw [preS_succ, List.length_cons]
    have hm : kidSt l x 0 ∈ kidsD l x := by
      rw [hk.1]
      exact List.mem_map.2 ⟨0, List.mem_range.2 hp, rfl⟩
    have ih := wf_len n false _ (h.2.2.2 _ hm)
    have : (preS l n (kidSt l x 0)).length ≤ ((kidsD l x).flatMap (preS l n)).length := by
      obtain ⟨A, B, e⟩ := List.append_of_mem hm
      rw [e, List.flatMap_append, List.flatMap_cons, List.length_append, List.length_append]; omega
    omega
theorem Good17.lvl_le (h : Good17 c root l) : (findN l root).1.level + 1 ≤ l.length := by
  have h1 := wf_len _ _ _ h.wf
  have h2 := h.len
  have h3 := h.lvl
  omega
end
def toNd (n : BNd) : Nd := { Nd.zero with slot := n.slot, level := n.lvl, pivots := n.P, kids := n.K, top := true, right := -1, rows := n.R }
def atB (L : List BNd) (s : Int) : BNd := (L.find? fun n => decide (n.slot = s)).getD ⟨0, 0, [], [], []⟩
theorem atB_mem {L : List BNd} (hn : (L.map BNd.slot).Nodup) {n : BNd} (h : n ∈ L) : atB L n.slot = n := by
  induction L with
  | nil => cases h
  | cons a L ih =>
    unfold atB
    rw [List.map_cons, List.nodup_cons] at hn
    rcases List.mem_cons.1 h with rfl | h
    · rw [List.find?_cons_of_pos (by simp)]; rfl
    · rw [List.find?_cons_of_neg (by
        have : a.slot ≠ n.slot := fun e => hn.1 (by rw [e]; exact List.mem_map_of_mem h)
        simpa using this)]
      exact ih hn.2 h
def ndsN (t : BTr) : List Nd := (usedN t.u).map fun s => toNd (atB (nds t.k t.y) s)
theorem map_atB {L : List BNd} (hn : (L.map BNd.slot).Nodup) : (L.map BNd.slot).map (fun s => toNd (atB L s)) = L.map toNd := by
  rw [List.map_map]
  exact List.map_congr_left fun n hn2 => by show toNd (atB L n.slot) = _; rw [atB_mem hn hn2]
section
variable {fan leaf : Int} {t : BTr}
theorem TOk.ndsP (h : TOk fan leaf t) : (ndsN t).Perm ((nds t.k t.y).map toNd) := by
  rw [← map_atB h.nd]
  exact h.perm.map _
theorem TOk.ndsL (h : TOk fan leaf t) : (ndsN t).length = (nds t.k t.y).length := by rw [h.ndsP.length_eq, List.length_map]
theorem TOk.used (h : TOk fan leaf t) : (usedN t.u).length = (ndsN t).length := by unfold ndsN; rw [List.length_map]
theorem find_one {l : List Nd} (hn : (l.map fun n : Nd => n.slot).Nodup) {n : Nd} (h : n ∈ l) : findN l n.slot = (n, true) := by
  have h1 : atS l n.slot = [n] := by
    unfold atS
    induction l with
    | nil => cases h
    | cons a l ih =>
      rw [List.map_cons, List.nodup_cons] at hn
      rcases List.mem_cons.1 h with rfl | h
      · rw [List.filter_cons_of_pos (by simp), List.filter_eq_nil_iff.2 fun b hb => ?_]
        have : b.slot ≠ n.slot := fun e => hn.1 (by rw [← e]; exact List.mem_map_of_mem (f := fun n : Nd => n.slot) hb)
        simpa using this
      · rw [List.filter_cons_of_neg (by
          have : a.slot ≠ n.slot := fun e => hn.1 (by rw [e]; exact List.mem_map_of_mem (f := fun n : Nd => n.slot) h)
          simpa using this)]
        exact ih hn.2 h
  unfold findN
  rw [h1]; rfl
theorem TOk.ndN (h : TOk fan leaf t) : SlotsNd (ndsN t) := by
  unfold SlotsNd
  refine ((h.ndsP.map fun n : Nd => n.slot).nodup_iff).2 ?_
  rw [List.map_map]
  exact h.nd
theorem TOk.find (h : TOk fan leaf t) {n : BNd} (hn : n ∈ nds t.k t.y) : findN (ndsN t) n.slot = (toNd n, true) :=
  find_one h.ndN (n := toNd n) (h.ndsP.mem_iff.2 (List.mem_map_of_mem hn))
theorem quo_nn {a : Int} (h : 0 ≤ a) : a.tdiv 2 = a / 2 := Int.tdiv_eq_ediv_of_nonneg h
structure SeatOf (k : Nat) (y : BT k) (s : Span) (x : Seat) : Prop where
  n : x.n = toNd (ndB k y)
  s : x.s = s
theorem kid_seats {l : List Nd} {k : Nat} {y : BT (k + 1)} {lo hi : Int} {s : Span} {x : Seat} (hs : s.norm = s) (hok : BT.ok fan leaf (k + 1) lo hi s y) (hx : SeatOf (k + 1) y s x)
    (hf : ∀ c ∈ ndK y, findN l c.slot = (toNd (ndB k c), true)) : kidsO l x = some (kidsF l x (ndK y).length) ∧ ∀ j (hj : j < (ndK y).length), ∃ u : Span, u.norm = u ∧ BT.ok fan leaf k (mnB fan leaf k) (mxB fan leaf k) u (ndK y)[j] ∧ SeatOf k (ndK y)[j] u (kidSt l x j) := by
  have hlen := hok.2.len
  have hpv := hok.2.piv hs
  have hxk : x.n.kids = (ndK y).map BT.slot := by rw [hx.n]; rfl
  have hxp : x.n.pivots = ndP y := by rw [hx.n]; rfl
  have hxl : x.n.level = ((k + 1 : Nat) : Int) := by rw [hx.n]; rfl
  have hkj : ∀ j (hj : j < (ndK y).length), findN l (x.n.kids.getD j 0) = (toNd (ndB k (ndK y)[j]), true) := fun j hj => by
    rw [hxk, List.getD_eq_getElem?_getD, List.getElem?_eq_getElem (by rw [List.length_map]; exact hj)]
    show findN l ((List.map BT.slot (ndK y))[j]'(by rw [List.length_map]; exact hj)) = _
    rw [List.getElem_map]
    exact hf _ (List.getElem_mem hj)
  refine ⟨?_, fun j hj => ?_⟩
  · have hkl : x.n.kids.length = (ndK y).length := by rw [hxk, List.length_map]
    have h9 := kidsO_t (l := l) (x := x) (by omega) (by omega) (by unfold rightN; rw [hxp, hpv.1, hkl, hlen]; simp) (fun j hj => by
      unfold kidOk
      rw [hkj j (by omega)]
      show (true && decide ((ndB k _).lvl = _)) = true
      rw [ndB_lvl, hxl]; simp)
    rw [h9, hkl]
  · obtain ⟨u, hj2, u1, u2, u3, _⟩ := hok.2.at hs (i := j) (by omega)
    refine ⟨u, u1, u3, by show (findN l (x.n.kids.getD j 0)).1 = _; rw [hkj j hj], ?_⟩
    show x.s.meet (rangeN x.n.pivots (j : Int)) = u
    refine span_eq (meet_norm _ _) u1 fun q => ?_
    rw [u2, meet_has, hx.s, hxp, range_has hpv.1 q (by omega)]
theorem kidsF_flat {β : Type} {l : List Nd} {k : Nat} {x : Seat} {K : List (BT k)} {f : Seat → List β} {g : BT k → List β} (h : ∀ j (hj : j < K.length), f (kidSt l x j) = g K[j]) : (kidsF l x K.length).flatMap f = K.flatMap g := by
  have h1 : (kidsF l x K.length).map f = K.map g := by
    unfold kidsF
    refine List.ext_getElem (by simp) fun j h1 h2 => ?_
    simp only [List.getElem_map, List.getElem_range]
    exact h j (by simpa using h2)
  rw [List.flatMap_def, List.flatMap_def, h1]
theorem tree_wf {c : Cfg} {l : List Nd} (hfan : c.fan = fan) (hleaf : c.leaf = leaf) (hf0 : 0 ≤ fan) (hl0 : 0 ≤ leaf) : ∀ (k : Nat) {y : BT k} {lo : Int} {s : Span} {x : Seat} {top : Bool}, s.norm = s →
    BT.ok fan leaf k lo (mxB fan leaf k) s y → SeatOf k y s x → (if top = true then (if k = 0 then (0 : Int) else 2) else mnB fan leaf k) ≤ lo → (∀ n ∈ nds k y, findN l n.slot = (toNd n, true)) →
    wfF c l k top x ∧ preS l k x = (nds k y).map BNd.slot ∧ rowsF l k x = BT.rows k y
  | 0, y, lo, s, x, top, hs, hok, hx, hlo, hf => by
    have hlv : x.n.level = 0 := by rw [hx.n]; rfl
    refine ⟨⟨hlv, (seat17_l hlv).2 ⟨⟨by rw [hx.n]; rfl, by rw [hx.n, hleaf]; exact hok.1.2, ?_⟩, by rw [hx.n]; exact hok.2.1, fun i hi => ?_⟩⟩, ?_, ?_⟩
    · rw [hx.n, hleaf, quo_nn hl0]
      have h1 := hok.1.1
      show _ ≤ ((lfR y).length : Int)
      cases top
      · have h2 : leaf / 2 ≤ lo := hlo
        rw [if_neg (by decide)]; omega
      · rw [if_pos rfl]; omega
    · rw [hx.s]
      have h9 : x.n.rows = lfR y := by rw [hx.n]; rfl
      exact hok.2.2 _ (by rw [← h9]; exact List.getElem_mem hi)
    · show [x.n.slot] = _
      rw [hx.n]; rfl
    · rw [rowsF_0, hx.n]; rfl
  | k + 1, y, lo, s, x, top, hs, hok, hx, hlo, hf => by
    have hlv : x.n.level = ((k + 1 : Nat) : Int) := by rw [hx.n]; rfl
    have hpv := hok.2.piv hs
    obtain ⟨h1, h2⟩ := kid_seats (l := l) hs hok hx fun c hc => by
      have h9 := hf _ (nds_kid hc nds_head)
      rw [ndB_slot] at h9; exact h9
    have hkd : kidsD l x = kidsF l x (ndK y).length := by unfold kidsD; rw [h1]; rfl
    have ih : ∀ j (hj : j < (ndK y).length), wfF c l k false (kidSt l x j) ∧ preS l k (kidSt l x j) = (nds k (ndK y)[j]).map BNd.slot ∧ rowsF l k (kidSt l x j) = BT.rows k (ndK y)[j] := fun j hj => by
      obtain ⟨u, u1, u2, u3⟩ := h2 j hj
      exact tree_wf hfan hleaf hf0 hl0 k u1 u2 u3 (by rw [if_neg (by decide)]; exact Int.le_refl _) fun n hn => hf n (nds_kid (List.getElem_mem hj) hn)
    refine ⟨⟨hlv, by rw [h1]; rfl, (seat17_i (by omega)).2 ⟨⟨by rw [hx.n]; rfl, ?_, ?_⟩, fun i hi => ?_⟩, fun z hz => ?_⟩, ?_, ?_⟩
    · rw [hx.n, hfan]
      have h9 := hok.1.2
      show (((ndK y).map BT.slot).length : Int) ≤ fan
      rw [List.length_map]; exact h9
    · rw [hx.n, hfan, quo_nn hf0]
      have h9 := hok.1.1
      show _ ≤ (((ndK y).map BT.slot).length : Int)
      rw [List.length_map]
      cases top
      · have h8 : fan / 2 ≤ lo := hlo
        rw [if_neg (by decide)]; omega
      · rw [if_pos rfl] at hlo ⊢
        rw [if_neg (by omega)] at hlo
        omega
    · have h9 : x.n.pivots = ndP y := by rw [hx.n]; rfl
      have h8 := hpv.2 _ (by rw [← h9]; exact List.getElem_mem hi)
      rw [hx.s]; exact h8
    · rw [hkd] at hz
      obtain ⟨j, hj, rfl⟩ := List.mem_map.1 hz
      exact (ih j (List.mem_range.1 hj)).1
    · have h9 : preS l (k + 1) x = x.n.slot :: (kidsD l x).flatMap (preS l k) := preS_succ k x
      rw [h9, hkd, kidsF_flat (g := fun c => (nds k c).map BNd.slot) fun j hj => (ih j hj).2.1, nds_succ, List.map_cons, flatMap_map9, hx.n]; rfl
    · have h9 : rowsF l (k + 1) x = (kidsD l x).flatMap (rowsF l k) := by
        unfold rowsF
        show ((kidsD l x).flatMap (dfsF l k)).flatMap _ = _
        rw [List.flatMap_assoc]
      rw [h9, hkd, kidsF_flat (g := BT.rows k) fun j hj => (ih j hj).2.2]; rfl
theorem TOk.root (h : TOk fan leaf t) : findN (ndsN t) t.y.slot = (toNd (ndB t.k t.y), true) := by
  have h9 := h.find nds_head
  rw [ndB_slot] at h9; exact h9
theorem TOk.good (h : TOk fan leaf t) {c : Cfg} (hfan : c.fan = fan) (hleaf : c.leaf = leaf) : Good17 c t.y.slot (ndsN t) ∧ map17 c t.y.slot (ndsN t) = t.rows := by
  have hr := h.root
  have hc := h.cfg
  have hlv : (findN (ndsN t) t.y.slot).1.level = (t.k : Int) := by rw [hr]; exact ndB_lvl
  obtain ⟨w1, w2, w3⟩ := tree_wf (c := c) (l := ndsN t) (top := true) (x := rootS (ndsN t) t.y.slot) hfan hleaf (by omega) (by omega) t.k allS_norm h.ok ⟨by show (findN (ndsN t) t.y.slot).1 = _; rw [hr], rfl⟩ (by rw [if_pos rfl]; exact Int.le_refl _) fun n hn => h.find hn
  have hg : Good17 c t.y.slot (ndsN t) := by
    refine ⟨by rw [hr], h.ndN, by rw [hlv]; omega, ?_, ?_, ?_⟩
    · rw [hlv]; exact w1
    · rw [hlv]; show (preS _ t.k _).Nodup; rw [w2]; exact h.nd
    · rw [hlv]; show (preS _ t.k _).length = _; rw [w2, List.length_map, h.ndsL]
  refine ⟨hg, ?_⟩
  rw [map17_good hg, hlv]
  exact w3
theorem TOk.sound (h : TOk fan leaf t) {c : Cfg} (hfan : c.fan = fan) (hleaf : c.leaf = leaf) : sound17 c t.y.slot (ndsN t) = true := sound_iff17.2 (h.good hfan hleaf).1
/-! ## How many nodes there are -/
theorem flat_len9 {α β γ : Type} {f : α → List β} {g : α → List γ} : ∀ {l : List α}, (∀ c ∈ l, (f c).length + 1 ≤ 2 * (g c).length) → (l.flatMap f).length + l.length ≤ 2 * (l.flatMap g).length
  | [], _ => Nat.le_refl _
  | c :: l, h => by
    rw [List.flatMap_cons, List.flatMap_cons, List.length_append, List.length_append, List.length_cons]
    have h1 := h c (List.mem_cons_self ..)
    have h2 := flat_len9 (l := l) fun d hd => h d (List.mem_cons_of_mem _ hd)
    omega
theorem nds_rows (hf : 4 ≤ fan) (hl : 2 ≤ leaf) : ∀ (k : Nat) {y : BT k} {lo hi : Int} {s : Span}, s.norm = s → BT.ok fan leaf k lo hi s y → (if k = 0 then (1 : Int) else 2) ≤ lo → (nds k y).length + 1 ≤ 2 * (BT.rows k y).length
  | 0, y, lo, hi, s, hs, hok, hlo => by
    have h1 := hok.1.1
    rw [if_pos rfl] at hlo
    show 1 + 1 ≤ 2 * (lfR y).length
    omega
  | k + 1, y, lo, hi, s, hs, hok, hlo => by
    have h1 := hok.1.1
    rw [if_neg (by omega)] at hlo
    have h2 := flat_len9 (f := nds k) (g := BT.rows k) (l := ndK y) fun c hc => by
      obtain ⟨j, hj, rfl⟩ := List.getElem_of_mem hc
      have hlen := hok.2.len
      obtain ⟨u, hj2, u1, u2, u3, _⟩ := hok.2.at hs (i := j) (by omega)
      exact nds_rows hf hl k u1 u3 (by unfold mnB; split <;> omega)
    rw [nds_succ, List.length_cons]
    show _ ≤ 2 * ((ndK y).flatMap (BT.rows k)).length
    omega
end
end Go.Fw
