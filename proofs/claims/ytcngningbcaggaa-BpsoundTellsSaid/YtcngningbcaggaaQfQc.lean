/- Searches in maps in any region, how many keys a map has, seats without messages, and what goes through a plain tree. Nothing of the program is named here. No condition. -/
import Derived.Test.YtcngningbcaggaaQfQb
set_option linter.unusedVariables false
set_option linter.unusedSimpArgs false
set_option linter.unnecessarySimpa false
namespace Go.Fw
open Go Go.RowKit
section
variable {α : Type} {G : GH} {V : VEnc α} {P : Program} {t et : TypeId} {m : List (Int × α)}
theorem look_ghA {mv z0 : Value} {z : α} (k : Int) (ht : mapIK P t = some et) (hz : zvK P et = some z0) (hzz : V.R G z0 z) (hm : MpG V G mv m) :
    ∃ v, V.R G v ((getM m k).getD z) ∧ (∀ {E : Env} {f : Fr} {M : MH} {d : Nat} {ty : TypeId} {pos : String} {aft : Array Edge} {x kk : Operand}, E.P = P → ev f x = mv → ev f kk = .int .i64 k → Ok E f G M ⟨some d, .lookup t x kk true, ty, pos, aft, none⟩ (.tuple #[v, .bool (getM m k).isSome])) ∧
      ∀ {E : Env} {f : Fr} {M : MH} {d : Nat} {ty : TypeId} {pos : String} {aft : Array Edge} {x kk : Operand}, E.P = P → ev f x = mv → ev f kk = .int .i64 k → Ok E f G M ⟨some d, .lookup t x kk false, ty, pos, aft, none⟩ v := by
  obtain ⟨b, es, clock, rfl, hg, he⟩ := hm
  obtain ⟨v, h1, h2⟩ := look_run (b := b) (clock := clock) (k := k) ht hz hzz he
  refine ⟨v, h1, fun {E f M d ty pos aft x kk} hP hx hk w hr => ?_, fun {E f M d ty pos aft x kk} hP hx hk w hr => ?_⟩
  · have := h2 w true (hr.r.ro _ _ hg)
    rw [← hP] at this
    simp [execOp, hx, hk, this]
  · have := h2 w false (hr.r.ro _ _ hg)
    rw [← hP] at this
    simp [execOp, hx, hk, this]
theorem look_owA {b : Nat} {Ms : MH} {z0 : Value} {z : α} (k : Int) (ht : mapIK P t = some et) (hz : zvK P et = some z0) (hzz : V.R G z0 z) (hm : MpR V b G m Ms) :
    ∃ v, V.R G v ((getM m k).getD z) ∧ (∀ {E : Env} {f : Fr} {M Mr : MH} {d : Nat} {ty : TypeId} {pos : String} {aft : Array Edge} {x kk : Operand}, (Ms ++ Mr).Perm M → E.P = P → ev f x = .map (some b) → ev f kk = .int .i64 k → Ok E f G M ⟨some d, .lookup t x kk true, ty, pos, aft, none⟩ (.tuple #[v, .bool (getM m k).isSome])) ∧
      ∀ {E : Env} {f : Fr} {M Mr : MH} {d : Nat} {ty : TypeId} {pos : String} {aft : Array Edge} {x kk : Operand}, (Ms ++ Mr).Perm M → E.P = P → ev f x = .map (some b) → ev f kk = .int .i64 k → Ok E f G M ⟨some d, .lookup t x kk false, ty, pos, aft, none⟩ v := by
  obtain ⟨es, clock, rfl, he⟩ := hm
  obtain ⟨v, h1, h2⟩ := look_run (b := b) (clock := clock) (k := k) ht hz hzz he
  refine ⟨v, h1, fun {E f M Mr d ty pos aft x kk} hp hP hx hk w hr => ?_, fun {E f M Mr d ty pos aft x kk} hp hP hx hk w hr => ?_⟩
  · have := h2 w true (mem_own hp hr)
    rw [← hP] at this
    simp [execOp, hx, hk, this]
  · have := h2 w false (mem_own hp hr)
    rw [← hP] at this
    simp [execOp, hx, hk, this]
theorem ok_lenM {E : Env} {f : Fr} {M Ms Mr : MH} {b d : Nat} {ty : TypeId} {pos : String} {aft : Array Edge} {x : Operand} (ht : mapIK E.P t = some et) (hm : MpR V b G m Ms) (hp : (Ms ++ Mr).Perm M) (hx : ev f x = .map (some b)) :
    Ok E f G M ⟨some d, .call { callee := .builtin .len, args := #[x], argTypes := #[t] }, ty, pos, aft, none⟩ (.int .i64 (m.length : Nat)) := fun w hr => by
  obtain ⟨es, clock, rfl, he⟩ := hm
  obtain ⟨kt, h1, _, _⟩ := mapIK_ok ht
  have hgo := MapKept.run_getObj_map (P := E.P) (mem_own hp hr)
  simp [execOp, resolve, invoke, builtin, hx, Builtin.len_, run_underlying h1, hgo, goInt, he.len]
end
/-! ## Nodes by their slots -/
theorem atS_le {l : List Nd} (h : SlotsNd l) (s : Int) : (atS l s).length ≤ 1 := by
  have h1 := List.nodup_iff_count.1 h s
  rw [List.count_eq_countP, List.countP_map, ] at h1
  unfold atS
  rw [← List.countP_eq_length_filter]
  refine Nat.le_trans (Nat.le_of_eq (List.countP_congr fun y _ => ?_)) h1
  simp [Function.comp]
theorem by_find {l : List Nd} (h : SlotsNd l) (s : Int) : (getM (bySl l) s).isSome = (findN l s).2 ∧ (getM (bySl l) s).getD Nd.zero = (findN l s).1 := by
  have h1 := bySl_get l s l.length (Nat.le_refl _)
  rw [List.take_length] at h1
  have h2 := atS_le h s
  rw [h1]
  unfold findN
  cases ha : atS l s with
  | nil => exact ⟨rfl, rfl⟩
  | cons n L =>
    rw [ha] at h2
    have : L = [] := by
      cases L with
      | nil => rfl
      | cons _ _ => simp at h2
    subst this
    exact ⟨rfl, rfl⟩
theorem nd_take {l : List Nd} {i : Nat} (hi : i < l.length) (h : SlotsNd (l.take i)) (hn : (getM (bySl (l.take i)) l[i].slot).isSome = false) : SlotsNd (l.take (i + 1)) := by
  unfold SlotsNd at h ⊢
  rw [List.take_succ_eq_append_getElem hi, List.map_append, List.nodup_append]
  refine ⟨h, by simp, fun a ha b hb e => ?_⟩
  simp at hb
  subst hb
  obtain ⟨n, hm, e2⟩ := List.mem_map.1 ha
  rw [bySl_get l _ i (by omega)] at hn
  have : n ∈ atS (l.take i) l[i].slot := List.mem_filter.2 ⟨hm, by rw [← e, ← e2]; simp⟩
  cases hl : (atS (l.take i) l[i].slot).getLast? with
  | none => rw [List.getLast?_eq_none_iff] at hl; rw [hl] at this; cases this
  | some _ => rw [hl] at hn; cases hn
theorem nd_not {l : List Nd} {i : Nat} (hi : i < l.length) (hn : (getM (bySl (l.take i)) l[i].slot).isSome = true) : ¬ SlotsNd l := fun h => by
  rw [bySl_get l _ i (by omega)] at hn
  cases hl : (atS (l.take i) l[i].slot).getLast? with
  | none => rw [hl] at hn; cases hn
  | some n =>
    have hm := List.mem_filter.1 (List.mem_of_getLast? hl)
    obtain ⟨j, hj, e⟩ := List.getElem_of_mem hm.1
    rw [List.length_take] at hj
    rw [List.getElem_take] at e
    have e2 : l[j].slot = l[i].slot := by rw [e]; exact of_decide_eq_true hm.2
    exact List.pairwise_iff_getElem.1 h j i (by simpa using (by omega : j < l.length)) (by simpa using hi) (by omega) (by rw [List.getElem_map, List.getElem_map]; exact e2)
theorem nodup_len {α : Type} [DecidableEq α] : ∀ {A B : List α}, A.Nodup → (∀ a ∈ A, a ∈ B) → A.length ≤ B.length
  | [], _, _, _ => Nat.zero_le _
  | a :: A, B, hA, hs => by
    obtain ⟨h1, h2⟩ := List.nodup_cons.1 hA
    have hm := hs a (by simp)
    have ih := nodup_len (A := A) (B := B.erase a) h2 fun x hx => (List.mem_erase_of_ne fun (e : x = a) => h1 (e ▸ hx)).2 (hs x (List.mem_cons_of_mem _ hx))
    have := List.length_erase_of_mem hm
    have := List.length_pos_of_mem hm
    rw [List.length_cons]; omega
structure Met (l : List Nd) (mt : List (Int × Bool)) : Prop where
  nd : (mt.map (·.1)).Nodup
  sub : ∀ s ∈ mt.map (·.1), s ∈ l.map fun n : Nd => n.slot
  tr : ∀ s, getM mt s ≠ some false
theorem Met.len {l : List Nd} {mt : List (Int × Bool)} (h : Met l mt) : mt.length ≤ l.length := by
  have := nodup_len h.nd h.sub
  simpa using this
theorem put_keys : ∀ (m : List (Int × Bool)) (k : Int) (a : Bool), getM m k = none → (putM m k a).map (·.1) = m.map (·.1) ++ [k]
  | [], _, _, _ => rfl
  | p :: m, k, a, h => by
    rw [getM_cons] at h
    rw [putM]
    by_cases e : p.1 = k
    · rw [if_pos e] at h; cases h
    · rw [if_neg e] at h
      rw [if_neg e, List.map_cons, put_keys m k a h]; rfl
theorem getM_key : ∀ {m : List (Int × Bool)} {k : Int}, getM m k = none → k ∉ m.map (·.1)
  | [], _, _ => by simp
  | p :: m, k, h => by
    rw [getM_cons] at h
    by_cases e : p.1 = k
    · rw [if_pos e] at h; cases h
    · rw [if_neg e] at h
      rw [List.map_cons, List.mem_cons]
      rintro (e2 | h2)
      · exact e e2.symm
      · exact getM_key h h2
theorem Met.put {l : List Nd} {mt : List (Int × Bool)} (h : Met l mt) {k : Int} (hk : getM mt k = none) (hl : k ∈ l.map fun n : Nd => n.slot) : Met l (putM mt k true) := by
  refine ⟨?_, fun s hs => ?_, fun s hs => ?_⟩
  · rw [put_keys _ _ _ hk, List.nodup_append]
    exact ⟨h.nd, by simp, fun a ha b hb e => getM_key hk (by simp at hb; rw [← hb, ← e]; exact ha)⟩
  · rw [put_keys _ _ _ hk] at hs
    rcases List.mem_append.1 hs with hs | hs
    · exact h.sub s hs
    · simp at hs; rw [hs]; exact hl
  · rw [getM_put] at hs
    split at hs
    · cases hs
    · exact h.tr s hs
theorem Met.nil (l : List Nd) : Met l [] := ⟨by simp, fun s hs => by simp at hs, fun s h => by cases h⟩
theorem Met.none {l : List Nd} {mt : List (Int × Bool)} (h : Met l mt) {s : Int} (hs : (getM mt s).getD false = false) : getM mt s = none := by
  cases hg : getM mt s with
  | none => rfl
  | some b =>
    cases b
    · exact absurd hg (h.tr s)
    · rw [hg] at hs; cases hs
/-! ## Seats without messages -/
def SeatC17 (G : GH) (cs : List Value) (x : Seat) : Prop :=
  ∃ a1 c1 a2 c2 a3 c3 a4 c4, cs = [.int .i64 x.n.slot, .int .i64 x.n.level, .slice a1 x.n.pivots.length c1, .slice a2 x.n.kids.length c2, .string x.n.high.b, .bool x.n.top, .int .i64 x.n.right, .int .i64 x.n.seen, .slice a3 x.n.msgs.length c3, .slice a4 x.n.rows.length c4, .string x.s.lo.b, .string x.s.hi.b, .bool x.s.opn] ∧
    x.n.Ok ∧ SlR eStr G (.slice a1 x.n.pivots.length c1) x.n.pivots ∧ SlR eInt G (.slice a2 x.n.kids.length c2) x.n.kids ∧ SlR eMsg G (.slice a3 x.n.msgs.length c3) x.n.msgs ∧ SlR ePair G (.slice a4 x.n.rows.length c4) x.n.rows
theorem SeatC17.mono {G G' : GH} {cs x} (hl : Le G G') (h : SeatC17 G cs x) : SeatC17 G' cs x := by
  obtain ⟨a1, c1, a2, c2, a3, c3, a4, c4, h0, h6, h1, h2, h3, h4⟩ := h
  exact ⟨a1, c1, a2, c2, a3, c3, a4, c4, h0, h6, h1.mono hl, h2.mono hl, h3.mono hl, h4.mono hl⟩
def eSeat17 : Enc Seat where
  k := 13
  w := 192
  R := SeatC17
  mono := fun hl h => h.mono hl
  len := fun h => by obtain ⟨a1, c1, a2, c2, a3, c3, a4, c4, h0, _⟩ := h; rw [h0]; rfl
  one := fun h u hu => by
    obtain ⟨a1, c1, a2, c2, a3, c3, a4, c4, h0, _⟩ := h
    rw [h0] at hu
    simp at hu
    rcases hu with rfl | rfl | rfl | rfl | rfl | rfl | rfl | rfl | rfl | rfl | rfl | rfl | rfl <;> rfl
theorem kid_rel17 {G : GH} {cs : List Value} {l : List Nd} {x : Seat} {j : Nat} (hj : j < x.n.kids.length) {ms : List Msg} (h : SeatC17 G cs ⟨(findN l x.n.kids[j]).1, x.s.meet (rangeN x.n.pivots (j : Int)), ms⟩) : SeatC17 G cs (kidSt l x j) := by
  have e : (kidSt l x j).n = (findN l x.n.kids[j]).1 := by
    show (findN l (x.n.kids.getD j 0)).1 = _
    rw [List.getD_eq_getElem?_getD, List.getElem?_eq_getElem hj]; rfl
  have e2 : (kidSt l x j).s = x.s.meet (rangeN x.n.pivots (j : Int)) := rfl
  unfold SeatC17 at h ⊢
  rw [e, e2]; exact h
theorem tdiv2 {m : Int} (h : i64 m) : -9223372036854775808 ≤ m.tdiv 2 ∧ m.tdiv 2 ≤ 9223372036854775807 := by
  obtain ⟨h1, h2⟩ := h
  rcases Int.le_total 0 m with h3 | h3
  · rw [Int.tdiv_eq_ediv_of_nonneg h3]; omega
  · have e : m.tdiv 2 = -((-m).tdiv 2) := by rw [Int.neg_tdiv]; omega
    rw [e, Int.tdiv_eq_ediv_of_nonneg (by omega)]; omega
def rows17 (L : List Seat) : List Pair := L.flatMap fun x => x.n.rows
theorem rows17_succ {ss : List Seat} {k : Nat} (h : k < ss.length) : rows17 (ss.take (k + 1)) = rows17 (ss.take k) ++ ss[k].n.rows := by
  unfold rows17; rw [List.take_succ_eq_append_getElem h, List.flatMap_append]; simp
theorem rows17_len {l : List Nd} (hS : Sml l) {ss : List Seat} (hq : QS l ss) : ∀ k, k ≤ ss.length → (rows17 (ss.take k)).length ≤ 4000 * k
  | 0, _ => by simp [rows17]
  | k + 1, h => by
    have ih := rows17_len hS hq k (by omega)
    have h1 := (hS.at (hq k (by omega)).nd).2.2.2.1
    rw [rows17_succ (by omega), List.length_append]; omega
theorem map17_t {c : Cfg} {root : Int} {l : List Nd} {ss : List Seat} (h : sound17 c root l = true) (hs : seatsN l root = some ss) : map17 c root l = rows17 ss := by
  unfold map17; rw [if_pos h, hs]; rfl
theorem map17_f {c : Cfg} {root : Int} {l : List Nd} (h : sound17 c root l = false) : map17 c root l = [] := if_neg (by simp [h])
theorem idx_all {α : Type} (q : α → Bool) (l : List α) : (!decide ((0 : Int) ≤ idxN q l)) = true ↔ ∀ x ∈ l, q x = false := by
  rcases idxN_cases q l with ⟨h, h2⟩ | ⟨k, hk, h, h2, _⟩
  · rw [h]; exact ⟨fun _ => h2, fun _ => rfl⟩
  · rw [h]
    constructor
    · intro h3; simp at h3
    · intro h3; rw [h3 _ (List.getElem_mem hk)] at h2; cases h2
/-! ## What goes through a plain tree -/
def LkR (TW tp bk : Nat) (c : Cfg) (m : List (Int × Nd)) (G : GH) (st : List (Int × Bool) × List Pair) (M : MH) : Prop :=
  ∃ (vat : Value) (bm : Nat) (vo : Value) (Mm Mo : MH), M = (bk, .cells (List.toArray [.int .i64 c.fan, .int .i64 c.leaf, .int .i64 c.bud, .int .i64 c.slots, .int .i64 c.rest, vat, .map (some bm), vo]) TW (0, 0)) :: (Mm ++ Mo) ∧
    MpG vNode G vat m ∧ MpR vBool bm G st.1 Mm ∧ OwnR ePair tp G vo st.2 Mo
theorem LkR.mono {TW tp bk : Nat} {c : Cfg} {m : List (Int × Nd)} {G G' : GH} {st : List (Int × Bool) × List Pair} {M : MH} (hl : Le G G') (h : LkR TW tp bk c m G st M) : LkR TW tp bk c m G' st M := by
  obtain ⟨vat, bm, vo, Mm, Mo, h1, h2, h3, h4⟩ := h
  exact ⟨vat, bm, vo, Mm, Mo, h1, h2.mono hl, h3.mono hl, h4.mono hl⟩
def DfsQ (c : Cfg) (l : List Nd) (lv : Int) (top : Bool) (x : Seat) (slot : Int) (mt : List (Int × Bool)) (rows : List Pair) (b : Bool) (mt' : List (Int × Bool)) (rows' : List Pair) : Prop :=
  (b = true → (0 ≤ lv ∧ (findN l slot).2 = true ∧ Down c l lv.toNat top x mt) ∧ After l lv.toNat x mt mt' ∧ rows' = rows ++ rowsF l lv.toNat x ∧ Met l mt' ∧ rows'.length ≤ 4000 * mt'.length) ∧
  (b = false → ¬ (0 ≤ lv ∧ (findN l slot).2 = true ∧ Down c l lv.toNat top x mt))
section
variable {c : Cfg} {l : List Nd} {lv slot : Int} {top : Bool} {x : Seat} {mt mt' : List (Int × Bool)} {rows rows' : List Pair}
theorem dfs_no (h : ¬ (0 ≤ lv ∧ (findN l slot).2 = true ∧ Down c l lv.toNat top x mt)) : DfsQ c l lv top x slot mt rows false mt' rows' := ⟨fun e => (by cases e), fun _ => h⟩
theorem kid_n {j : Nat} (hj : j < x.n.kids.length) : (kidSt l x j).n = (findN l x.n.kids[j]).1 := by
  show (findN l (x.n.kids.getD j 0)).1 = _
  rw [List.getD_eq_getElem?_getD, List.getElem?_eq_getElem hj]; rfl
theorem kid_fnd {j : Nat} (h : kidOk l x j = true) (hj : j < x.n.kids.length) : (findN l x.n.kids[j]).2 = true := by
  unfold kidOk at h
  rw [List.getD_eq_getElem?_getD, List.getElem?_eq_getElem hj, Bool.and_eq_true] at h
  exact h.1
theorem kid_ok9 {j : Nat} (hj : j < x.n.kids.length) (hf : (findN l x.n.kids[j]).2 = true) (hl : (kidSt l x j).n.level = x.n.level - 1) : kidOk l x j = true := by
  rw [kid_n hj] at hl
  unfold kidOk
  rw [List.getD_eq_getElem?_getD, List.getElem?_eq_getElem hj, Bool.and_eq_true, decide_eq_true_eq]
  exact ⟨hf, hl⟩
theorem down_lvl (hn : x.n = (findN l slot).1) (h : 0 ≤ lv ∧ (findN l slot).2 = true ∧ Down c l lv.toNat top x mt) : (findN l slot).2 = true ∧ getM mt slot = none ∧ x.n.level = lv := by
  obtain ⟨h1, h2, h3⟩ := h
  have := h3.self
  rw [hn, (find_slot h2).1] at this
  have h4 := (wf_top h3.1).2
  exact ⟨h2, this, by omega⟩
end
end Go.Fw
