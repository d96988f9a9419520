/- Searches in maps in any region, how many keys a map has, seats without messages, and what goes through a plain tree. Nothing of the program is named here. No condition. -/
import Derived.Test.YtcngningbcaggaaQgQb
set_option linter.unusedVariables false
set_option linter.unusedSimpArgs false
set_option linter.unnecessarySimpa false
namespace Go.Fw
open Go Go.RowKit
section
variable {α : Type} {G : GH} {V : VEnc α} {P : Program} {t et : TypeId} {m : List (Int × α)}
theorem look_ghA {mv z0 : Value} {z : α} (k : Int) (ht : mapIK P t = some et) (hz : zvK P et = some z0) (hzz : V.R G z0 z) (hm : MpG V G mv m) :
    ∃ v, V.R G v ((getM m k).getD z) ∧ (∀ {E : Env} {f : Fr} {M : MH} {d : Nat} {ty : TypeId} {pos : String} {aft : Array Edge} {x kk : Operand}, E.P = P → ev f x = mv → ev f kk = .int .i64 k → Ok E f G M ⟨some d, .lookup t x kk true, ty, pos, aft, none⟩ (.tuple #[v, .bool (getM m k).isSome])) ∧
      ∀ {E : Env} {f : Fr} {M : MH} {d : Nat} {ty : TypeId} {pos : String} {aft : Array Edge} {x kk : Operand}, E.P = P → ev f x = mv → ev f kk = .int .i64 k → Ok E f G M ⟨some d, .lookup t x kk false, ty, pos, aft, none⟩ v := by
  obtain ⟨b, es, clock, rfl, hg, he⟩ := hm
  obtain ⟨v, h1, h2⟩ := look_run (b := b) (clock := clock) (k := k) ht hz hzz he
  refine ⟨v, h1, fun {E f M d ty pos aft x kk} hP hx hk w hr => ?_, fun {E f M d ty pos aft x kk} hP hx hk w hr => ?_⟩
  · have := h2 w true (hr.r.ro _ _ hg)
    rw [← hP] at this
    simp [execOp, hx, hk, this]
  · have := h2 w false (hr.r.ro _ _ hg)
    rw [← hP] at this
    simp [execOp, hx, hk, this]
end
/-! ## Nodes by their slots -/
theorem nodup_len {α : Type} [DecidableEq α] : ∀ {A B : List α}, A.Nodup → (∀ a ∈ A, a ∈ B) → A.length ≤ B.length
  | [], _, _, _ => Nat.zero_le _
  | a :: A, B, hA, hs => by
    obtain ⟨h1, h2⟩ := List.nodup_cons.1 hA
    have hm := hs a (by simp)
    have ih := nodup_len (A := A) (B := B.erase a) h2 fun x hx => (List.mem_erase_of_ne fun (e : x = a) => h1 (e ▸ hx)).2 (hs x (List.mem_cons_of_mem _ hx))
    have := List.length_erase_of_mem hm
    have := List.length_pos_of_mem hm
    rw [List.length_cons]; omega
structure Met (l : List Nd) (mt : List (Int × Bool)) : Prop where
  nd : (mt.map (·.1)).Nodup
  sub : ∀ s ∈ mt.map (·.1), s ∈ l.map fun n : Nd => n.slot
  tr : ∀ s, getM mt s ≠ some false
theorem Met.len {l : List Nd} {mt : List (Int × Bool)} (h : Met l mt) : mt.length ≤ l.length := by
  have := nodup_len h.nd h.sub
  simpa using this
theorem put_keys : ∀ (m : List (Int × Bool)) (k : Int) (a : Bool), getM m k = none → (putM m k a).map (·.1) = m.map (·.1) ++ [k]
  | [], _, _, _ => rfl
  | p :: m, k, a, h => by
    rw [getM_cons] at h
    rw [putM]
    by_cases e : p.1 = k
    · rw [if_pos e] at h; cases h
    · rw [if_neg e] at h
      rw [if_neg e, List.map_cons, put_keys m k a h]; rfl
theorem getM_key : ∀ {m : List (Int × Bool)} {k : Int}, getM m k = none → k ∉ m.map (·.1)
  | [], _, _ => by simp
  | p :: m, k, h => by
    rw [getM_cons] at h
    by_cases e : p.1 = k
    · rw [if_pos e] at h; cases h
    · rw [if_neg e] at h
      rw [List.map_cons, List.mem_cons]
      rintro (e2 | h2)
      · exact e e2.symm
      · exact getM_key h h2
theorem Met.put {l : List Nd} {mt : List (Int × Bool)} (h : Met l mt) {k : Int} (hk : getM mt k = none) (hl : k ∈ l.map fun n : Nd => n.slot) : Met l (putM mt k true) := by
  refine ⟨?_, fun s hs => ?_, fun s hs => ?_⟩
  · rw [put_keys _ _ _ hk, List.nodup_append]
    exact ⟨h.nd, by simp, fun a ha b hb e => getM_key hk (by simp at hb; rw [← hb, ← e]; exact ha)⟩
  · rw [put_keys _ _ _ hk] at hs
    rcases List.mem_append.1 hs with hs | hs
    · exact h.sub s hs
    · simp at hs; rw [hs]; exact hl
  · rw [getM_put] at hs
    split at hs
    · cases hs
    · exact h.tr s hs
theorem Met.nil (l : List Nd) : Met l [] := ⟨by simp, fun s hs => by simp at hs, fun s h => by cases h⟩
theorem Met.none {l : List Nd} {mt : List (Int × Bool)} (h : Met l mt) {s : Int} (hs : (getM mt s).getD false = false) : getM mt s = none := by
  cases hg : getM mt s with
  | none => rfl
  | some b =>
    cases b
    · exact absurd hg (h.tr s)
    · rw [hg] at hs; cases hs
/-! ## Seats without messages -/
def SeatC17 (G : GH) (cs : List Value) (x : Seat) : Prop :=
  ∃ a1 c1 a2 c2 a3 c3 a4 c4, cs = [.int .i64 x.n.slot, .int .i64 x.n.level, .slice a1 x.n.pivots.length c1, .slice a2 x.n.kids.length c2, .string x.n.high.b, .bool x.n.top, .int .i64 x.n.right, .int .i64 x.n.seen, .slice a3 x.n.msgs.length c3, .slice a4 x.n.rows.length c4, .string x.s.lo.b, .string x.s.hi.b, .bool x.s.opn] ∧
    x.n.Ok ∧ SlR eStr G (.slice a1 x.n.pivots.length c1) x.n.pivots ∧ SlR eInt G (.slice a2 x.n.kids.length c2) x.n.kids ∧ SlR eMsg G (.slice a3 x.n.msgs.length c3) x.n.msgs ∧ SlR ePair G (.slice a4 x.n.rows.length c4) x.n.rows
theorem SeatC17.mono {G G' : GH} {cs x} (hl : Le G G') (h : SeatC17 G cs x) : SeatC17 G' cs x := by
  obtain ⟨a1, c1, a2, c2, a3, c3, a4, c4, h0, h6, h1, h2, h3, h4⟩ := h
  exact ⟨a1, c1, a2, c2, a3, c3, a4, c4, h0, h6, h1.mono hl, h2.mono hl, h3.mono hl, h4.mono hl⟩
def eSeat17 : Enc Seat where
  k := 13
  w := 192
  R := SeatC17
  mono := fun hl h => h.mono hl
  len := fun h => by obtain ⟨a1, c1, a2, c2, a3, c3, a4, c4, h0, _⟩ := h; rw [h0]; rfl
  one := fun h u hu => by
    obtain ⟨a1, c1, a2, c2, a3, c3, a4, c4, h0, _⟩ := h
    rw [h0] at hu
    simp at hu
    rcases hu with rfl | rfl | rfl | rfl | rfl | rfl | rfl | rfl | rfl | rfl | rfl | rfl | rfl <;> rfl
def rows17 (L : List Seat) : List Pair := L.flatMap fun x => x.n.rows
/-! ## What goes through a plain tree -/
def LkR (TW tp bk : Nat) (c : Cfg) (m : List (Int × Nd)) (G : GH) (st : List (Int × Bool) × List Pair) (M : MH) : Prop :=
  ∃ (vat : Value) (bm : Nat) (vo : Value) (Mm Mo : MH), M = (bk, .cells (List.toArray [.int .i64 c.fan, .int .i64 c.leaf, .int .i64 c.bud, .int .i64 c.slots, .int .i64 c.rest, vat, .map (some bm), vo]) TW (0, 0)) :: (Mm ++ Mo) ∧
    MpG vNode G vat m ∧ MpR vBool bm G st.1 Mm ∧ OwnR ePair tp G vo st.2 Mo
theorem LkR.mono {TW tp bk : Nat} {c : Cfg} {m : List (Int × Nd)} {G G' : GH} {st : List (Int × Bool) × List Pair} {M : MH} (hl : Le G G') (h : LkR TW tp bk c m G st M) : LkR TW tp bk c m G' st M := by
  obtain ⟨vat, bm, vo, Mm, Mo, h1, h2, h3, h4⟩ := h
  exact ⟨vat, bm, vo, Mm, Mo, h1, h2.mono hl, h3.mono hl, h4.mono hl⟩
theorem LkR.cast {TW tp bk : Nat} {c : Cfg} {m : List (Int × Nd)} {G : GH} {st st' : List (Int × Bool) × List Pair} {M : MH} (h : LkR TW tp bk c m G st M) (e : st = st') : LkR TW tp bk c m G st' M := e ▸ h
def DfsQ (c : Cfg) (l : List Nd) (lv : Int) (top : Bool) (x : Seat) (slot : Int) (mt : List (Int × Bool)) (rows : List Pair) (b : Bool) (mt' : List (Int × Bool)) (rows' : List Pair) : Prop :=
  (b = true → (0 ≤ lv ∧ (findN l slot).2 = true ∧ Down c l lv.toNat top x mt) ∧ After l lv.toNat x mt mt' ∧ rows' = rows ++ rowsF l lv.toNat x ∧ Met l mt' ∧ rows'.length ≤ 4000 * mt'.length) ∧
  (b = false → ¬ (0 ≤ lv ∧ (findN l slot).2 = true ∧ Down c l lv.toNat top x mt))
section
variable {c : Cfg} {l : List Nd} {lv slot : Int} {top : Bool} {x : Seat} {mt mt' : List (Int × Bool)} {rows rows' : List Pair}
end
end Go.Fw
