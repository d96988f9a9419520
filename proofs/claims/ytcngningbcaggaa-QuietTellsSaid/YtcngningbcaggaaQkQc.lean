/- Searches in maps in any region, how many keys a map has, seats without messages, and what goes through a plain tree. Nothing of the program is named here. No condition. -/
import Derived.Test.YtcngningbcaggaaQkQa
import Derived.Test.YtcngningbcaggaaQkPh
set_option linter.unusedVariables false
set_option linter.unusedSimpArgs false
set_option linter.unnecessarySimpa false
namespace Go.Fw
open Go Go.RowKit
section
variable {α : Type} {G : GH} {V : VEnc α} {P : Program} {t et : TypeId} {m : List (Int × α)}
end
/-! ## Nodes by their slots -/
theorem nodup_len {α : Type} [DecidableEq α] : ∀ {A B : List α}, A.Nodup → (∀ a ∈ A, a ∈ B) → A.length ≤ B.length
  | [], _, _, _ => Nat.zero_le _
  | a :: A, B, hA, hs => by
    obtain ⟨h1, h2⟩ := List.nodup_cons.1 hA
    have hm := hs a (by simp)
    have ih := nodup_len (A := A) (B := B.erase a) h2 fun x hx => (List.mem_erase_of_ne fun (e : x = a) => h1 (e ▸ hx)).2 (hs x (List.mem_cons_of_mem _ hx))
    have := List.length_erase_of_mem hm
    have := List.length_pos_of_mem hm
    rw [List.length_cons]; omega
structure Met (l : List Nd) (mt : List (Int × Bool)) : Prop where
  nd : (mt.map (·.1)).Nodup
  sub : ∀ s ∈ mt.map (·.1), s ∈ l.map fun n : Nd => n.slot
  tr : ∀ s, getM mt s ≠ some false
theorem Met.len {l : List Nd} {mt : List (Int × Bool)} (h : Met l mt) : mt.length ≤ l.length := by
  have := nodup_len h.nd h.sub
  simpa using this
theorem put_keys : ∀ (m : List (Int × Bool)) (k : Int) (a : Bool), getM m k = none → (putM m k a).map (·.1) = m.map (·.1) ++ [k]
  | [], _, _, _ => rfl
  | p :: m, k, a, h => by
    rw [getM_cons] at h
    rw [putM]
    by_cases e : p.1 = k
    · rw [if_pos e] at h; cases h
    · rw [if_neg e] at h
      rw [if_neg e, List.map_cons, put_keys m k a h]; rfl
theorem getM_key : ∀ {m : List (Int × Bool)} {k : Int}, getM m k = none → k ∉ m.map (·.1)
  | [], _, _ => by simp
  | p :: m, k, h => by
    rw [getM_cons] at h
    by_cases e : p.1 = k
    · rw [if_pos e] at h; cases h
    · rw [if_neg e] at h
      rw [List.map_cons, List.mem_cons]
      rintro (e2 | h2)
      · exact e e2.symm
      · exact getM_key h h2
theorem Met.put {l : List Nd} {mt : List (Int × Bool)} (h : Met l mt) {k : Int} (hk : getM mt k = none) (hl : k ∈ l.map fun n : Nd => n.slot) : Met l (putM mt k true) := by
  refine ⟨?_, fun s hs => ?_, fun s hs => ?_⟩
  · rw [put_keys _ _ _ hk, List.nodup_append]
    exact ⟨h.nd, by simp, fun a ha b hb e => getM_key hk (by simp at hb; rw [← hb, ← e]; exact ha)⟩
  · rw [put_keys _ _ _ hk] at hs
    rcases List.mem_append.1 hs with hs | hs
    · exact h.sub s hs
    · simp at hs; rw [hs]; exact hl
  · rw [getM_put] at hs
    split at hs
    · cases hs
    · exact h.tr s hs
theorem Met.nil (l : List Nd) : Met l [] := ⟨by simp, fun s hs => by simp at hs, fun s h => by cases h⟩
theorem Met.none {l : List Nd} {mt : List (Int × Bool)} (h : Met l mt) {s : Int} (hs : (getM mt s).getD false = false) : getM mt s = none := by
  cases hg : getM mt s with
  | none => rfl
  | some b =>
    cases b
    · exact absurd hg (h.tr s)
    · rw [hg] at hs; cases hs
/-! ## Seats without messages -/
def SeatC17 (G : GH) (cs : List Value) (x : Seat) : Prop :=
  ∃ a1 c1 a2 c2 a3 c3 a4 c4, cs = [.int .i64 x.n.slot, .int .i64 x.n.level, .slice a1 x.n.pivots.length c1, .slice a2 x.n.kids.length c2, .string x.n.high.b, .bool x.n.top, .int .i64 x.n.right, .int .i64 x.n.seen, .slice a3 x.n.msgs.length c3, .slice a4 x.n.rows.length c4, .string x.s.lo.b, .string x.s.hi.b, .bool x.s.opn] ∧
    x.n.Ok ∧ SlR eStr G (.slice a1 x.n.pivots.length c1) x.n.pivots ∧ SlR eInt G (.slice a2 x.n.kids.length c2) x.n.kids ∧ SlR eMsg G (.slice a3 x.n.msgs.length c3) x.n.msgs ∧ SlR ePair G (.slice a4 x.n.rows.length c4) x.n.rows
theorem SeatC17.mono {G G' : GH} {cs x} (hl : Le G G') (h : SeatC17 G cs x) : SeatC17 G' cs x := by
  obtain ⟨a1, c1, a2, c2, a3, c3, a4, c4, h0, h6, h1, h2, h3, h4⟩ := h
  exact ⟨a1, c1, a2, c2, a3, c3, a4, c4, h0, h6, h1.mono hl, h2.mono hl, h3.mono hl, h4.mono hl⟩
def eSeat17 : Enc Seat where
  k := 13
  w := 192
  R := SeatC17
  mono := fun hl h => h.mono hl
  len := fun h => by obtain ⟨a1, c1, a2, c2, a3, c3, a4, c4, h0, _⟩ := h; rw [h0]; rfl
  one := fun h u hu => by
    obtain ⟨a1, c1, a2, c2, a3, c3, a4, c4, h0, _⟩ := h
    rw [h0] at hu
    simp at hu
    rcases hu with rfl | rfl | rfl | rfl | rfl | rfl | rfl | rfl | rfl | rfl | rfl | rfl | rfl <;> rfl
theorem tdiv2 {m : Int} (h : i64 m) : -9223372036854775808 ≤ m.tdiv 2 ∧ m.tdiv 2 ≤ 9223372036854775807 := by
  obtain ⟨h1, h2⟩ := h
  rcases Int.le_total 0 m with h3 | h3
  · rw [Int.tdiv_eq_ediv_of_nonneg h3]; omega
  · have e : m.tdiv 2 = -((-m).tdiv 2) := by rw [Int.neg_tdiv]; omega
    rw [e, Int.tdiv_eq_ediv_of_nonneg (by omega)]; omega
def rows17 (L : List Seat) : List Pair := L.flatMap fun x => x.n.rows
theorem idx_all {α : Type} (q : α → Bool) (l : List α) : (!decide ((0 : Int) ≤ idxN q l)) = true ↔ ∀ x ∈ l, q x = false := by
  rcases idxN_cases q l with ⟨h, h2⟩ | ⟨k, hk, h, h2, _⟩
  · rw [h]; exact ⟨fun _ => h2, fun _ => rfl⟩
  · rw [h]
    constructor
    · intro h3; simp at h3
    · intro h3; rw [h3 _ (List.getElem_mem hk)] at h2; cases h2
/-! ## What goes through a plain tree -/
def LkR (TW tp bk : Nat) (c : Cfg) (m : List (Int × Nd)) (G : GH) (st : List (Int × Bool) × List Pair) (M : MH) : Prop :=
  ∃ (vat : Value) (bm : Nat) (vo : Value) (Mm Mo : MH), M = (bk, .cells (List.toArray [.int .i64 c.fan, .int .i64 c.leaf, .int .i64 c.bud, .int .i64 c.slots, .int .i64 c.rest, vat, .map (some bm), vo]) TW (0, 0)) :: (Mm ++ Mo) ∧
    MpG vNode G vat m ∧ MpR vBool bm G st.1 Mm ∧ OwnR ePair tp G vo st.2 Mo
theorem LkR.mono {TW tp bk : Nat} {c : Cfg} {m : List (Int × Nd)} {G G' : GH} {st : List (Int × Bool) × List Pair} {M : MH} (hl : Le G G') (h : LkR TW tp bk c m G st M) : LkR TW tp bk c m G' st M := by
  obtain ⟨vat, bm, vo, Mm, Mo, h1, h2, h3, h4⟩ := h
  exact ⟨vat, bm, vo, Mm, Mo, h1, h2.mono hl, h3.mono hl, h4.mono hl⟩
theorem LkR.cast {TW tp bk : Nat} {c : Cfg} {m : List (Int × Nd)} {G : GH} {st st' : List (Int × Bool) × List Pair} {M : MH} (h : LkR TW tp bk c m G st M) (e : st = st') : LkR TW tp bk c m G st' M := e ▸ h
def DfsQ (c : Cfg) (l : List Nd) (lv : Int) (top : Bool) (x : Seat) (slot : Int) (mt : List (Int × Bool)) (rows : List Pair) (b : Bool) (mt' : List (Int × Bool)) (rows' : List Pair) : Prop :=
  (b = true → (0 ≤ lv ∧ (findN l slot).2 = true ∧ Down c l lv.toNat top x mt) ∧ After l lv.toNat x mt mt' ∧ rows' = rows ++ rowsF l lv.toNat x ∧ Met l mt' ∧ rows'.length ≤ 4000 * mt'.length) ∧
  (b = false → ¬ (0 ≤ lv ∧ (findN l slot).2 = true ∧ Down c l lv.toNat top x mt))
section
variable {c : Cfg} {l : List Nd} {lv slot : Int} {top : Bool} {x : Seat} {mt mt' : List (Int × Bool)} {rows rows' : List Pair}
end
/-! ## Halving -/
def bsP (q : Nat → Bool) : Nat → Nat → Nat → Nat
  | 0, i, _ => i
  | f + 1, i, j => if i < j then (if q ((i + j) / 2) = true then bsP q f ((i + j) / 2 + 1) j else bsP q f i ((i + j) / 2)) else i
def bsQ (q : Nat → Bool) (i j : Nat) : Nat := bsP q (j - i) i j
/-! ## Texts and rows that need not be sorted -/
def bsS (l : List Str) (k : Str) (h : Nat) : Bool := (l.getD h Str.nil).lt k
def fbS (l : List Str) (k : Str) : Nat := bsQ (bsS l k) 0 l.length
def hbS (l : List Str) (k : Str) : Bool := decide (l[fbS l k]? = some k)
def rbS (l : List Str) (k : Str) : Nat := if hbS l k = true then fbS l k + 1 else fbS l k
def bsR (l : List Pair) (k : Str) (h : Nat) : Bool := (l.getD h ⟨Str.nil, Str.nil⟩).key.lt k
def fbP (l : List Pair) (k : Str) : Nat := bsQ (bsR l k) 0 l.length
def hbP (l : List Pair) (k : Str) : Bool := decide ((l[fbP l k]?).map (·.key) = some k)
def gbP (l : List Pair) (k : Str) : Option Str := if hbP l k = true then (l[fbP l k]?).map (·.val) else none
theorem hbP_at {l : List Pair} {k : Str} (h : hbP l k = true) : ∃ h2 : fbP l k < l.length, l[fbP l k].key = k := by
  have h1 := of_decide_eq_true h
  cases e : l[fbP l k]? with
  | none => rw [e] at h1; cases h1
  | some p =>
    obtain ⟨h2, e2⟩ := List.getElem?_eq_some_iff.1 e
    rw [e] at h1
    exact ⟨h2, by rw [e2]; exact Option.some.inj h1⟩
theorem gbP_t {l : List Pair} {k : Str} (h : hbP l k = true) (h2 : fbP l k < l.length) : gbP l k = some l[fbP l k].val := by
  unfold gbP
  rw [if_pos h, List.getElem?_eq_getElem h2]; rfl
theorem gbP_f {l : List Pair} {k : Str} (h : hbP l k = false) : gbP l k = none := if_neg (by simp [h])
def withB (l : List Pair) (k : Str) (e : Eff) : List Pair :=
  match e.apply (gbP l k) with
  | some v => if hbP l k = true then l.set (fbP l k) ⟨k, v⟩ else (l.take (fbP l k) ++ [⟨k, v⟩]) ++ l.drop (fbP l k)
  | none => if hbP l k = true then l.take (fbP l k) ++ l.drop (fbP l k + 1) else l
def RB (l : List Pair) : Prop := ∀ p ∈ l, p.key.b.size ≤ 4000 ∧ p.val.b.size ≤ 4000
theorem RB.get {l : List Pair} (h : RB l) (k : Str) : ((gbP l k).getD Str.nil).b.size ≤ 4000 := by
  cases e : hbP l k
  · rw [gbP_f e]; show Str.nil.b.size ≤ 4000; decide
  · obtain ⟨h2, _⟩ := hbP_at e
    rw [gbP_t e h2]; exact (h _ (List.getElem_mem h2)).2
theorem apply_szB {e : Eff} {o : Option Str} {v : Str} (he : e.val.b.size ≤ 4000) (ho : (o.getD Str.nil).b.size ≤ 4000) (h : e.apply o = some v) : v.b.size ≤ 4000 := by
  unfold Eff.apply at h
  split at h
  · cases h; exact he
  · split at h
    · cases h
    · split at h
      · cases h; have := Str.add_size (o.getD Str.nil) e.val; omega
      · rw [h] at ho; exact ho
theorem RB.with {l : List Pair} {k : Str} {e : Eff} (h : RB l) (hk : k.b.size ≤ 4000) (he : e.val.b.size ≤ 4000) : RB (withB l k e) := by
  unfold withB
  cases hv : e.apply (gbP l k) with
  | none =>
    dsimp only
    split
    · intro p hp
      rcases List.mem_append.1 hp with hp | hp
      · exact h p (List.mem_of_mem_take hp)
      · exact h p (List.mem_of_mem_drop hp)
    · exact h
  | some v =>
    have hvs := apply_szB he (h.get k) hv
    dsimp only
    split
    · intro p hp
      rcases List.mem_or_eq_of_mem_set hp with hp | rfl
      · exact h p hp
      · exact ⟨hk, hvs⟩
    · intro p hp
      rcases List.mem_append.1 hp with hp | hp
      · rcases List.mem_append.1 hp with hp | hp
        · exact h p (List.mem_of_mem_take hp)
        · rw [List.mem_singleton] at hp; rw [hp]; exact ⟨hk, hvs⟩
      · exact h p (List.mem_of_mem_drop hp)
def takeB (l : List Pair) (m : Msg) : List Pair := if m.kind = 4 then l.filter (fun p => !m.span.has p.key) else withB l m.key (m.on m.key)
def foldB (l : List Pair) (ms : List Msg) : List Pair := ms.foldl takeB l
def MB (ms : List Msg) : Prop := ∀ m ∈ ms, m.key.b.size ≤ 4000 ∧ m.hi.b.size ≤ 4000 ∧ m.val.b.size ≤ 4000
theorem on_valB {m : Msg} (k : Str) (h : m.val.b.size ≤ 4000) : (m.on k).val.b.size ≤ 4000 := by
  unfold Msg.on
  split
  · show (ByteArray.mk #[]).size ≤ 4000; decide
  · split
    · show (ByteArray.mk #[]).size ≤ 4000; decide
    · exact h
theorem MB.take {l : List Msg} (h : MB l) (i : Nat) : MB (l.take i) := fun m hm => h m (List.mem_of_mem_take hm)
theorem RB.take1 {l : List Pair} {m : Msg} (h : RB l) (hm : m.key.b.size ≤ 4000 ∧ m.hi.b.size ≤ 4000 ∧ m.val.b.size ≤ 4000) : RB (takeB l m) := by
  unfold takeB
  split
  · exact fun p hp => h p (List.mem_filter.1 hp).1
  · exact h.with hm.1 (on_valB _ hm.2.2)
theorem RB.fold {ms : List Msg} : ∀ {l : List Pair}, RB l → MB ms → RB (foldB l ms) := by
  induction ms with
  | nil => exact fun h _ => h
  | cons m ms ih => exact fun h hm => ih (h.take1 (hm m (by simp))) (fun m h => hm m (by simp [h]))
theorem RB.filter {l : List Pair} (h : RB l) (p : Pair → Bool) : RB (l.filter p) := fun a ha => h a (List.mem_filter.1 ha).1
def viewB (x : Seat) : List Pair := foldB (x.n.rows.filter fun p => x.s.has p.key) (clips x.s x.ms)
/-! ## Going through any nodes -/
theorem bySl_in {l : List Nd} {s : Int} (h : (getM (bySl l) s).isSome = true) : (getM (bySl l) s).getD Nd.zero ∈ l ∧ s ∈ l.map fun n : Nd => n.slot := by
  have h1 := bySl_get l s l.length (Nat.le_refl _)
  rw [List.take_length] at h1
  rw [h1] at h ⊢
  cases e : (atS l s).getLast? with
  | none => rw [e] at h; cases h
  | some n =>
    have hm := List.mem_filter.1 (List.mem_of_getLast? e)
    exact ⟨hm.1, List.mem_map.2 ⟨n, hm.1, of_decide_eq_true hm.2⟩⟩
theorem bySl_or {l : List Nd} {s : Int} : (getM (bySl l) s).getD Nd.zero = Nd.zero ∨ (getM (bySl l) s).getD Nd.zero ∈ l := by
  cases h : (getM (bySl l) s).isSome
  · left
    cases e : getM (bySl l) s with
    | none => rfl
    | some _ => rw [e] at h; cases h
  · exact .inr (bySl_in h).1
noncomputable def kidB (n : Nd) (x : Seat) (j : Nat) : Seat := ⟨n, x.s.meet (rangeN x.n.pivots (j : Int)), mergeN [clips (x.s.meet (rangeN x.n.pivots (j : Int))) x.n.msgs, clips (x.s.meet (rangeN x.n.pivots (j : Int))) x.ms]⟩
theorem SeatS.kidB {l : List Nd} (h : Sml l) {p q : Nat} {x : Seat} (hx : SeatS l p x) (hq : p < q) {n : Nd} (hn : n = Nd.zero ∨ n ∈ l) (j : Nat) : SeatS l q (kidB n x j) := by
  have h0 := hx.kid h hq j
  exact ⟨hn, h0.ms, h0.sp, h0.key⟩
theorem SeatS.down {l : List Nd} (h : Sml l) {p : Nat} {x : Seat} (hx : SeatS l p x) (s : Int) : SeatS l (p + 1) ⟨(getM (bySl l) s).getD Nd.zero, Span.all, mergeN [x.n.msgs, x.ms]⟩ := by
  refine ⟨bySl_or, ?_, ⟨by show Str.nil.b.size ≤ 4000; decide, by show Str.nil.b.size ≤ 4000; decide⟩, fun m hm => ?_⟩
  · have h1 := merge_len [x.n.msgs, x.ms]
    have h3 := (h.at hx.nd).2.2.1
    have h4 := hx.ms
    have h5 : totN [] = 0 := rfl
    rw [totN_cons, totN_cons, h5] at h1
    show (mergeN _).length ≤ _
    omega
  · obtain ⟨L, hL, hmL⟩ := merge_mem.1 hm
    simp only [List.mem_cons, List.not_mem_nil, or_false] at hL
    rcases hL with rfl | rfl
    · exact (h.at hx.nd).2.2.2.2.2.1 m hmL
    · exact hx.key m hmL
/-! ## Counting -/
def wmN (l : List Nd) : Nat := (l.map fun n => n.msgs.length).sum
theorem wmN_succ {l : List Nd} {i : Nat} (h : i < l.length) : wmN (l.take (i + 1)) = wmN (l.take i) + l[i].msgs.length := by
  unfold wmN
  rw [List.take_succ_eq_append_getElem h, List.map_append, List.sum_append]; simp
theorem wmN_le {l : List Nd} (h : Sml l) : ∀ i, i ≤ l.length → wmN (l.take i) ≤ 4000 * i
  | 0, _ => by simp [wmN]
  | i + 1, hi => by
    have := wmN_le h i (by omega)
    have h2 := (h.at (.inr (List.getElem_mem (show i < l.length by omega)))).2.2.1
    rw [wmN_succ (by omega)]; omega
def lfN (l : List Nd) : Nat := (l.filter fun n => decide (n.level = 0)).length
def lvlS (ss : List Seat) (v : Int) : List Seat := ss.filter fun x => decide (x.n.level = v)
noncomputable def lvK (l : List Nd) : Nat → List Seat
  | 0 => [rootS l 0]
  | k + 1 => (lvK l k).flatMap (kidsD l)
theorem lk_drop : ∀ (A : List Key9) {S : List Key9}, LkK (A ++ S) → LkK S
  | [], _, h => h
  | [x], S, h => by
    cases S with
    | nil => trivial
    | cons y T => exact h.2
  | x :: y :: A, S, h => lk_drop (y :: A) h.2
theorem lk_run {v : Int} : ∀ (X B : List Seat), LkK ((X ++ B).map Seat.key) → (∀ x ∈ X, x.n.level = v) → (∀ y ∈ B, y.n.level ≠ v) → ∀ i (h : i < X.length), X[i].n.right = if h2 : i + 1 < X.length then X[i + 1].n.slot else -1
  | [], _, _, _, _, i, h => absurd h (Nat.not_lt_zero _)
  | [x], B, hk, hx, hB, i, h => by
    have : i = 0 := by simp at h; exact h
    subst this
    rw [dif_neg (by simp)]
    cases B with
    | nil => exact hk
    | cons y T =>
      have h1 : x.n.right = if y.n.level = x.n.level then y.n.slot else -1 := hk.1
      rw [if_neg (by rw [hx x (by simp)]; exact hB y (by simp))] at h1
      exact h1
  | x :: y :: X, B, hk, hx, hB, i, h => by
    have ih := lk_run (y :: X) B hk.2 (fun z hz => hx z (List.mem_cons_of_mem _ hz)) hB
    cases i with
    | zero =>
      have h1 : x.n.right = if y.n.level = x.n.level then y.n.slot else -1 := hk.1
      rw [if_pos (by rw [hx x (by simp), hx y (by simp)])] at h1
      rw [dif_pos (by simp)]
      exact h1
    | succ i =>
      have := ih i (by simpa using h)
      rw [List.getElem_cons_succ, this]
      by_cases h3 : i + 1 < (y :: X).length
      · rw [dif_pos h3, dif_pos (by simp at h3 ⊢; omega)]; rfl
      · rw [dif_neg h3, dif_neg (by simp at h3 ⊢; omega)]
section
variable {c : Cfg} {l : List Nd} {ss : List Seat}
theorem lvK_dec (t : Tree c l ss) : ∀ k : Nat, ∃ A R, ss = A ++ R ∧ R = lvK l k ++ R.flatMap (kidsD l) ∧ (∀ y ∈ A, (rootS l 0).n.level - k < y.n.level) ∧ (∀ y ∈ R, y.n.level ≤ (rootS l 0).n.level - k) ∧ ∀ y ∈ lvK l k, y.n.level = (rootS l 0).n.level - k
  | 0 => ⟨[], ss, rfl, t.fix, fun y hy => by simp at hy, fun y hy => by have := (t.ms_small y hy).2; omega, fun y hy => by
      have : y = rootS l 0 := by simpa [lvK] using hy
      rw [this]; omega⟩
  | k + 1 => by
    obtain ⟨A, R, h1, h2, h3, h4, h5⟩ := lvK_dec t k
    have hR : ∀ y ∈ R, y ∈ ss := fun y hy => by rw [h1]; exact List.mem_append_right _ hy
    have hX : ∀ y ∈ lvK l k, y ∈ R := fun y hy => by rw [h2]; exact List.mem_append_left _ hy
    have hk : ∀ x ∈ R, ∀ y ∈ kidsD l x, y.n.level = x.n.level - 1 := fun x hx y hy => (kid_found (t.kids (hR x hx)) hy).2.1
    refine ⟨A ++ lvK l k, R.flatMap (kidsD l), by rw [List.append_assoc, ← h2]; exact h1, ?_, ?_, ?_, ?_⟩
    · conv => lhs; rw [h2]
      rw [List.flatMap_append]; rfl
    · intro y hy
      rcases List.mem_append.1 hy with hy | hy
      · have := h3 y hy; omega
      · have := h5 y hy; omega
    · intro y hy
      obtain ⟨x, hx, hxy⟩ := List.mem_flatMap.1 hy
      have := hk x hx y hxy
      have := h4 x hx; omega
    · intro y hy
      obtain ⟨x, hx, hxy⟩ := List.mem_flatMap.1 hy
      have := hk x (hX x hx) y hxy
      have := h5 x hx; omega
theorem filter_all {α : Type} {p : α → Bool} : ∀ {L : List α}, (∀ x ∈ L, p x = true) → L.filter p = L := fun h => List.filter_eq_self.2 h
theorem filter_none {α : Type} {p : α → Bool} : ∀ {L : List α}, (∀ x ∈ L, p x = false) → L.filter p = [] := fun h => List.filter_eq_nil_iff.2 fun x hx => by simp [h x hx]
theorem lvlS_k (t : Tree c l ss) (k : Nat) : lvlS ss ((rootS l 0).n.level - k) = lvK l k := by
  obtain ⟨A, R, h1, h2, h3, h4, h5⟩ := lvK_dec t k
  have hR : ∀ y ∈ R, y ∈ ss := fun y hy => by rw [h1]; exact List.mem_append_right _ hy
  unfold lvlS
  rw [h1, List.filter_append, filter_none (fun y hy => decide_eq_false (by have := h3 y hy; omega)), List.nil_append, h2, List.filter_append, filter_all (fun y hy => decide_eq_true (h5 y hy)), filter_none (fun y hy => ?_), List.append_nil]
  obtain ⟨x, hx, hxy⟩ := List.mem_flatMap.1 hy
  have := (kid_found (t.kids (hR x hx)) hxy).2.1
  have := h4 x hx
  exact decide_eq_false (by omega)
theorem lvl_out (t : Tree c l ss) {v : Int} (h : v < 0 ∨ (rootS l 0).n.level < v) : lvlS ss v = [] := filter_none fun y hy => decide_eq_false (by
  have := (t.ms_small y hy).2
  have := t.lvl hy
  omega)
theorem lvl_root (t : Tree c l ss) : lvlS ss (rootS l 0).n.level = [rootS l 0] := by
  have := lvlS_k t 0
  simpa [lvK] using this
theorem lvl_nat (t : Tree c l ss) {x : Seat} (hx : x ∈ ss) : ∃ k : Nat, x.n.level = (rootS l 0).n.level - k := ⟨((rootS l 0).n.level - x.n.level).toNat, by have := (t.ms_small x hx).2; omega⟩
theorem lvl_kid (t : Tree c l ss) {x : Seat} {C : List Seat} (h : lvlS ss x.n.level = x :: C) (h0 : ¬ x.n.level = 0) : ∃ C', lvlS ss (x.n.level - 1) = kidSt l x 0 :: C' := by
  have hx : x ∈ ss := (List.mem_filter.1 (show x ∈ lvlS ss x.n.level by rw [h]; simp)).1
  obtain ⟨k, hk⟩ := lvl_nat t hx
  have h1 := lvlS_k t k
  rw [← hk, h] at h1
  have h2 := lvlS_k t (k + 1)
  have hka := kids_all (t.kids hx) h0
  have hn : 0 < x.n.kids.length := by have := (rightN_spec hka.2.2.1).2; omega
  rw [show (rootS l 0).n.level - ((k + 1 : Nat) : Int) = x.n.level - 1 by omega, lvK, ← h1, List.flatMap_cons, hka.1] at h2
  obtain ⟨m, hm⟩ : ∃ m, x.n.kids.length = m + 1 := ⟨x.n.kids.length - 1, by omega⟩
  rw [hm] at h2
  have e : kidsF l x (m + 1) = kidSt l x 0 :: ((List.range m).map Nat.succ).map (kidSt l x) := by
    unfold kidsF
    rw [List.range_succ_eq_map, List.map_cons]
  rw [e, List.cons_append] at h2
  exact ⟨_, h2⟩
theorem lvl_link (t : Tree c l ss) (v : Int) : ∀ i (h : i < (lvlS ss v).length), (lvlS ss v)[i].n.right = if h2 : i + 1 < (lvlS ss v).length then (lvlS ss v)[i + 1].n.slot else -1 := by
  by_cases hv : v < 0 ∨ (rootS l 0).n.level < v
  · intro i h; rw [lvl_out t hv] at h; exact absurd h (Nat.not_lt_zero _)
  · obtain ⟨k, hk⟩ : ∃ k : Nat, v = (rootS l 0).n.level - k := ⟨((rootS l 0).n.level - v).toNat, by omega⟩
    have hX : lvlS ss v = lvK l k := by rw [hk]; exact lvlS_k t k
    obtain ⟨A, R, h1, h2, h3, h4, h5⟩ := lvK_dec t k
    have hR : ∀ y ∈ R, y ∈ ss := fun y hy => by rw [h1]; exact List.mem_append_right _ hy
    have hlk : LkK (ss.map Seat.key) := (linked_iff ss).1 t.q.1.2.1
    rw [h1, List.map_append] at hlk
    have hlk2 := lk_drop _ hlk
    rw [h2] at hlk2
    have := lk_run (v := v) (lvK l k) _ hlk2 (fun x hx => by rw [hk]; exact h5 x hx) (fun y hy => by
      obtain ⟨x, hx, hxy⟩ := List.mem_flatMap.1 hy
      have := (kid_found (t.kids (hR x hx)) hxy).2.1
      have := h4 x hx
      omega)
    rw [hX]; exact this
theorem lvlS_mem (t : Tree c l ss) {v : Int} {i : Nat} (h : i < (lvlS ss v).length) : (lvlS ss v)[i] ∈ ss ∧ (lvlS ss v)[i].n.level = v := by
  have := List.mem_filter.1 (List.getElem_mem h)
  exact ⟨this.1, of_decide_eq_true this.2⟩
theorem Tree.ss_len (t : Tree c l ss) : ss.length = l.length := t.q.1.1.1.symm
theorem lvlS_len (t : Tree c l ss) (v : Int) : (lvlS ss v).length ≤ l.length := by
  have := List.length_filter_le (fun x : Seat => decide (x.n.level = v)) ss
  rw [t.ss_len] at this; exact this
def nxtN (l : List Nd) (s : Int) : Nd × Bool := ((getM (bySl l) s).getD Nd.zero, (getM (bySl l) s).isSome)
theorem nxt_t (t : Tree c l ss) {v : Int} {i : Nat} (h : i + 1 < (lvlS ss v).length) : nxtN l ((lvlS ss v)[i]'(by omega)).n.right = ((lvlS ss v)[i + 1].n, true) := by
  have h1 := lvl_link t v i (by omega)
  rw [dif_pos h] at h1
  have h2 := t.inMap (lvlS_mem t h).1
  unfold nxtN
  rw [h1, h2]; rfl
theorem nxt_f (t : Tree c l ss) {v : Int} {i : Nat} (hi : i < (lvlS ss v).length) (h : ¬ i + 1 < (lvlS ss v).length) : nxtN l (lvlS ss v)[i].n.right = (Nd.zero, false) := by
  have h1 := lvl_link t v i hi
  rw [dif_neg h] at h1
  have h2 := bySl_at t.slot (-1)
  rw [if_neg (by omega)] at h2
  unfold nxtN
  rw [h1, h2]; rfl
theorem lvlS_succ {v : Int} {i : Nat} (h : i < ss.length) : lvlS (ss.take (i + 1)) v = if ss[i].n.level = v then lvlS (ss.take i) v ++ [ss[i]] else lvlS (ss.take i) v := by
  unfold lvlS
  rw [List.take_succ_eq_append_getElem h, List.filter_append]
  by_cases e : ss[i].n.level = v
  · rw [if_pos e]; simp [e]
  · rw [if_neg e]; simp [e]
theorem rows_lvl (t : Tree c l ss) : rowsS ss = rowsS (lvlS ss 0) := by
  have key : ∀ L : List Seat, (∀ x ∈ L, x ∈ ss) → rowsS L = rowsS (lvlS L 0) := by
    intro L
    induction L with
    | nil => intro _; rfl
    | cons x L ih =>
      intro hL
      have ih := ih fun y hy => hL y (List.mem_cons_of_mem _ hy)
      unfold rowsS lvlS at ih ⊢
      rw [List.flatMap_cons, List.filter_cons, ih]
      by_cases h0 : x.n.level = 0
      · rw [if_pos (decide_eq_true h0), List.flatMap_cons]
      · rw [if_neg (by simpa using h0), t.norows (hL x (by simp)) h0]; rfl
  exact key ss fun x hx => hx
def fillP (c : Cfg) (n : Nd) : Prop := n.slot = 0 ∨ n.level = 0 ∨ c.fan.tdiv 2 ≤ (n.kids.length : Int)
instance (c : Cfg) (n : Nd) : Decidable (fillP c n) := by unfold fillP; infer_instance
theorem fill_iff (t : Tree c l ss) : (∀ x ∈ ss, fillP c x.n) ↔ ∀ n ∈ l, fillP c n := by
  constructor
  · intro h n hn
    obtain ⟨i, hi, rfl⟩ := List.getElem_of_mem hn
    have h1 := t.q.1.1.2 i hi
    have : 0 < (slotS ss l[i].slot).length := by omega
    obtain ⟨x, hx⟩ := List.exists_mem_of_length_pos this
    obtain ⟨h2, h3⟩ := List.mem_filter.1 hx
    obtain ⟨h4, h5, _⟩ := t.nd h2
    have h6 := (t.slot i hi).1
    have e : x.n = l[i] := by
      rw [h5, show x.n.slot = ((i : Nat) : Int) by rw [of_decide_eq_true h3]; exact h6, getL_at hi]
    rw [← e]; exact h x h2
  · intro h x hx
    exact h _ (t.nd hx).2.2
end
structure YS (P : Program) (l : Nat) where
  J : GH → List Nd → MH → Prop
  mono : ∀ {G G' : GH} {s : List Nd} {M : MH}, Le G G' → J G s M → J G' s M
  call : ∀ {G : GH} {s : List Nd} {M : MH} {cs : List Value} {x : Nd}, J G s M → NodeC G cs x → s.length < 4096 → NdS x → Yn P l [.agg (List.toArray cs)] G M (fun v G' M' => v = .bool true ∧ J G' (s ++ [x]) M')
def JR {P : Program} {l : Nat} (Y : YS P l) (G : GH) (s : List Nd) (M : MH) : Prop := Y.J G s M
theorem JR.mono {P : Program} {l : Nat} {Y : YS P l} {G G' : GH} {s : List Nd} {M : MH} (hl : Le G G') (h : JR Y G s M) : JR Y G' s M := Y.mono hl h
theorem pmE (r : Nat × Obj) (X : MH) : (r :: X).Perm (X ++ ([r] ++ [])) := by simpa using (List.perm_append_singleton r X).symm
def AccJ {α : Type} (e : Enc α) (tp TO : Nat) (h : List Nd → List α) (r : Nat × Obj) (b : Nat) (G : GH) (s : List Nd) (M : MH) : Prop :=
  (∀ y ∈ s, NdS y) ∧ ∃ v Mo, M = r :: ((b, Obj.cells (List.toArray [v]) TO (0, 0)) :: Mo) ∧ OwnR e tp G v (h s) Mo
theorem AccJ.mono {α : Type} {e : Enc α} {tp TO : Nat} {h : List Nd → List α} {r : Nat × Obj} {b : Nat} {G G' : GH} {s : List Nd} {M : MH} (hl : Le G G') (hJ : AccJ e tp TO h r b G s M) : AccJ e tp TO h r b G' s M := by
  obtain ⟨h0, v, Mo, h1, h2⟩ := hJ
  exact ⟨h0, v, Mo, h1, h2.mono hl⟩
theorem AccJ.next {P : Program} {α : Type} {e : Enc α} {tp TO : Nat} {h : List Nd → List α} {r : Nat × Obj} {l b : Nat} {G : GH} {s : List Nd} {x : Nd} {M : MH} {vx : Value} (h0 : ∀ y ∈ s, NdS y) (hx : NdS x)
    (hy : Yn P l [vx] G (r :: M) (fun v G' M' => v = .bool true ∧ ∃ R, M' = r :: R ∧ ∃ v Mo, R = (b, Obj.cells (List.toArray [v]) TO (0, 0)) :: Mo ∧ OwnR e tp G' v (h (s ++ [x])) Mo)) : Yn P l [vx] G (r :: M) (fun v G' M' => v = .bool true ∧ AccJ e tp TO h r b G' (s ++ [x]) M') :=
  hy.mono fun v G' M' _ ⟨h1, R, h2, v', Mo, h3, h4⟩ => ⟨h1, fun y hy => by
    rcases List.mem_append.1 hy with hy | hy
    · exact h0 y hy
    · rw [List.mem_singleton] at hy; rw [hy]; exact hx, v', Mo, by rw [h2, h3], h4⟩
theorem flat_rows : ∀ {s : List Nd}, (∀ y ∈ s, NdS y) → (s.flatMap fun n => n.rows).length ≤ 4000 * s.length
  | [], _ => by simp
  | y :: s, h => by
    have ih := flat_rows (s := s) fun z hz => h z (List.mem_cons_of_mem _ hz)
    have h1 := (h y (by simp)).2.2.2.1
    rw [List.flatMap_cons, List.length_append, List.length_cons]; omega
section
variable {c : Cfg} {l : List Nd} {ss : List Seat}
theorem chn_ok (t : Tree c l ss) {v : Int} {i : Nat} (h : i < (lvlS ss v).length) : (getM (bySl l) (lvlS ss v)[i].n.right).isSome = decide (i + 1 < (lvlS ss v).length) := by
  by_cases h2 : i + 1 < (lvlS ss v).length
  · have := nxt_t t h2
    rw [decide_eq_true h2]; exact congrArg Prod.snd this
  · have := nxt_f t h h2
    rw [decide_eq_false h2]; exact congrArg Prod.snd this
theorem chn_nd (t : Tree c l ss) {v : Int} {i : Nat} (h2 : i + 1 < (lvlS ss v).length) : (getM (bySl l) ((lvlS ss v)[i]'(by omega)).n.right).getD Nd.zero = (lvlS ss v)[i + 1].n := congrArg Prod.fst (nxt_t t h2)
def chnN (ss : List Seat) (v : Int) (i : Nat) : List Nd := ((lvlS ss v).take i).map fun x : Seat => x.n
theorem chn_take {v : Int} {i : Nat} (h : i < (lvlS ss v).length) : chnN ss v (i + 1) = chnN ss v i ++ [(lvlS ss v)[i].n] := by
  unfold chnN
  rw [List.take_succ_eq_append_getElem h, List.map_append]; rfl
theorem chnN_len (ss : List Seat) (v : Int) (i : Nat) : (chnN ss v i).length ≤ i := by
  unfold chnN; rw [List.length_map, List.length_take]; omega
theorem chnN_all {v : Int} {i : Nat} (h : (lvlS ss v).length ≤ i) : chnN ss v i = (lvlS ss v).map fun x : Seat => x.n := by
  unfold chnN; rw [List.take_of_length_le h]
theorem rows_chn (t : Tree c l ss) : (List.flatMap (fun n : Nd => n.rows) ((lvlS ss 0).map fun x : Seat => x.n)) = rowsS ss := by
  rw [rows_lvl t]
  unfold rowsS
  rw [List.flatMap_map]
def unfB (c : Cfg) (n : Nd) : Bool := decide (¬ n.slot = 0) && (decide (0 < n.level) && decide ((n.kids.length : Int) < c.fan.tdiv 2))
def FillA (c : Cfg) (T : List Seat) : Prop := ∀ x ∈ T, fillP c x.n
instance (c : Cfg) (T : List Seat) : Decidable (FillA c T) := by unfold FillA; infer_instance
theorem fillA_succ {i : Nat} (h : i < ss.length) : decide (FillA c (ss.take (i + 1))) = (decide (FillA c (ss.take i)) && decide (fillP c ss[i].n)) := by
  rw [Bool.eq_iff_iff, Bool.and_eq_true, decide_eq_true_eq, decide_eq_true_eq, decide_eq_true_eq]
  unfold FillA
  rw [List.take_succ_eq_append_getElem h]
  constructor
  · exact fun h2 => ⟨fun x hx => h2 x (List.mem_append_left _ hx), h2 _ (List.mem_append_right _ (List.mem_singleton.2 rfl))⟩
  · rintro ⟨h1, h2⟩ x hx
    rcases List.mem_append.1 hx with hx | hx
    · exact h1 x hx
    · rw [List.mem_singleton] at hx; rw [hx]; exact h2
theorem fillA_eq (t : Tree c l ss) : (!decide ((0 : Int) ≤ idxN (unfB c) l)) = decide (FillA c ss) := by
  rw [Bool.eq_iff_iff, idx_all, decide_eq_true_eq]
  unfold FillA
  rw [fill_iff t]
  have hl : ∀ n ∈ l, 0 ≤ n.level := fun n hn => by
    obtain ⟨i, hi, rfl⟩ := List.getElem_of_mem hn
    have h1 := t.q.1.1.2 i hi
    have : 0 < (slotS ss l[i].slot).length := by omega
    obtain ⟨x, hx⟩ := List.exists_mem_of_length_pos this
    obtain ⟨h2, h3⟩ := List.mem_filter.1 hx
    obtain ⟨h4, h5, _⟩ := t.nd h2
    have e : x.n = l[i] := by
      rw [h5, show x.n.slot = ((i : Nat) : Int) by rw [of_decide_eq_true h3]; exact (t.slot i hi).1, getL_at hi]
    rw [← e]; exact t.lvl h2
  constructor
  · intro h n hn
    have h1 := h n hn
    have h2 := hl n hn
    unfold unfB at h1
    unfold fillP
    by_cases a : n.slot = 0
    · exact .inl a
    · by_cases b : n.level = 0
      · exact .inr (.inl b)
      · refine .inr (.inr ?_)
        rw [decide_eq_true a, decide_eq_true (by omega : 0 < n.level), Bool.true_and, Bool.true_and] at h1
        have := of_decide_eq_false h1
        omega
  · intro h n hn
    unfold unfB
    rcases h n hn with a | b | d
    · rw [decide_eq_false (fun h => h a)]; rfl
    · rw [decide_eq_false (p := 0 < n.level) (by omega), Bool.false_and, Bool.and_false]
    · rw [decide_eq_false (p := (n.kids.length : Int) < c.fan.tdiv 2) (by omega), Bool.and_false, Bool.and_false]
theorem wm_quiet : ∀ l : List Nd, decide (((wmN l : Nat) : Int) = 0) = quietB l
  | [] => rfl
  | n :: l => by
    have ih := wm_quiet l
    have e : wmN (n :: l) = n.msgs.length + wmN l := by unfold wmN; rw [List.map_cons, List.sum_cons]
    have e2 : quietB (n :: l) = (!isM n && quietB l) := by unfold quietB; rw [List.all_cons]
    rw [e, e2, ← ih]
    unfold isM
    by_cases h : n.msgs.length = 0
    · rw [h]; simp
    · rw [decide_eq_true (p := (0 : Int) < (n.msgs.length : Int)) (by omega), decide_eq_false (by omega)]; rfl
theorem lvlS_tl (ss : List Seat) (v : Int) (i : Nat) : (lvlS (ss.take i) v).length ≤ i := by
  unfold lvlS
  exact Nat.le_trans (List.length_filter_le _ _) (by rw [List.length_take]; omega)
theorem fst_ok (t : Tree c l ss) {v : Int} {x : Seat} {C : List Seat} (h : lvlS ss x.n.level = x :: C) (h1 : v ≤ x.n.level ∨ x = rootS l 0) (h2 : x.n.level ≤ max v 0) : decide (x.n.level = v) = decide (0 < (lvlS ss v).length) ∧ ∀ hp : 0 < (lvlS ss v).length, x.n = (lvlS ss v)[0].n := by
  have hx : x ∈ ss := (List.mem_filter.1 (show x ∈ lvlS ss x.n.level by rw [h]; simp)).1
  have h0 := t.lvl hx
  by_cases e : x.n.level = v
  · subst e
    refine ⟨?_, fun hp => ?_⟩
    · rw [h]; simp
    · have : (lvlS ss x.n.level)[0] = x := by
        have : (lvlS ss x.n.level)[0]? = some x := by rw [h]; rfl
        rw [List.getElem?_eq_getElem hp] at this
        exact Option.some.inj this
      rw [this]
  · have hn : lvlS ss v = [] := lvl_out t (by
      rcases h1 with h1 | rfl
      · left; omega
      · omega)
    refine ⟨?_, fun hp => ?_⟩
    · rw [hn, decide_eq_false e]; rfl
    · rw [hn] at hp; exact absurd hp (Nat.lt_irrefl 0)
end
end Go.Fw
