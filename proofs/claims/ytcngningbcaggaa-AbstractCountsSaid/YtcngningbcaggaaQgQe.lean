/- Searches in lists that need not be sorted, and what rows and messages come to then. Plain Lean; nothing of the program is named here. No condition. -/
import Derived.Test.YtcngningbcaggaaQgQc
set_option linter.unusedVariables false
set_option linter.unusedSimpArgs false
set_option linter.unnecessarySimpa false
namespace Go.Fw
open Go Go.RowKit
/-! ## Halving -/
def bsP (q : Nat → Bool) : Nat → Nat → Nat → Nat
  | 0, i, _ => i
  | f + 1, i, j => if i < j then (if q ((i + j) / 2) = true then bsP q f ((i + j) / 2 + 1) j else bsP q f i ((i + j) / 2)) else i
theorem bsP_fuel {q : Nat → Bool} : ∀ (f g i j : Nat), j - i ≤ f → j - i ≤ g → bsP q f i j = bsP q g i j
  | 0, 0, _, _, _, _ => rfl
  | 0, g + 1, i, j, h, _ => by rw [bsP, bsP, if_neg (by omega)]
  | f + 1, 0, i, j, _, h => by rw [bsP, bsP, if_neg (by omega)]
  | f + 1, g + 1, i, j, h1, h2 => by
    rw [bsP, bsP]
    by_cases h : i < j
    · rw [if_pos h, if_pos h, bsP_fuel f g _ j (by omega) (by omega), bsP_fuel f g i _ (by omega) (by omega)]
    · rw [if_neg h, if_neg h]
def bsQ (q : Nat → Bool) (i j : Nat) : Nat := bsP q (j - i) i j
theorem bsQ_t {q : Nat → Bool} {i j : Nat} (h : i < j) (hq : q ((i + j) / 2) = true) : bsQ q ((i + j) / 2 + 1) j = bsQ q i j := by
  unfold bsQ
  obtain ⟨f, e⟩ : ∃ f, j - i = f + 1 := ⟨j - i - 1, by omega⟩
  rw [e, bsP, if_pos h, if_pos hq]
  exact bsP_fuel _ _ _ _ (by omega) (by omega)
theorem bsQ_f {q : Nat → Bool} {i j : Nat} (h : i < j) (hq : q ((i + j) / 2) = false) : bsQ q i ((i + j) / 2) = bsQ q i j := by
  unfold bsQ
  obtain ⟨f, e⟩ : ∃ f, j - i = f + 1 := ⟨j - i - 1, by omega⟩
  rw [e, bsP, if_pos h, if_neg (by simp [hq])]
  exact bsP_fuel _ _ _ _ (by omega) (by omega)
theorem bsQ_e {q : Nat → Bool} {i j : Nat} (h : ¬ i < j) : bsQ q i j = i := by
  unfold bsQ
  rw [show j - i = 0 by omega]; rfl
theorem bsP_le {q : Nat → Bool} : ∀ (f i j : Nat), i ≤ j → bsP q f i j ≤ j
  | 0, _, _, h => h
  | f + 1, i, j, h => by
    rw [bsP]
    by_cases h1 : i < j
    · rw [if_pos h1]
      split
      · exact bsP_le f _ j (by omega)
      · have := bsP_le (q := q) f i ((i + j) / 2) (by omega); omega
    · rw [if_neg h1]; exact h
theorem bsQ_le {q : Nat → Bool} {i j : Nat} (h : i ≤ j) : bsQ q i j ≤ j := bsP_le _ _ _ h
/-! ## Texts and rows that need not be sorted -/
def bsS (l : List Str) (k : Str) (h : Nat) : Bool := (l.getD h Str.nil).lt k
def fbS (l : List Str) (k : Str) : Nat := bsQ (bsS l k) 0 l.length
def hbS (l : List Str) (k : Str) : Bool := decide (l[fbS l k]? = some k)
def rbS (l : List Str) (k : Str) : Nat := if hbS l k = true then fbS l k + 1 else fbS l k
theorem fbS_le (l : List Str) (k : Str) : fbS l k ≤ l.length := bsQ_le (Nat.zero_le _)
theorem hbS_lt {l : List Str} {k : Str} (h : hbS l k = true) : fbS l k < l.length := (List.getElem?_eq_some_iff.1 (of_decide_eq_true h)).1
theorem rbS_le (l : List Str) (k : Str) : rbS l k ≤ l.length := by
  unfold rbS
  split
  · have := hbS_lt (by assumption); omega
  · exact fbS_le l k
theorem bsS_at {l : List Str} {k : Str} {h : Nat} (hh : h < l.length) : bsS l k h = l[h].lt k := by
  unfold bsS
  rw [List.getD_eq_getElem?_getD, List.getElem?_eq_getElem hh]; rfl
def bsR (l : List Pair) (k : Str) (h : Nat) : Bool := (l.getD h ⟨Str.nil, Str.nil⟩).key.lt k
def fbP (l : List Pair) (k : Str) : Nat := bsQ (bsR l k) 0 l.length
def hbP (l : List Pair) (k : Str) : Bool := decide ((l[fbP l k]?).map (·.key) = some k)
def gbP (l : List Pair) (k : Str) : Option Str := if hbP l k = true then (l[fbP l k]?).map (·.val) else none
theorem fbP_le (l : List Pair) (k : Str) : fbP l k ≤ l.length := bsQ_le (Nat.zero_le _)
theorem hbP_at {l : List Pair} {k : Str} (h : hbP l k = true) : ∃ h2 : fbP l k < l.length, l[fbP l k].key = k := by
  have h1 := of_decide_eq_true h
  cases e : l[fbP l k]? with
  | none => rw [e] at h1; cases h1
  | some p =>
    obtain ⟨h2, e2⟩ := List.getElem?_eq_some_iff.1 e
    rw [e] at h1
    exact ⟨h2, by rw [e2]; exact Option.some.inj h1⟩
theorem bsR_at {l : List Pair} {k : Str} {h : Nat} (hh : h < l.length) : bsR l k h = l[h].key.lt k := by
  unfold bsR
  rw [List.getD_eq_getElem?_getD, List.getElem?_eq_getElem hh]; rfl
theorem gbP_t {l : List Pair} {k : Str} (h : hbP l k = true) (h2 : fbP l k < l.length) : gbP l k = some l[fbP l k].val := by
  unfold gbP
  rw [if_pos h, List.getElem?_eq_getElem h2]; rfl
theorem gbP_f {l : List Pair} {k : Str} (h : hbP l k = false) : gbP l k = none := if_neg (by simp [h])
theorem hbP_i {l : List Pair} {k : Str} {i : Nat} (e : fbP l k = i) : hbP l k = (decide (i < l.length) && decide ((l[i]?).map (·.key) = some k)) := by
  unfold hbP
  rw [e]
  by_cases h : i < l.length
  · rw [decide_eq_true h, Bool.true_and]
  · rw [decide_eq_false h, Bool.false_and, List.getElem?_eq_none (by omega)]; rfl
def withB (l : List Pair) (k : Str) (e : Eff) : List Pair :=
  match e.apply (gbP l k) with
  | some v => if hbP l k = true then l.set (fbP l k) ⟨k, v⟩ else (l.take (fbP l k) ++ [⟨k, v⟩]) ++ l.drop (fbP l k)
  | none => if hbP l k = true then l.take (fbP l k) ++ l.drop (fbP l k + 1) else l
theorem withB_set {l : List Pair} {k : Str} {e : Eff} {v : Str} (h : hbP l k = true) (h2 : fbP l k < l.length) (hk : l[fbP l k].key = k) (hv : e.apply (gbP l k) = some v) : l.set (fbP l k) ⟨l[fbP l k].key, v⟩ = withB l k e := by
  unfold withB; rw [hv]; dsimp only; rw [if_pos h, hk]
theorem withB_ins {l : List Pair} {k : Str} {e : Eff} {v : Str} (h : hbP l k = false) (hv : e.apply (gbP l k) = some v) : l.take (fbP l k) ++ [⟨k, v⟩] ++ l.drop (fbP l k) = withB l k e := by
  unfold withB; rw [hv]; dsimp only; rw [if_neg (by simp [h])]
theorem withB_del {l : List Pair} {k : Str} {e : Eff} (h : hbP l k = true) (hv : e.apply (gbP l k) = none) : l.take (fbP l k) ++ l.drop (fbP l k + 1) = withB l k e := by
  unfold withB; rw [hv]; dsimp only; rw [if_pos h]
theorem withB_not {l : List Pair} {k : Str} {e : Eff} (h : hbP l k = false) (hv : e.apply (gbP l k) = none) : l = withB l k e := by
  unfold withB; rw [hv]; dsimp only; rw [if_neg (by simp [h])]
def RB (l : List Pair) : Prop := ∀ p ∈ l, p.key.b.size ≤ 4000 ∧ p.val.b.size ≤ 4000
theorem RB.get {l : List Pair} (h : RB l) (k : Str) : ((gbP l k).getD Str.nil).b.size ≤ 4000 := by
  cases e : hbP l k
  · rw [gbP_f e]; show Str.nil.b.size ≤ 4000; decide
  · obtain ⟨h2, _⟩ := hbP_at e
    rw [gbP_t e h2]; exact (h _ (List.getElem_mem h2)).2
theorem apply_szB {e : Eff} {o : Option Str} {v : Str} (he : e.val.b.size ≤ 4000) (ho : (o.getD Str.nil).b.size ≤ 4000) (h : e.apply o = some v) : v.b.size ≤ 4000 := by
  unfold Eff.apply at h
  split at h
  · cases h; exact he
  · split at h
    · cases h
    · split at h
      · cases h; have := Str.add_size (o.getD Str.nil) e.val; omega
      · rw [h] at ho; exact ho
theorem RB.with {l : List Pair} {k : Str} {e : Eff} (h : RB l) (hk : k.b.size ≤ 4000) (he : e.val.b.size ≤ 4000) : RB (withB l k e) := by
  unfold withB
  cases hv : e.apply (gbP l k) with
  | none =>
    dsimp only
    split
    · intro p hp
      rcases List.mem_append.1 hp with hp | hp
      · exact h p (List.mem_of_mem_take hp)
      · exact h p (List.mem_of_mem_drop hp)
    · exact h
  | some v =>
    have hvs := apply_szB he (h.get k) hv
    dsimp only
    split
    · intro p hp
      rcases List.mem_or_eq_of_mem_set hp with hp | rfl
      · exact h p hp
      · exact ⟨hk, hvs⟩
    · intro p hp
      rcases List.mem_append.1 hp with hp | hp
      · rcases List.mem_append.1 hp with hp | hp
        · exact h p (List.mem_of_mem_take hp)
        · rw [List.mem_singleton] at hp; rw [hp]; exact ⟨hk, hvs⟩
      · exact h p (List.mem_of_mem_drop hp)
theorem withB_len (l : List Pair) (k : Str) (e : Eff) : (withB l k e).length ≤ l.length + 1 := by
  have h0 := fbP_le l k
  unfold withB
  split
  · split
    · rw [List.length_set]; omega
    · simp; omega
  · split
    · simp; omega
    · omega
def takeB (l : List Pair) (m : Msg) : List Pair := if m.kind = 4 then l.filter (fun p => !m.span.has p.key) else withB l m.key (m.on m.key)
def foldB (l : List Pair) (ms : List Msg) : List Pair := ms.foldl takeB l
def MB (ms : List Msg) : Prop := ∀ m ∈ ms, m.key.b.size ≤ 4000 ∧ m.hi.b.size ≤ 4000 ∧ m.val.b.size ≤ 4000
theorem on_valB {m : Msg} (k : Str) (h : m.val.b.size ≤ 4000) : (m.on k).val.b.size ≤ 4000 := by
  unfold Msg.on
  split
  · show (ByteArray.mk #[]).size ≤ 4000; decide
  · split
    · show (ByteArray.mk #[]).size ≤ 4000; decide
    · exact h
theorem then_valB {a b : Eff} (ha : a.val.b.size ≤ 4000) (hb : b.val.b.size ≤ 4000) : (a.then b).val.b.size ≤ 4000 := by
  unfold Eff.then
  split
  · exact ha
  · split
    · exact hb
    · exact Nat.le_trans (Str.add_size _ _) (by decide)
theorem onsN_valB {l : List Msg} (k : Str) (h : MB l) : (onsN l k).val.b.size ≤ 4000 := by
  suffices ∀ (l : List Msg) (e : Eff), e.val.b.size ≤ 4000 → MB l → (l.foldl (fun e m => e.then (m.on k)) e).val.b.size ≤ 4000 from
    this l _ (by show (ByteArray.mk #[]).size ≤ 4000; decide) h
  intro l
  induction l with
  | nil => exact fun e he _ => he
  | cons m l ih => exact fun e he h => ih _ (then_valB he (on_valB k (h m (by simp)).2.2)) (fun m h2 => h m (by simp [h2]))
theorem MB.take {l : List Msg} (h : MB l) (i : Nat) : MB (l.take i) := fun m hm => h m (List.mem_of_mem_take hm)
theorem RB.take1 {l : List Pair} {m : Msg} (h : RB l) (hm : m.key.b.size ≤ 4000 ∧ m.hi.b.size ≤ 4000 ∧ m.val.b.size ≤ 4000) : RB (takeB l m) := by
  unfold takeB
  split
  · exact fun p hp => h p (List.mem_filter.1 hp).1
  · exact h.with hm.1 (on_valB _ hm.2.2)
theorem takeB_len (l : List Pair) (m : Msg) : (takeB l m).length ≤ l.length + 1 := by
  unfold takeB
  split
  · exact Nat.le_trans (List.length_filter_le _ _) (by omega)
  · exact withB_len _ _ _
theorem RB.fold {ms : List Msg} : ∀ {l : List Pair}, RB l → MB ms → RB (foldB l ms) := by
  induction ms with
  | nil => exact fun h _ => h
  | cons m ms ih => exact fun h hm => ih (h.take1 (hm m (by simp))) (fun m h => hm m (by simp [h]))
theorem foldB_len {ms : List Msg} : ∀ {l : List Pair}, (foldB l ms).length ≤ l.length + ms.length := by
  induction ms with
  | nil => intro l; simp [foldB]
  | cons m ms ih =>
    intro l
    have h1 := @ih (takeB l m)
    have h2 := takeB_len l m
    simp only [foldB, List.foldl_cons, List.length_cons] at h1 ⊢; omega
theorem foldB_succ {l : List Pair} {ms : List Msg} {k : Nat} (h : k < ms.length) : foldB l (ms.take (k + 1)) = takeB (foldB l (ms.take k)) ms[k] := by
  unfold foldB; rw [List.take_succ_eq_append_getElem h, List.foldl_append]; rfl
theorem RB.filter {l : List Pair} (h : RB l) (p : Pair → Bool) : RB (l.filter p) := fun a ha => h a (List.mem_filter.1 ha).1
def viewB (x : Seat) : List Pair := foldB (x.n.rows.filter fun p => x.s.has p.key) (clips x.s x.ms)
/-! ## Going through any nodes -/
theorem bySl_in {l : List Nd} {s : Int} (h : (getM (bySl l) s).isSome = true) : (getM (bySl l) s).getD Nd.zero ∈ l ∧ s ∈ l.map fun n : Nd => n.slot := by
  have h1 := bySl_get l s l.length (Nat.le_refl _)
  rw [List.take_length] at h1
  rw [h1] at h ⊢
  cases e : (atS l s).getLast? with
  | none => rw [e] at h; cases h
  | some n =>
    have hm := List.mem_filter.1 (List.mem_of_getLast? e)
    exact ⟨hm.1, List.mem_map.2 ⟨n, hm.1, of_decide_eq_true hm.2⟩⟩
theorem bySl_or {l : List Nd} {s : Int} : (getM (bySl l) s).getD Nd.zero = Nd.zero ∨ (getM (bySl l) s).getD Nd.zero ∈ l := by
  cases h : (getM (bySl l) s).isSome
  · left
    cases e : getM (bySl l) s with
    | none => rfl
    | some _ => rw [e] at h; cases h
  · exact .inr (bySl_in h).1
noncomputable def kidB (n : Nd) (x : Seat) (j : Nat) : Seat := ⟨n, x.s.meet (rangeN x.n.pivots (j : Int)), mergeN [clips (x.s.meet (rangeN x.n.pivots (j : Int))) x.n.msgs, clips (x.s.meet (rangeN x.n.pivots (j : Int))) x.ms]⟩
theorem SeatS.kidB {l : List Nd} (h : Sml l) {p q : Nat} {x : Seat} (hx : SeatS l p x) (hq : p < q) {n : Nd} (hn : n = Nd.zero ∨ n ∈ l) (j : Nat) : SeatS l q (kidB n x j) := by
  have h0 := hx.kid h hq j
  exact ⟨hn, h0.ms, h0.sp, h0.key⟩
theorem SeatS.rootB (l : List Nd) (s : Int) : SeatS l 0 ⟨(getM (bySl l) s).getD Nd.zero, Span.all, []⟩ := ⟨bySl_or, Nat.le_refl _, ⟨by show Str.nil.b.size ≤ 4000; decide, by show Str.nil.b.size ≤ 4000; decide⟩, fun m hm => by cases hm⟩
theorem SeatS.down {l : List Nd} (h : Sml l) {p : Nat} {x : Seat} (hx : SeatS l p x) (s : Int) : SeatS l (p + 1) ⟨(getM (bySl l) s).getD Nd.zero, Span.all, mergeN [x.n.msgs, x.ms]⟩ := by
  refine ⟨bySl_or, ?_, ⟨by show Str.nil.b.size ≤ 4000; decide, by show Str.nil.b.size ≤ 4000; decide⟩, fun m hm => ?_⟩
  · have h1 := merge_len [x.n.msgs, x.ms]
    have h3 := (h.at hx.nd).2.2.1
    have h4 := hx.ms
    have h5 : totN [] = 0 := rfl
    rw [totN_cons, totN_cons, h5] at h1
    show (mergeN _).length ≤ _
    omega
  · obtain ⟨L, hL, hmL⟩ := merge_mem.1 hm
    simp only [List.mem_cons, List.not_mem_nil, or_false] at hL
    rcases hL with rfl | rfl
    · exact (h.at hx.nd).2.2.2.2.2.1 m hmL
    · exact hx.key m hmL
theorem viewB_len {l : List Nd} (h : Sml l) {p : Nat} {x : Seat} (hx : SeatS l p x) : (viewB x).length ≤ 4000 + 4000 * p := by
  have h1 := foldB_len (ms := clips x.s x.ms) (l := x.n.rows.filter fun p => x.s.has p.key)
  have h2 := List.length_filter_le (fun p : Pair => x.s.has p.key) x.n.rows
  have h3 : (clips x.s x.ms).length ≤ x.ms.length := clips_le
  have h4 := (h.at hx.nd).2.2.2.1
  have h5 := hx.ms
  unfold viewB; omega
/-! ## Counting -/
def wtN (l : List Nd) : Nat := (l.map fun n => n.msgs.length).sum
theorem wtN_succ {l : List Nd} {i : Nat} (h : i < l.length) : wtN (l.take (i + 1)) = wtN (l.take i) + l[i].msgs.length := by
  unfold wtN
  rw [List.take_succ_eq_append_getElem h, List.map_append, List.sum_append]; simp
theorem wtN_le {l : List Nd} (h : Sml l) : ∀ i, i ≤ l.length → wtN (l.take i) ≤ 4000 * i
  | 0, _ => by simp [wtN]
  | i + 1, hi => by
    have := wtN_le h i (by omega)
    have h2 := (h.at (.inr (List.getElem_mem (show i < l.length by omega)))).2.2.1
    rw [wtN_succ (by omega)]; omega
def lfN (l : List Nd) : Nat := (l.filter fun n => decide (n.level = 0)).length
theorem lfN_t {l : List Nd} {i : Nat} (h : i < l.length) (h0 : l[i].level = 0) : lfN (l.take (i + 1)) = lfN (l.take i) + 1 := by
  unfold lfN
  rw [List.take_succ_eq_append_getElem h, List.filter_append, List.length_append]; simp [h0]
theorem lfN_f {l : List Nd} {i : Nat} (h : i < l.length) (h0 : ¬ l[i].level = 0) : lfN (l.take (i + 1)) = lfN (l.take i) := by
  unfold lfN
  rw [List.take_succ_eq_append_getElem h, List.filter_append, List.length_append]; simp [h0]
theorem lfN_le {l : List Nd} {i : Nat} : lfN (l.take i) ≤ i := by
  unfold lfN
  exact Nat.le_trans (List.length_filter_le _ _) (by rw [List.length_take]; omega)
end Go.Fw
