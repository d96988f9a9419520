/- What two maps differ in: rising lists of texts, changes. Plain Lean; nothing of the program is named here. No condition. -/
import Derived.Test.YtebkfinhhpelbaaGreatQxMl
set_option linter.unusedVariables false
set_option linter.unusedSimpArgs false
set_option linter.unnecessarySimpa false
namespace Go.Fw
def Rise (l : List Str) : Prop := l.Pairwise fun a b => a.lt b = true
theorem Rise.ext : ∀ {a b : List Str}, Rise a → Rise b → (∀ k, k ∈ a ↔ k ∈ b) → a = b
  | [], [], _, _, _ => rfl
  | [], y :: b, _, _, h => by have := (h y).2 (by simp); cases this
  | x :: a, [], _, _, h => by have := (h x).1 (by simp); cases this
  | x :: a, y :: b, ha, hb, h => by
    obtain ⟨ha1, ha2⟩ := List.pairwise_cons.1 ha
    obtain ⟨hb1, hb2⟩ := List.pairwise_cons.1 hb
    have hxy : x = y := by
      rcases List.mem_cons.1 ((h x).1 (by simp)) with e | hx
      · exact e
      · rcases List.mem_cons.1 ((h y).2 (by simp)) with e | hy
        · exact e.symm
        · have := Str.lt_trans (hb1 x hx) (ha1 y hy); rw [Str.lt_irrefl] at this; cases this
    subst hxy
    refine congrArg (x :: ·) (Rise.ext ha2 hb2 fun k => ⟨fun hk => ?_, fun hk => ?_⟩)
    · rcases List.mem_cons.1 ((h k).1 (by simp [hk])) with e | hk2
      · subst e; have := ha1 k hk; rw [Str.lt_irrefl] at this; cases this
      · exact hk2
    · rcases List.mem_cons.1 ((h k).2 (by simp [hk])) with e | hk2
      · subst e; have := hb1 k hk; rw [Str.lt_irrefl] at this; cases this
      · exact hk2
def insU (k : Str) : List Str → List Str
  | [] => [k]
  | x :: xs => if k.lt x = true then k :: x :: xs else if x.lt k = true then x :: insU k xs else x :: xs
def sortU (l : List Str) : List Str := l.foldr insU []
theorem insU_mem {k x : Str} : ∀ {l : List Str}, x ∈ insU k l ↔ x = k ∨ x ∈ l
  | [] => by simp [insU]
  | y :: l => by
    unfold insU
    split
    · simp
    · split
      · rw [List.mem_cons, insU_mem, List.mem_cons]
        constructor
        · rintro (h | h | h)
          · exact .inr (.inl h)
          · exact .inl h
          · exact .inr (.inr h)
        · rintro (h | h | h)
          · exact .inr (.inl h)
          · exact .inl h
          · exact .inr (.inr h)
      · rename_i h1 h2
        have : k = y := Str.lt_total (by simpa using h1) (by simpa using h2)
        subst this
        simp
theorem insU_rise {k : Str} : ∀ {l : List Str}, Rise l → Rise (insU k l)
  | [], _ => by simp [insU, Rise]
  | y :: l, h => by
    obtain ⟨h1, h2⟩ := List.pairwise_cons.1 h
    unfold insU
    split
    · rename_i hk
      refine List.pairwise_cons.2 ⟨fun z hz => ?_, h⟩
      rcases List.mem_cons.1 hz with rfl | hz
      · exact hk
      · exact Str.lt_trans hk (h1 z hz)
    · split
      · rename_i hk
        refine List.pairwise_cons.2 ⟨fun z hz => ?_, insU_rise h2⟩
        rcases insU_mem.1 hz with rfl | hz
        · exact hk
        · exact h1 z hz
      · exact h
theorem sortU_mem {x : Str} : ∀ {l : List Str}, x ∈ sortU l ↔ x ∈ l
  | [] => by simp [sortU]
  | y :: l => by
    show x ∈ insU y (sortU l) ↔ _
    rw [insU_mem, sortU_mem, List.mem_cons]
theorem sortU_rise : ∀ (l : List Str), Rise (sortU l)
  | [] => by simp [sortU, Rise]
  | y :: l => insU_rise (sortU_rise l)
theorem insU_len (k : Str) : ∀ (l : List Str), (insU k l).length ≤ l.length + 1
  | [] => by simp [insU]
  | y :: l => by
    unfold insU
    split
    · simp
    · split
      · have := insU_len k l; simp; omega
      · simp
theorem sortU_len : ∀ (l : List Str), (sortU l).length ≤ l.length
  | [] => by simp [sortU]
  | y :: l => by
    have h1 := insU_len y (sortU l)
    have h2 := sortU_len l
    show (insU y (sortU l)).length ≤ _
    simp; omega
theorem Rise.lt {l : List Str} (h : Rise l) {i j : Nat} (hij : i < j) (hj : j < l.length) : (l[i]'(by omega)).lt l[j] = true := List.pairwise_iff_getElem.1 h i j (by omega) hj hij
theorem take_all {l : List Str} {n : Nat} (hn : n ≤ (sortU l).length) (h : ∀ x ∈ l, x ∈ (sortU l).take n) : (sortU l).take n = sortU l := by
  by_cases h2 : n < (sortU l).length
  · exfalso
    have h3 := h _ (sortU_mem.1 (List.getElem_mem h2))
    obtain ⟨i, hi, e⟩ := List.getElem_of_mem h3
    rw [List.getElem_take] at e
    simp at hi
    have := (sortU_rise l).lt (i := i) (j := n) (by omega) h2
    rw [e, Str.lt_irrefl] at this; cases this
  · exact List.take_of_length_le (by omega)
theorem next_least {l : List Str} {n : Nat} {x : Str} (hn : n ≤ (sortU l).length) (hx : x ∈ l) (hx2 : x ∉ (sortU l).take n) (h : ∀ y ∈ l, y ∉ (sortU l).take n → y.lt x = false) : ∃ h : n < (sortU l).length, (sortU l)[n] = x := by
  have h1 : x ∈ sortU l := sortU_mem.2 hx
  obtain ⟨i, hi, e⟩ := List.getElem_of_mem h1
  have hin : n ≤ i := by
    by_cases h3 : n ≤ i
    · exact h3
    · exfalso; apply hx2
      rw [← e]
      have : (sortU l)[i] = ((sortU l).take n)[i]'(by simp; omega) := by rw [List.getElem_take]
      rw [this]; exact List.getElem_mem _
  have hlt : n < (sortU l).length := by omega
  refine ⟨hlt, ?_⟩
  by_cases h4 : n = i
  · subst h4; exact e
  · exfalso
    have h5 := (sortU_rise l).lt (i := n) (j := i) (by omega) hi
    rw [e] at h5
    have h6 : (sortU l)[n] ∉ (sortU l).take n := fun hm => by
      obtain ⟨q, hq, eq⟩ := List.getElem_of_mem hm
      rw [List.getElem_take] at eq
      simp at hq
      have := (sortU_rise l).lt (i := q) (j := n) (by omega) hlt
      rw [eq, Str.lt_irrefl] at this; cases this
    rw [h _ (sortU_mem.1 (List.getElem_mem hlt)) h6] at h5; cases h5
/-! ## Rows of two maps -/
theorem both_keys : ∀ (a b : List Pair) (k : Str), k ∈ (bothN a b).map (·.key) ↔ k ∈ a.map (·.key) ∨ k ∈ b.map (·.key)
  | [], [], k => by simp [bothN]
  | x :: a, [], k => by rw [bothN]; have := both_keys a [] k; simp only [List.map_cons, List.mem_cons, this]; simp
  | [], y :: b, k => by rw [bothN]; have := both_keys [] b k; simp only [List.map_cons, List.mem_cons, this]; simp
  | x :: a, y :: b, k => by
    rw [bothN]
    split
    · have := both_keys a (y :: b) k; simp only [List.map_cons, List.mem_cons] at this ⊢; rw [this]; grind
    · split
      · have := both_keys (x :: a) b k; simp only [List.map_cons, List.mem_cons] at this ⊢; rw [this]; grind
      · rename_i h1 h2
        have hk : x.key = y.key := Str.lt_total (by simpa using h1) (by simpa using h2)
        have := both_keys a b k; simp only [List.map_cons, List.mem_cons] at this ⊢; rw [this, hk]; grind
termination_by a b => a.length + b.length
theorem both_low {a b : List Pair} {k : Str} (ha : ∀ p ∈ a, k.lt p.key = true) (hb : ∀ p ∈ b, k.lt p.key = true) : ∀ r ∈ bothN a b, k.lt r.key = true := fun r hr => by
  have := (both_keys a b r.key).1 (List.mem_map.2 ⟨r, hr, rfl⟩)
  rcases this with h | h
  · obtain ⟨p, hp, e⟩ := List.mem_map.1 h; rw [← e]; exact ha p hp
  · obtain ⟨p, hp, e⟩ := List.mem_map.1 h; rw [← e]; exact hb p hp
def DRise (l : List Drow) : Prop := l.Pairwise fun r s => r.key.lt s.key = true
theorem both_rise : ∀ (a b : List Pair), Srt a → Srt b → DRise (bothN a b)
  | [], [], _, _ => by simp [bothN, DRise]
  | x :: a, [], ha, hb => by
    obtain ⟨h1, h2⟩ := List.pairwise_cons.1 ha
    rw [bothN]; exact List.pairwise_cons.2 ⟨both_low h1 (by simp), both_rise a [] h2 hb⟩
  | [], y :: b, ha, hb => by
    obtain ⟨h1, h2⟩ := List.pairwise_cons.1 hb
    rw [bothN]; exact List.pairwise_cons.2 ⟨both_low (by simp) h1, both_rise [] b ha h2⟩
  | x :: a, y :: b, ha, hb => by
    obtain ⟨ha1, ha2⟩ := List.pairwise_cons.1 ha
    obtain ⟨hb1, hb2⟩ := List.pairwise_cons.1 hb
    rw [bothN]
    split
    · rename_i h
      refine List.pairwise_cons.2 ⟨both_low ha1 fun p hp => ?_, both_rise a (y :: b) ha2 hb⟩
      rcases List.mem_cons.1 hp with rfl | hp
      · exact h
      · exact Str.lt_trans h (hb1 p hp)
    · split
      · rename_i h
        refine List.pairwise_cons.2 ⟨both_low (fun p hp => ?_) hb1, both_rise (x :: a) b ha hb2⟩
        rcases List.mem_cons.1 hp with rfl | hp
        · exact h
        · exact Str.lt_trans h (ha1 p hp)
      · rename_i h1 h2
        have hk : x.key = y.key := Str.lt_total (by simpa using h1) (by simpa using h2)
        exact List.pairwise_cons.2 ⟨both_low ha1 (fun p hp => by rw [hk]; exact hb1 p hp), both_rise a b ha2 hb2⟩
termination_by a b => a.length + b.length
def Drow.of (a b : List Pair) (k : Str) : Drow := ⟨k, (getN a k).getD Str.nil, (getN b k).getD Str.nil, (getN a k).isSome, (getN b k).isSome⟩
theorem both_row : ∀ (a b : List Pair), Srt a → Srt b → ∀ r ∈ bothN a b, r = Drow.of a b r.key := by
  have one : ∀ (x : Pair) (l : List Pair), getN (x :: l) x.key = some x.val := fun x l => by rw [getN_cons, if_pos rfl]
  have skip : ∀ (x : Pair) (l : List Pair) (k : Str), x.key.lt k = true → getN (x :: l) k = getN l k := fun x l k h => by
    rw [getN_cons, if_neg (fun e => by rw [e, Str.lt_irrefl] at h; cases h)]
  have none' : ∀ (l : List Pair) (k : Str), (∀ p ∈ l, k.lt p.key = true) → getN l k = none := fun l k h => getN_none fun p hp e => by
    have := h p hp; rw [e, Str.lt_irrefl] at this; cases this
  intro a b
  induction hn : a.length + b.length using Nat.strongRecOn generalizing a b with
  | ind n ih =>
    intro ha hb r hr
    match a, b, ha, hb with
    | [], [], _, _ => simp [bothN] at hr
    | x :: a, [], ha, hb =>
      obtain ⟨h1, h2⟩ := List.pairwise_cons.1 ha
      rw [bothN] at hr
      rcases List.mem_cons.1 hr with rfl | hr
      · simp [Drow.of, one, getN]
      · have e := ih _ (by simp at hn ⊢; omega) a [] rfl h2 hb r hr
        have hl := both_low h1 (by simp) r hr
        unfold Drow.of; rw [skip x a _ hl]; exact e
    | [], y :: b, ha, hb =>
      obtain ⟨h1, h2⟩ := List.pairwise_cons.1 hb
      rw [bothN] at hr
      rcases List.mem_cons.1 hr with rfl | hr
      · simp [Drow.of, one, getN]
      · have e := ih _ (by simp at hn ⊢; omega) [] b rfl ha h2 r hr
        have hl := both_low (by simp) h1 r hr
        unfold Drow.of; rw [skip y b _ hl]; exact e
    | x :: a, y :: b, ha, hb =>
      obtain ⟨ha1, ha2⟩ := List.pairwise_cons.1 ha
      obtain ⟨hb1, hb2⟩ := List.pairwise_cons.1 hb
      rw [bothN] at hr
      split at hr
      · rename_i h
        have hby : ∀ p ∈ y :: b, x.key.lt p.key = true := fun p hp => by
          rcases List.mem_cons.1 hp with rfl | hp
          · exact h
          · exact Str.lt_trans h (hb1 p hp)
        rcases List.mem_cons.1 hr with rfl | hr
        · simp [Drow.of, one, none' _ _ hby]
        · have e := ih _ (by simp at hn ⊢; omega) a (y :: b) rfl ha2 hb r hr
          have hl := both_low ha1 hby r hr
          unfold Drow.of; rw [skip x a _ hl]; exact e
      · split at hr
        · rename_i h
          have hax : ∀ p ∈ x :: a, y.key.lt p.key = true := fun p hp => by
            rcases List.mem_cons.1 hp with rfl | hp
            · exact h
            · exact Str.lt_trans h (ha1 p hp)
          rcases List.mem_cons.1 hr with rfl | hr
          · simp [Drow.of, one, none' _ _ hax]
          · have e := ih _ (by simp at hn ⊢; omega) (x :: a) b rfl ha hb2 r hr
            have hl := both_low hax hb1 r hr
            unfold Drow.of; rw [skip y b _ hl]; exact e
        · rename_i h1 h2
          have hk : x.key = y.key := Str.lt_total (by simpa using h1) (by simpa using h2)
          rcases List.mem_cons.1 hr with rfl | hr
          · have : getN (y :: b) x.key = some y.val := by rw [hk]; exact one y b
            simp [Drow.of, one, this]
          · have e := ih _ (by simp at hn ⊢; omega) a b rfl ha2 hb2 r hr
            have hl := both_low ha1 (fun p hp => by rw [hk]; exact hb1 p hp) r hr
            unfold Drow.of; rw [skip x a _ hl, skip y b _ (by rw [← hk]; exact hl)]; exact e
def chg (r : Drow) : Option Opr :=
  if r.inB = false then some ⟨3, r.key, Str.nil, false, Str.nil, 0⟩
  else if r.inA = false ∨ r.a ≠ r.b then some ⟨1, r.key, Str.nil, false, r.b, 0⟩ else none
theorem Opr.eq_of {a b : Opr} (h : (!eqCells [.int .i64 a.kind, .string a.key.b, .string a.hi.b, .bool a.opn, .string a.val.b, .int .i64 a.lim] [.int .i64 b.kind, .string b.key.b, .string b.hi.b, .bool b.opn, .string b.val.b, .int .i64 b.lim]) = false) : a = b := by
  cases a; cases b
  simp [eqCells] at h
  simp_all [Str.b_inj]
theorem Opr.ne_of {a b : Opr} (h : (!eqCells [.int .i64 a.kind, .string a.key.b, .string a.hi.b, .bool a.opn, .string a.val.b, .int .i64 a.lim] [.int .i64 b.kind, .string b.key.b, .string b.hi.b, .bool b.opn, .string b.val.b, .int .i64 b.lim]) = true) : a ≠ b := by
  intro e; subst e; simp [eqCells] at h
def Opr.zero : Opr := ⟨0, Str.nil, Str.nil, false, Str.nil, 0⟩
def Opr.cells (o : Opr) : List Value := [.int .i64 o.kind, .string o.key.b, .string o.hi.b, .bool o.opn, .string o.val.b, .int .i64 o.lim]
theorem chg_3 {r : Drow} (h : r.inB = false) : chg r = some ⟨3, r.key, Str.nil, false, Str.nil, 0⟩ := if_pos h
theorem chg_1 {r : Drow} (h : r.inB = true) (h2 : r.inA = false ∨ r.a ≠ r.b) : chg r = some ⟨1, r.key, Str.nil, false, r.b, 0⟩ := by unfold chg; rw [if_neg (by simp [h]), if_pos h2]
theorem chg_0 {r : Drow} (h : r.inB = true) (h1 : r.inA = true) (h2 : r.a = r.b) : chg r = none := by unfold chg; rw [if_neg (by simp [h]), if_neg (by simp [h1, h2])]
theorem chg_ok (r : Drow) : ((chg r).getD Opr.zero).Ok := by
  unfold chg
  split
  · exact ⟨⟨by simp [Opr.zero], by simp [Opr.zero]⟩, ⟨by simp [Opr.zero], by simp [Opr.zero]⟩⟩
  · split <;> exact ⟨⟨by simp [Opr.zero], by simp [Opr.zero]⟩, ⟨by simp [Opr.zero], by simp [Opr.zero]⟩⟩
theorem fm_t {α β : Type} [Inhabited β] {f : α → Option β} {l : List α} {k : Nat} (hk : k < l.length) (d : β) (h : (f l[k]).isSome = true) : (l.take (k + 1)).filterMap f = (l.take k).filterMap f ++ [(f l[k]).getD d] := by
  rw [List.take_succ_eq_append_getElem hk, List.filterMap_append]
  congr 1
  cases he : f l[k] with
  | none => rw [he] at h; cases h
  | some x => simp [he]
theorem fm_some {α β : Type} {f : α → Option β} {l : List α} {k : Nat} {x : β} (hk : k < l.length) (h : f l[k] = some x) : (l.take (k + 1)).filterMap f = (l.take k).filterMap f ++ [x] := by
  rw [List.take_succ_eq_append_getElem hk, List.filterMap_append]; simp [h]
theorem fm_none {α β : Type} {f : α → Option β} {l : List α} {k : Nat} (hk : k < l.length) (h : f l[k] = none) : (l.take (k + 1)).filterMap f = (l.take k).filterMap f := by
  rw [List.take_succ_eq_append_getElem hk, List.filterMap_append]; simp [h]
theorem fm_f {α β : Type} {f : α → Option β} {l : List α} {k : Nat} (hk : k < l.length) (h : (f l[k]).isSome = false) : (l.take (k + 1)).filterMap f = (l.take k).filterMap f := by
  rw [List.take_succ_eq_append_getElem hk, List.filterMap_append]
  cases he : f l[k] with
  | none => simp [he]
  | some x => rw [he] at h; cases h
def chgN (a b : List Pair) : List Opr := (bothN a b).filterMap chg
def keysN (a b : List Pair) : List Str := sortU (a.map (·.key) ++ b.map (·.key))
theorem keys_both {a b : List Pair} (ha : Srt a) (hb : Srt b) : keysN a b = (bothN a b).map (·.key) :=
  Rise.ext (sortU_rise _) (by
    have := both_rise a b ha hb
    unfold DRise at this
    unfold Rise
    rw [List.pairwise_map]; exact this) fun k => by
    unfold keysN
    rw [sortU_mem, List.mem_append, both_keys]
theorem fm_congr {α β : Type} {f g : α → Option β} : ∀ {l : List α}, (∀ x ∈ l, f x = g x) → l.filterMap f = l.filterMap g
  | [], _ => rfl
  | x :: l, h => by rw [List.filterMap_cons, List.filterMap_cons, h x (by simp), fm_congr fun y hy => h y (by simp [hy])]
theorem chg_keys {a b : List Pair} (ha : Srt a) (hb : Srt b) : (keysN a b).filterMap (fun k => chg (Drow.of a b k)) = chgN a b := by
  rw [keys_both ha hb, List.filterMap_map]
  unfold chgN
  refine fm_congr fun r hr => ?_
  show chg (Drow.of a b r.key) = chg r
  rw [← both_row a b ha hb r hr]
end Go.Fw
