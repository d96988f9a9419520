/- Plain functions and their laws. Nothing of the program is named here. No condition. -/
import Derived.Test.YtemoalimclnfkaaGreatQjX2
set_option linter.unusedVariables false
set_option linter.unusedSimpArgs false
set_option linter.unnecessarySimpa false
set_option linter.unusedSectionVars false

namespace Go.Fw
open Go
def longG {α : Type} (w : α → Int) : List α → Int → Int → Int
 | [], n, _ => n
 | s :: l, n, most => if n ≤ most then longG w l (n + w s) most else n
def Pair.w (p : Pair) : Int := 1 + p.key.b.size + p.val.b.size
def Msg.w (m : Msg) : Int := 1 + m.key.b.size + m.hi.b.size + m.val.b.size
theorem Pair.eq_of {a b : Pair} (h : (!eqCells [.string a.key.b, .string a.val.b] [.string b.key.b, .string b.val.b]) = false) : a = b := by
 cases a; cases b
 simpa [eqCells, Str.b_inj] using h
theorem Pair.ne_of {a b : Pair} (h : (!eqCells [.string a.key.b, .string a.val.b] [.string b.key.b, .string b.val.b]) = true) : a ≠ b := by
 intro e; subst e; simp [eqCells] at h
theorem Msg.eq_of {a b : Msg} (h : (!eqCells [.int .i64 a.stamp, .int .i64 a.kind, .string a.key.b, .string a.hi.b, .bool a.opn, .string a.val.b] [.int .i64 b.stamp, .int .i64 b.kind, .string b.key.b, .string b.hi.b, .bool b.opn, .string b.val.b]) = false) : a = b := by
 cases a; cases b
 simpa [eqCells, Str.b_inj] using h
theorem Msg.ne_of {a b : Msg} (h : (!eqCells [.int .i64 a.stamp, .int .i64 a.kind, .string a.key.b, .string a.hi.b, .bool a.opn, .string a.val.b] [.int .i64 b.stamp, .int .i64 b.kind, .string b.key.b, .string b.hi.b, .bool b.opn, .string b.val.b]) = true) : a ≠ b := by
 intro e; subst e; simp [eqCells] at h
def PairsR (l : List Pair) : Prop := ∀ i (h : i < l.length), (l[i].key.b.size ≤ 16 ∧ l[i].val.b.size ≤ 16) ∧ (0 < i → (l[i - 1]'om9).key.lt l[i].key = true)
instance (l : List Pair) : Decidable (PairsR l) := by unfold PairsR; infer_instance
def Str.next (a : Str) : Str := if h : (a.b ++ ⟨#[0]⟩).size ≤ 140737488355328 then ⟨a.b ++ ⟨#[0]⟩, h⟩ else a
theorem Str.next_b {a : Str} (h : a.b.size < 140737488355328) : a.next.b = a.b ++ ⟨#[0]⟩ := by
 have h1 : (a.b ++ ⟨#[0]⟩).size ≤ 140737488355328 := by rw [ByteArray.size_append]; show _ + 1 ≤ _; omega
 rw [Str.next, dif_pos h1]
def Msg.span (m : Msg) : Span := if m.kind = 4 then ⟨m.key, m.hi, m.opn⟩ else ⟨m.key, m.key.next, false⟩
def Span.meet (a b : Span) : Span := Span.norm ⟨if a.lo.lt b.lo = true then b.lo else a.lo, if b.opn = false ∧ (a.opn = true ∨ b.hi.lt a.hi = true) then b.hi else a.hi, a.opn && b.opn⟩
def Msg.clip (m : Msg) (s : Span) : Msg × Bool :=
 if (m.span.meet s).empty = true then (⟨0, 0, Str.nil, Str.nil, false, Str.nil⟩, false)
 else if m.kind = 4 then ({ m with key := (m.span.meet s).lo, hi := (m.span.meet s).hi, opn := (m.span.meet s).opn }, true) else (m, true)
def Msg.size (m : Msg) : Int := if m.kind = 4 then 36 else 4 + m.key.b.size + m.val.b.size
theorem Str.min_eq (a b : Str) : a.min b = if b.lt a = true then b else a := by
 unfold Str.min
 cases h : b.lt a
 ·cases h2 : a.lt b
  ·obtain rfl := Str.lt_total h h2; simp
  ·simp
 ·have h3 := Str.lt_asymm h
  rw [h3]
  have h4 : a ≠ b := by rintro rfl; rw [Str.lt_irrefl] at h; cases h
  simp [h4]
theorem smeet_eq (a b : Span) : Span.norm ⟨a.lo.max b.lo, if a.opn = true then b.hi else if b.opn = true then a.hi else a.hi.min b.hi, a.opn && b.opn⟩ = Span.meet a b := by
 unfold Span.meet
 rw [Str.min_eq]
 cases h1 : a.opn <;> cases h2 : b.opn <;> simp [Str.max]
 simp [Span.norm, Span.empty]
theorem clip_e {m : Msg} {s : Span} (h : (m.span.meet s).empty = true) : m.clip s = (⟨0, 0, Str.nil, Str.nil, false, Str.nil⟩, false) := if_pos h
theorem clip_4 {m : Msg} {s : Span} (h : (m.span.meet s).empty = false) (k : m.kind = 4) : m.clip s = ({ m with key := (m.span.meet s).lo, hi := (m.span.meet s).hi, opn := (m.span.meet s).opn }, true) := by
 rw [Msg.clip, if_neg (by simp [h]), if_pos k]
theorem clip_n {m : Msg} {s : Span} (h : (m.span.meet s).empty = false) (k : ¬ m.kind = 4) : m.clip s = (m, true) := by
 rw [Msg.clip, if_neg (by simp [h]), if_neg k]
def clips (s : Span) (l : List Msg) : List Msg := l.filterMap fun m => if (m.clip s).2 = true then some (m.clip s).1 else none
theorem clips_le {s : Span} {l : List Msg} : (clips s l).length ≤ l.length := List.length_filterMap_le _ _
def commonFrom (a b : ByteArray) : Nat → Nat → Nat
 | 0, k => k
 | n + 1, k => if k < a.size ∧ k < b.size ∧ a[k]? = b[k]? then commonFrom a b n (k + 1) else k
def commonN (a b : Str) : Nat := commonFrom a.b b.b a.b.size 0
theorem commonFrom_same {a b : ByteArray} : ∀ {n k j : Nat}, j ≤ k + n → k ≤ j → j ≤ a.size → j ≤ b.size → (∀ i, i < j → a[i]? = b[i]?) → commonFrom a b n k = commonFrom a b (n + k - j) j
 | 0, k, j, h1, h2, _, _, _ => by
  obtain rfl : j = k := om9
  simp
 | n + 1, k, j, h1, h2, h3, h4, h5 => by
  by_cases e : k = j
  ·subst e; simp
  ·rw [commonFrom, if_pos ⟨om9, om9, h5 k om9⟩, commonFrom_same (n := n) (k := k + 1) (j := j) om9 om9 h3 h4 h5]
   congr 1; omega
theorem commonN_ne {a b : Str} {k : Nat} (h : ∀ i, i < k → a.b[i]? = b.b[i]?) (h1 : k < a.b.size) (h2 : k < b.b.size) (hn : a.b[k]? ≠ b.b[k]?) : commonN a b = k := by
 rw [commonN, commonFrom_same (j := k) om9 om9 om9 om9 h]
 obtain ⟨m, hm⟩ : ∃ m, a.b.size + 0 - k = m + 1 := ⟨a.b.size - k - 1, om9⟩
 rw [hm, commonFrom, if_neg (by simp [hn])]
theorem commonN_end {a b : Str} {k : Nat} (h1 : k ≤ a.b.size) (h2 : k ≤ b.b.size) (h : ∀ i, i < k → a.b[i]? = b.b[i]?) (he : k = a.b.size ∨ k = b.b.size) : commonN a b = k := by
 rw [commonN, commonFrom_same (j := k) om9 om9 h1 h2 h]
 cases hm : a.b.size + 0 - k with
 | zero => rfl
 | succ m => rw [commonFrom, if_neg om9]
theorem commonFrom_le (a b : ByteArray) : ∀ n k, k ≤ a.size → k ≤ b.size → commonFrom a b n k ≤ a.size ∧ commonFrom a b n k ≤ b.size
 | 0, k, h1, h2 => ⟨h1, h2⟩
 | n + 1, k, h1, h2 => by
  rw [commonFrom]
  split
  ·rename_i h; exact commonFrom_le a b n (k + 1) om9 om9
  ·exact ⟨h1, h2⟩
theorem commonN_le (a b : Str) : commonN a b ≤ a.b.size ∧ commonN a b ≤ b.b.size := commonFrom_le _ _ _ _ om9 om9
theorem commonFrom_pre {a b : ByteArray} : ∀ {n k : Nat}, (∀ i, i < k → a[i]? = b[i]?) → ∀ i, i < commonFrom a b n k → a[i]? = b[i]?
 | 0, k, h => h
 | n + 1, k, h => by
  rw [commonFrom]
  split
  ·rename_i hc
   exact commonFrom_pre fun i hi => by
    by_cases e : i = k
    ·subst e; exact hc.2.2
    ·exact h i om9
  ·exact h
theorem common_pre (a b : Str) : ∀ i, i < commonN a b → a.b[i]? = b.b[i]? := commonFrom_pre fun i hi => by omega
theorem commonN_ne' {a b : Str} {k : Nat} (h : ∀ i, i < k → a.b[i]? = b.b[i]?) (h1 : k < a.b.size) (h2 : k < b.b.size) (hn : ¬ ((a.b[k]'h1).toNat : Int) = (b.b[k]'h2).toNat) : commonN a b = k :=
 commonN_ne h h1 h2 fun e => hn (by
  rw [getElem?_pos a.b k h1, getElem?_pos b.b k h2] at e
  simp only [Option.some.injEq] at e
  rw [e])
theorem common_lt {a b : Str} (h : a.lt b = true) : commonN a b < b.b.size := by
 obtain ⟨h1, h2⟩ := commonN_le a b
 by_cases e : commonN a b = b.b.size
 ·have := blt_end (common_pre a b) (.inr e) h1 h2
  rw [show blt a.b b.b = true from h] at this
  simp at this
  omega
 ·omega
def betweenN (a b : Str) : Str × Bool := if a.lt b = true then (b.cut 0 (commonN a b + 1), true) else (Str.nil, false)
theorem betweenN_t {a b : Str} (h : a.lt b = true) : betweenN a b = (b.cut 0 (commonN a b + 1), true) := if_pos h
theorem betweenN_f {a b : Str} (h : a.lt b = false) : betweenN a b = (Str.nil, false) := if_neg (by simp [h])
theorem cut_size {b : Str} {n : Nat} (h : n ≤ b.b.size) : (b.cut 0 n).b.size = n := by
 show (b.b.extract 0 n).size = n
 rw [ByteArray.size_extract]; omega
theorem cut_get {b : Str} {n i : Nat} (h : n ≤ b.b.size) (hi : i < n) : (b.cut 0 n).b[i]? = b.b[i]? := by
 have h1 : i < (b.cut 0 n).b.size := by rw [cut_size h]; exact hi
 rw [getElem?_pos _ i h1, getElem?_pos _ i om9]
 have h2 : ∀ hh, (b.b.extract 0 n)[i]'hh = b.b[i]'om9 := fun hh => by rw [ByteArray.getElem_extract]; simp
 exact congrArg some (h2 h1)
theorem lt_cut {a b : Str} {n : Nat} (hn : n ≤ b.b.size) : a.lt (b.cut 0 n) = (a.lt b && decide (commonN a b < n)) := by
 obtain ⟨h1, h2⟩ := commonN_le a b
 have hs := cut_size hn
 by_cases hk : commonN a b < n
 ·have hp : ∀ i, i < commonN a b → a.b[i]? = (b.cut 0 n).b[i]? := fun i hi => by rw [cut_get hn om9]; exact common_pre a b i hi
  rw [decide_eq_true hk, Bool.and_true]
  show blt a.b (b.cut 0 n).b = blt a.b b.b
  by_cases ha : commonN a b = a.b.size
  ·rw [← blt_end hp (.inl ha) om9 om9, ← blt_end (common_pre a b) (.inl ha) om9 om9, hs]
   rw [decide_eq_true om9, decide_eq_true om9]
  ·have hlt : commonN a b < a.b.size := om9
   have hlb : commonN a b < b.b.size := om9
   have hlc : commonN a b < (b.cut 0 n).b.size := om9
   have hg := cut_get hn hk
   rw [getElem?_pos (b.cut 0 n).b (commonN a b) hlc, getElem?_pos b.b (commonN a b) hlb] at hg
   simp only [Option.some.injEq] at hg
   have hne : (a.b[commonN a b]'hlt).toNat ≠ (b.b[commonN a b]'hlb).toNat := fun e => by
    have h5 : commonN a b + 1 ≤ commonN a b := by
     have h6 : ∀ i, i < commonN a b + 1 → a.b[i]? = b.b[i]? := fun i hi => by
      by_cases e2 : i = commonN a b
      ·rw [e2, getElem?_pos a.b _ hlt, getElem?_pos b.b _ hlb, UInt8.toNat.inj e]
      ·exact common_pre a b i om9
     have h7 : commonN a b = commonFrom a.b b.b (a.b.size + 0 - (commonN a b + 1)) (commonN a b + 1) := by
      conv => lhs; unfold commonN
      exact commonFrom_same om9 om9 om9 om9 h6
     have h8 : ∀ n k, k ≤ commonFrom a.b b.b n k := by
      intro n
      induction n with
      | zero => intro k; exact Nat.le_refl _
      | succ n ih =>
       intro k
       rw [commonFrom]
       split
       ·exact Nat.le_trans (Nat.le_succ k) (ih (k + 1))
       ·exact Nat.le_refl _
     have := h8 (a.b.size + 0 - (commonN a b + 1)) (commonN a b + 1)
     omega
    omega
   rw [← blt_at hp hlt hlc (by rw [hg]; exact hne), ← blt_at (common_pre a b) hlt hlb hne, hg]
 ·have hp : ∀ i, i < n → a.b[i]? = (b.cut 0 n).b[i]? := fun i hi => by rw [cut_get hn hi]; exact common_pre a b i om9
  rw [decide_eq_false hk, Bool.and_false]
  show blt a.b (b.cut 0 n).b = false
  rw [← blt_end hp (.inr hs.symm) om9 om9, hs]
  exact decide_eq_false om9
def rowsN (l : List Pair) : List Pair × List Pair × Str × Bool :=
 if l.length < 2 then ([], [], Str.nil, false)
 else (l.take ((l.length + 1) / 2), l.drop ((l.length + 1) / 2), (betweenN (l.getD ((l.length + 1) / 2 - 1) default).key (l.getD ((l.length + 1) / 2) default).key).1, true)
theorem rowsN_f {l : List Pair} (h : l.length < 2) : rowsN l = ([], [], Str.nil, false) := if_pos h
theorem rowsN_t {l : List Pair} (h : ¬ l.length < 2) : rowsN l = (l.take ((l.length + 1) / 2), l.drop ((l.length + 1) / 2), (betweenN (l[(l.length + 1) / 2 - 1]'om9).key (l[(l.length + 1) / 2]'om9).key).1, true) := by
 rw [rowsN, if_neg h, getD_get om9, getD_get om9]
def Nd.light (m : Int) (n : Nd) : Prop := longG Pair.w n.rows 0 m ≤ m ∧ longN n.pivots 0 m ≤ m ∧ (n.kids.length : Int) ≤ m ∧ longG Msg.w n.msgs 0 m ≤ m ∧ (n.high.b.size : Int) ≤ m
instance (m : Int) (n : Nd) : Decidable (n.light m) := by unfold Nd.light; infer_instance
def Light (l : List Nd) (n m : Int) : Prop := (l.length : Int) ≤ n ∧ ∀ i (h : i < l.length), l[i].light m
instance (l : List Nd) (n m : Int) : Decidable (Light l n m) := by unfold Light; infer_instance
def Msg.R (m : Msg) : Prop := (1 ≤ m.stamp ∧ m.key.b.size ≤ 16 ∧ m.val.b.size ≤ 16 ∧ m.hi.b.size ≤ 16) ∧
 if m.kind = 4 then m.val = Str.nil ∧ (m.opn = false ∨ m.hi = Str.nil) ∧ m.span.empty = false
 else m.hi = Str.nil ∧ m.opn = false ∧ (m.kind = 1 ∨ m.kind = 2 ∨ (m.kind = 3 ∧ m.val = Str.nil))
instance (m : Msg) : Decidable m.R := by unfold Msg.R; infer_instance
def MsgsR (l : List Msg) : Prop := ∀ i (h : i < l.length), l[i].R ∧ (0 < i → (l[i - 1]'om9).stamp < l[i].stamp)
instance (l : List Msg) : Decidable (MsgsR l) := by unfold MsgsR; infer_instance
def halvesN (n : Nd) : Nd × Nd × Str × Bool :=
 if n.level = 0 then ({ n with rows := (rowsN n.rows).1 }, { n with rows := (rowsN n.rows).2.1 }, (rowsN n.rows).2.2.1, (rowsN n.rows).2.2.2)
 else if rightN n.pivots n.kids.length = false then (n, n, Str.nil, false)
 else ({ n with pivots := (halveN n.pivots n.kids).1, kids := (halveN n.pivots n.kids).2.1, msgs := clips ⟨Str.nil, (halveN n.pivots n.kids).2.2.1, false⟩ n.msgs },
  { n with pivots := (halveN n.pivots n.kids).2.2.2.1, kids := (halveN n.pivots n.kids).2.2.2.2.1, msgs := clips ⟨(halveN n.pivots n.kids).2.2.1, Str.nil, true⟩ n.msgs },
  (halveN n.pivots n.kids).2.2.1, (halveN n.pivots n.kids).2.2.2.2.2)
def Nd.zero : Nd := ⟨0, 0, [], [], Str.nil, false, 0, 0, [], []⟩
theorem Nd.zero_ok : Nd.zero.Ok := ⟨⟨by decide, by decide⟩, ⟨by decide, by decide⟩, ⟨by decide, by decide⟩, ⟨by decide, by decide⟩⟩
def cleaveN (n : Nd) (i : Int) : Nd × Nd × Str × Bool :=
 if (halvesN n).2.2.2 = true then ({ (halvesN n).1 with high := (halvesN n).2.2.1, top := false, right := i }, { (halvesN n).2.1 with slot := i }, (halvesN n).2.2.1, true)
 else (Nd.zero, Nd.zero, Str.nil, false)
def sizesN (l : List Msg) : Int := (l.map Msg.size).sum
theorem size_36 {m : Msg} (h : m.key.b.size ≤ 16 ∧ m.val.b.size ≤ 16) : 4 ≤ m.size ∧ m.size ≤ 36 := by
 unfold Msg.size; split <;> omega
def Nd.has (n : Nd) (k : Str) : Bool := n.top || k.lt n.high
def Nd.leafR (leaf : Int) (n : Nd) : Prop := (n.pivots.length + n.kids.length + n.msgs.length = 0) ∧ (n.rows.length : Int) ≤ leaf ∧ PairsR n.rows ∧ ∀ i (h : i < n.rows.length), n.has n.rows[i].key = true
instance (m : Int) (n : Nd) : Decidable (n.leafR m) := by unfold Nd.leafR; infer_instance
def Nd.fits (n : Nd) (m : Msg) : Prop := m.stamp ≤ n.seen ∧ (n.top = true ∨ (m.span.opn = false ∧ n.high.lt m.span.hi = false))
instance (n : Nd) (m : Msg) : Decidable (n.fits m) := by unfold Nd.fits; infer_instance
def Nd.parts (n : Nd) (k : Str) : Prop := k ≠ Str.nil ∧ k.b.size ≤ 16 ∧ n.has k = true
instance (n : Nd) (k : Str) : Decidable (n.parts k) := by unfold Nd.parts; infer_instance
def Nd.innerR (fan bud : Int) (n : Nd) : Prop := (n.rows.length = 0 ∧ 2 ≤ n.kids.length ∧ (n.kids.length : Int) ≤ fan) ∧ rightN n.pivots n.kids.length = true ∧ MsgsR n.msgs ∧ sizesN n.msgs ≤ bud ∧
 (∀ i (h : i < n.kids.length), 0 ≤ n.kids[i]) ∧ (∀ i (h : i < n.pivots.length), n.parts n.pivots[i]) ∧ ∀ i (h : i < n.msgs.length), n.fits n.msgs[i]
instance (f b : Int) (n : Nd) : Decidable (n.innerR f b) := by unfold Nd.innerR; infer_instance
def Nd.R (fan leaf bud : Int) (n : Nd) : Prop := (0 ≤ n.slot ∧ 0 ≤ n.level ∧ 0 ≤ n.seen) ∧ (n.top = true → n.high = Str.nil ∧ n.right = -1) ∧ (n.top = false → n.high ≠ Str.nil ∧ n.high.b.size ≤ 16 ∧ 0 ≤ n.right) ∧
 if n.level = 0 then n.leafR leaf else n.innerR fan bud
instance (f l b : Int) (n : Nd) : Decidable (n.R f l b) := by unfold Nd.R; infer_instance
def Nd.sound (n : Nd) : Prop := Light [n] 1 2000 ∧ if n.level = 0 then PairsR n.rows else MsgsR n.msgs
instance (n : Nd) : Decidable n.sound := by unfold Nd.sound; infer_instance
theorem PairsR.lt {l : List Pair} (hr : PairsR l) : ∀ (j i : Nat) (hij : i < j) (hj : j < l.length), l[i].key.lt l[j].key = true
 | 0, i, h, _ => by omega
 | j + 1, i, h, hj => by
  have h1 : l[j].key.lt l[j + 1].key = true := (hr (j + 1) hj).2 om9
  by_cases e : i = j
  ·subst e; exact h1
  ·exact Str.lt_trans (PairsR.lt hr j i om9 om9) h1
theorem PairsR.take {l : List Pair} (h : PairsR l) (n : Nat) : PairsR (l.take n) := fun i hi => by
 simp at hi
 have := h i om9
 refine ⟨by simpa using this.1, fun h0 => by simpa using this.2 h0⟩
theorem PairsR.drop {l : List Pair} (h : PairsR l) (n : Nat) : PairsR (l.drop n) := fun i hi => by
 simp at hi
 have := h (n + i) om9
 refine ⟨by simpa using this.1, fun h0 => ?_⟩
 have h2 := this.2 om9
 simp only [List.getElem_drop]
 have e : n + (i - 1) = n + i - 1 := om9
 simp only [e]; exact h2
theorem MsgsR.iff {l : List Msg} : MsgsR l ↔ (∀ m ∈ l, m.R) ∧ l.Pairwise fun a b => a.stamp < b.stamp := by
 constructor
 ·intro h
  refine ⟨fun m hm => ?_, List.pairwise_iff_getElem.2 fun i j hi hj hij => ?_⟩
  ·obtain ⟨i, hi, rfl⟩ := List.getElem_of_mem hm; exact (h i hi).1
  ·induction j with
   | zero => omega
   | succ j ih =>
    have h1 : l[j].stamp < l[j + 1].stamp := (h (j + 1) hj).2 om9
    by_cases e : i = j
    ·subst e; exact h1
    ·have := ih om9 om9; omega
 ·rintro ⟨h1, h2⟩ i hi
  exact ⟨h1 _ (List.getElem_mem hi), fun h0 => List.pairwise_iff_getElem.1 h2 (i - 1) i om9 hi om9⟩
theorem clips_mem {s : Span} {l : List Msg} {m : Msg} (h : m ∈ clips s l) : ∃ a ∈ l, (a.clip s).2 = true ∧ (a.clip s).1 = m := by
 obtain ⟨a, ha, h⟩ := List.mem_filterMap.1 h
 split at h
 ·rename_i hc; exact ⟨a, ha, hc, by simpa using h⟩
 ·cases h
theorem clip_of {m : Msg} {s : Span} (h : (m.clip s).2 = true) : (m.span.meet s).empty = false ∧ (m.clip s).1 = if m.kind = 4 then { m with key := (m.span.meet s).lo, hi := (m.span.meet s).hi, opn := (m.span.meet s).opn } else m := by
 cases he : (m.span.meet s).empty
 ·refine ⟨rfl, ?_⟩
  by_cases k : m.kind = 4
  ·rw [clip_4 he k, if_pos k]
  ·rw [clip_n he k, if_neg k]
 ·rw [clip_e he] at h; cases h
theorem clip_stamp {m : Msg} {s : Span} (h : (m.clip s).2 = true) : (m.clip s).1.stamp = m.stamp := by
 rw [(clip_of h).2]; split <;> rfl
theorem norm_sizes {s : Span} {n : Nat} (h1 : s.lo.b.size ≤ n) (h2 : s.hi.b.size ≤ n) : s.norm.lo.b.size ≤ n ∧ s.norm.hi.b.size ≤ n := by
 have h0 : Str.nil.b.size = 0 := rfl
 unfold Span.norm
 split
 ·exact ⟨by show Str.nil.b.size ≤ n; omega, by show Str.nil.b.size ≤ n; omega⟩
 ·split
  ·exact ⟨h1, by show Str.nil.b.size ≤ n; omega⟩
  ·exact ⟨h1, h2⟩
theorem norm_opn {s : Span} : s.norm.opn = false ∨ s.norm.hi = Str.nil := by
 unfold Span.norm
 split
 ·exact .inl rfl
 ·split
  ·exact .inr rfl
  ·rename_i h; exact .inl (by simpa using h)
theorem clip_R {m : Msg} {s : Span} (hm : m.R) (h1 : s.lo.b.size ≤ 16) (h2 : s.hi.b.size ≤ 16) (h : (m.clip s).2 = true) : (m.clip s).1.R := by
 obtain ⟨he, e⟩ := clip_of h
 rw [e]
 by_cases k : m.kind = 4
 ·rw [if_pos k]
  obtain ⟨⟨q1, q2, q3, q4⟩, q5⟩ := hm
  rw [if_pos k] at q5
  have hs : m.span = ⟨m.key, m.hi, m.opn⟩ := if_pos k
  have hz : (m.span.meet s).lo.b.size ≤ 16 ∧ (m.span.meet s).hi.b.size ≤ 16 := by
   rw [hs]
   exact norm_sizes (by show (if _ then _ else _ : Str).b.size ≤ 16; split; exact h1; exact q2) (by show (if _ then _ else _ : Str).b.size ≤ 16; split; exact h2; exact q4)
  refine ⟨⟨q1, hz.1, q3, hz.2⟩, ?_⟩
  show if m.kind = 4 then _ else _
  rw [if_pos k]
  refine ⟨q5.1, norm_opn, ?_⟩
  show Span.empty (if m.kind = 4 then _ else _) = false
  rw [if_pos k]; exact he
 ·rw [if_neg k]; exact hm
theorem sizes_cons {m : Msg} {l : List Msg} : sizesN (m :: l) = m.size + sizesN l := by simp [sizesN]
theorem norm_id {s : Span} (h : s.empty = false) (ho : s.opn = false) : s.norm = s := by
 unfold Span.norm
 rw [if_neg (by simp [h]), if_neg (by simp [ho])]
theorem between_props {a b : Str} (h : a.lt b = true) (hb : b.b.size ≤ 16) : (betweenN a b).1 ≠ Str.nil ∧ (betweenN a b).1.b.size ≤ 16 ∧ a.lt (betweenN a b).1 = true ∧ b.lt (betweenN a b).1 = false := by
 have h1 := common_lt h
 rw [betweenN_t h]
 have hs : (b.cut 0 (commonN a b + 1)).b.size = commonN a b + 1 := cut_size om9
 refine ⟨fun e => ?_, by show (b.cut 0 (commonN a b + 1)).b.size ≤ 16; omega, ?_, ?_⟩
 ·have e : b.cut 0 (commonN a b + 1) = Str.nil := e
  rw [e] at hs; have : Str.nil.b.size = 0 := rfl; omega
 ·show a.lt (b.cut 0 (commonN a b + 1)) = true
  rw [lt_cut om9, h]; simp
 ·show b.lt (b.cut 0 (commonN a b + 1)) = false
  rw [lt_cut om9, Str.lt_irrefl]; rfl
def tailL {α : Type} (l : List α) : List α := l.drop (l.length - 16)
theorem tailL_len {α : Type} (l : List α) : (tailL l).length = min l.length 16 := by simp [tailL]; omega
theorem tailL_left {α : Type} (x b : List α) : tailL (tailL x ++ b) = tailL (x ++ b) := by
 simp only [tailL, List.length_append, List.length_drop]
 by_cases h : x.length ≤ 16
 ·rw [show x.length - 16 = 0 from by omega]; simp
 ·rw [show x.length - (x.length - 16) + b.length - 16 = b.length from by omega, show x.length + b.length - 16 = (x.length - 16) + b.length from by omega, ← List.drop_drop,
   List.drop_append_of_le_length (by omega : x.length - 16 ≤ x.length)]
theorem tailL_right {α : Type} (x y : List α) : tailL (x ++ tailL y) = tailL (x ++ y) := by
 simp only [tailL, List.length_append, List.length_drop]
 by_cases h : y.length ≤ 16
 ·rw [show y.length - 16 = 0 from by omega]; simp
 ·rw [show x.length + (y.length - (y.length - 16)) - 16 = x.length from by omega, show x.length + y.length - 16 = x.length + (y.length - 16) from by omega]
  rw [List.drop_append_of_le_length (Nat.le_refl _), ← List.drop_drop, List.drop_append_of_le_length (Nat.le_refl _)]
  simp
def tailB (b : ByteArray) : ByteArray := b.extract (b.size - 16) b.size
theorem tailB_data (b : ByteArray) : (tailB b).data.toList = tailL b.data.toList := by
 simp only [tailB, tailL, ByteArray.data_extract, Array.toList_extract, List.extract_eq_take_drop, Array.length_toList]
 show List.take (b.data.size - (b.data.size - 16)) (List.drop (b.data.size - 16) b.data.toList) = _
 rw [List.take_of_length_le (by simp)]
theorem ba_ext {a b : ByteArray} (h : a.data.toList = b.data.toList) : a = b := by
 cases a; cases b
 simp only [ByteArray.mk.injEq]
 exact Array.toList_inj.1 h
theorem tailB_size (b : ByteArray) : (tailB b).size = min b.size 16 := by
 have h := congrArg List.length (tailB_data b)
 rw [tailL_len] at h
 simpa using h
theorem app_data (a b : ByteArray) : (a ++ b).data.toList = a.data.toList ++ b.data.toList := by simp [ByteArray.data_append]
theorem tailB_left (x b : ByteArray) : tailB (tailB x ++ b) = tailB (x ++ b) := by
 apply ba_ext; rw [tailB_data, tailB_data, app_data, app_data, tailB_data, tailL_left]
theorem tailB_right (x y : ByteArray) : tailB (x ++ tailB y) = tailB (x ++ y) := by
 apply ba_ext; rw [tailB_data, tailB_data, app_data, app_data, tailB_data, tailL_right]
theorem app_assoc (a b c : ByteArray) : a ++ b ++ c = a ++ (b ++ c) := by
 apply ba_ext; simp only [app_data, List.append_assoc]
def Str.tail (s : Str) : Str := ⟨tailB s.b, by rw [tailB_size]; omega⟩
def Str.cat (a b : Str) : Str := if h : (a.b ++ b.b).size ≤ 140737488355328 then ⟨a.b ++ b.b, h⟩ else a
theorem Str.cat_b {a b : Str} (h : a.b.size + b.b.size ≤ 140737488355328) : (a.cat b).b = a.b ++ b.b := by
 have h1 : (a.b ++ b.b).size ≤ 140737488355328 := by rw [ByteArray.size_append]; exact h
 rw [Str.cat, dif_pos h1]
def Str.add (a b : Str) : Str := ⟨tailB (a.b ++ b.b), by rw [tailB_size]; omega⟩
theorem Str.cat_tail {a b : Str} (h : a.b.size + b.b.size ≤ 140737488355328) : (a.cat b).tail = a.add b := by
 apply Str.ext'; simp only [Str.tail, Str.add]; rw [Str.cat_b h]
theorem Str.add_assoc (x a b : Str) : (x.add a).add b = x.add (a.add b) := by
 apply Str.ext'; simp only [Str.add]; rw [tailB_left, tailB_right, app_assoc]
theorem Str.add_size (a b : Str) : (a.add b).b.size ≤ 16 := by show (tailB _).size ≤ 16; rw [tailB_size]; omega
theorem Str.cut_size (s : Str) (i j : Nat) : (s.cut i j).b.size = Min.min j s.b.size - i := by simp [Str.cut, ByteArray.size_extract]
structure Eff where
 kind : Int
 val : Str
 deriving DecidableEq
def Eff.cells (e : Eff) : List Value := [.int .i64 e.kind, .string e.val.b]
def Eff.zero : Eff := ⟨0, Str.nil⟩
def optS (has : Bool) (v : Str) : Option Str := if has = true then some v else none
def Eff.apply (e : Eff) (o : Option Str) : Option Str :=
 if e.kind = 1 then some e.val else if e.kind = 3 then none else if e.kind = 2 then some ((o.getD Str.nil).add e.val) else o
def Eff.then (a b : Eff) : Eff :=
 if b.kind = 0 then a else if b.kind ≠ 2 ∨ a.kind = 0 then b else ⟨if a.kind = 2 then 2 else 1, (if a.kind = 3 then Str.nil else a.val).add b.val⟩
def Eff.K (e : Eff) : Prop := 0 ≤ e.kind ∧ e.kind ≤ 3
theorem Eff.zero_apply (o : Option Str) : Eff.zero.apply o = o := rfl
theorem Eff.then_apply {a b : Eff} (ha : a.K) (hb : b.K) (o : Option Str) : (a.then b).apply o = b.apply (a.apply o) := by
 obtain ⟨a1, a2⟩ := ha
 obtain ⟨b1, b2⟩ := hb
 obtain ⟨k, v⟩ := a
 obtain ⟨j, u⟩ := b
 simp only at a1 a2 b1 b2
 have hk : k = 0 ∨ k = 1 ∨ k = 2 ∨ k = 3 := om9
 have hj : j = 0 ∨ j = 1 ∨ j = 2 ∨ j = 3 := om9
 rcases hj with rfl | rfl | rfl | rfl <;> rcases hk with rfl | rfl | rfl | rfl <;> simp [Eff.then, Eff.apply, Str.add_assoc]
theorem Eff.then_K {a b : Eff} (ha : a.K) (hb : b.K) : (a.then b).K := by
 unfold Eff.then
 split
 ·exact ha
 ·split
  ·exact hb
  ·unfold Eff.K; dsimp only; split <;> omega
def Msg.on (m : Msg) (k : Str) : Eff :=
 if m.span.has k = false ∨ m.kind < 1 ∨ 4 < m.kind then Eff.zero else if 3 ≤ m.kind then ⟨3, Str.nil⟩ else ⟨m.kind, m.val⟩
theorem Msg.on_K (m : Msg) (k : Str) : (m.on k).K := by
 unfold Msg.on
 split
 ·exact ⟨by decide, by decide⟩
 ·split
  ·exact ⟨by decide, by decide⟩
  ·constructor <;> dsimp only <;> omega
def onsN (l : List Msg) (k : Str) : Eff := l.foldl (fun e m => e.then (m.on k)) Eff.zero
theorem foldl_apply (k : Str) : ∀ (l : List Msg) (e : Eff) (o : Option Str), e.K → (l.foldl (fun e m => e.then (m.on k)) e).apply o = l.foldl (fun o m => (m.on k).apply o) (e.apply o)
 | [], e, o, h => rfl
 | m :: l, e, o, h => by
  rw [List.foldl_cons, List.foldl_cons, foldl_apply k l _ o (Eff.then_K h (m.on_K k)), Eff.then_apply h (m.on_K k)]
theorem onsN_apply (l : List Msg) (k : Str) (o : Option Str) : (onsN l k).apply o = l.foldl (fun o m => (m.on k).apply o) o := foldl_apply k l _ o ⟨by decide, by decide⟩
def getN (l : List Pair) (k : Str) : Option Str := (l.find? fun p => decide (p.key = k)).map Pair.val
theorem getN_cons (p : Pair) (l : List Pair) (k : Str) : getN (p :: l) k = if p.key = k then some p.val else getN l k := by
 unfold getN; rw [List.find?_cons]; by_cases h : p.key = k <;> simp [h]
theorem getN_append : ∀ (l m : List Pair) (k : Str), getN (l ++ m) k = (getN l k).or (getN m k)
 | [], m, k => by simp [getN]
 | p :: l, m, k => by
  rw [List.cons_append, getN_cons, getN_cons, getN_append l m k]
  split <;> simp
theorem getN_filter (q : Str → Bool) (k : Str) : ∀ (l : List Pair), getN (l.filter fun p => q p.key) k = if q k = true then getN l k else none
 | [] => by simp [getN]
 | p :: l => by
  have ih := getN_filter q k l
  by_cases h : q p.key = true
  ·rw [List.filter_cons_of_pos (p := fun p : Pair => q p.key) h, getN_cons, getN_cons, ih]
   by_cases e : p.key = k
   ·subst e; simp [h]
   ·simp [e]
  ·rw [List.filter_cons_of_neg (p := fun p : Pair => q p.key) h, ih, getN_cons]
   by_cases e : p.key = k
   ·subst e; simp [h]
   ·simp [e]
theorem getN_at {l : List Pair} {i : Nat} (hi : i < l.length) (h : ∀ j (hj : j < l.length), j < i → l[j].key ≠ l[i].key) : getN l l[i].key = some l[i].val := by
 induction l generalizing i with
 | nil => simp at hi
 | cons p l ih =>
  rw [getN_cons]
  cases i with
  | zero => simp
  | succ i =>
   have h0 := h 0 (by simp) om9
   simp only [List.getElem_cons_zero, List.getElem_cons_succ] at h0
   simp only [List.getElem_cons_succ]
   rw [if_neg h0]
   exact ih (by simpa using hi) (fun j hj hji => by have := h (j + 1) (by simpa using hj) om9; simpa using this)
theorem getN_no {l : List Pair} {k : Str} (h : ∀ j (hj : j < l.length), l[j].key ≠ k) : getN l k = none := by
 unfold getN
 rw [Option.map_eq_none_iff, List.find?_eq_none]
 intro p hp
 obtain ⟨j, hj, rfl⟩ := List.getElem_of_mem hp
 simpa using h j hj
def withN (l : List Pair) (k : Str) (e : Eff) : List Pair :=
 (l.filter fun p => p.key.lt k) ++ (match e.apply (getN l k) with | some v => [⟨k, v⟩] | none => []) ++ (l.filter fun p => k.lt p.key)
def takeN (l : List Pair) (m : Msg) : List Pair := if m.kind = 4 then l.filter fun p => !m.span.has p.key else withN l m.key (m.on m.key)
def foldN (l : List Pair) (ms : List Msg) : List Pair := ms.foldl takeN l
def scanN (l : List Pair) (s : Span) (limit : Int) : List Pair := (l.filter fun p => s.has p.key).take limit.toNat
theorem getN_with (l : List Pair) (k : Str) (e : Eff) (k' : Str) : getN (withN l k e) k' = if k' = k then e.apply (getN l k) else getN l k' := by
 unfold withN
 rw [getN_append, getN_append, getN_filter (fun x => x.lt k), getN_filter (fun x => k.lt x)]
 by_cases h : k' = k
 ·subst h
  simp only [Str.lt_irrefl, if_true]
  cases e.apply (getN l k') with
  | none => simp [getN]
  | some v => simp [getN_cons]
 ·rw [if_neg h]
  have hm : getN (match e.apply (getN l k) with | some v => [⟨k, v⟩] | none => []) k' = none := by
   cases e.apply (getN l k) with
   | none => rfl
   | some v => simp only [getN_cons]; rw [if_neg (fun x => h x.symm)]; rfl
  rw [hm]
  cases h1 : k'.lt k
  ·cases h2 : k.lt k'
   ·exact absurd (Str.lt_total h1 h2) h
   ·simp
  ·rw [Str.lt_asymm h1]; simp
theorem next_lt {k x : Str} (hk : k.b.size < 140737488355328) : x.lt k.next = true ↔ k.lt x = false := by
 have e : k.next.b.toList = k.b.toList ++ [0] := by
  rw [Str.next_b hk, ByteArray.toList_eq, ByteArray.toList_eq, app_data]
 show Op.bytesLess x.b.toList k.next.b.toList = true ↔ Op.bytesLess k.b.toList x.b.toList = false
 rw [e]
 generalize k.b.toList = a
 generalize x.b.toList = b
 clear e hk
 induction a generalizing b with
 | nil =>
  cases b with
  | nil => simp [Op.bytesLess]
  | cons y b =>
   simp only [List.nil_append, Op.bytesLess, Bool.or_eq_true, Bool.and_eq_true, decide_eq_true_eq, beq_iff_eq, Bool.true_eq_false, iff_false]
   rintro (h | ⟨_, h⟩)
   ·exact absurd h (by simp)
   ·cases b <;> simp [Op.bytesLess] at h
 | cons z a ih =>
  cases b with
  | nil => simp [Op.bytesLess]
  | cons y b =>
   simp only [List.cons_append, Op.bytesLess, Bool.or_eq_true, Bool.and_eq_true, decide_eq_true_eq, beq_iff_eq, Bool.or_eq_false_iff, Bool.and_eq_false_iff, decide_eq_false_iff_not, beq_eq_false_iff_ne, ih]
   constructor
   ·rintro (h | ⟨rfl, h⟩)
    ·exact ⟨UInt8.not_lt.2 (UInt8.le_of_lt h), .inl (fun e => by subst e; exact absurd h (UInt8.lt_irrefl _))⟩
    ·exact ⟨UInt8.lt_irrefl _, .inr h⟩
   ·rintro ⟨h1, h2⟩
    rcases h2 with h2 | h2
    ·exact .inl (UInt8.lt_of_le_of_ne (UInt8.not_lt.1 h1) (fun e => h2 e.symm))
    ·by_cases e : y = z
     ·exact .inr ⟨e, h2⟩
     ·exact .inl (UInt8.lt_of_le_of_ne (UInt8.not_lt.1 h1) e)
theorem point_has {k x : Str} (hk : k.b.size < 140737488355328) : (Span.has ⟨k, k.next, false⟩ x) = decide (x = k) := by
 rw [Bool.eq_iff_iff]
 simp only [Span.has, Bool.false_or, Bool.and_eq_true, Bool.not_eq_true', decide_eq_true_eq]
 rw [next_lt hk]
 constructor
 ·rintro ⟨h1, h2⟩; exact Str.lt_total h1 h2
 ·rintro rfl; exact ⟨Str.lt_irrefl _, Str.lt_irrefl _⟩
theorem getN_take {l : List Pair} {m : Msg} (hk : m.key.b.size < 140737488355328) (h1 : 1 ≤ m.kind) (h4 : m.kind ≤ 4) (k : Str) : getN (takeN l m) k = (m.on k).apply (getN l k) := by
 unfold takeN
 by_cases h : m.kind = 4
 ·rw [if_pos h, getN_filter (fun x => !m.span.has x)]
  unfold Msg.on
  cases hs : m.span.has k
  ·simp [Eff.zero_apply]
  ·simp [h, Eff.apply]
 ·rw [if_neg h, getN_with]
  have hsp : ∀ x, m.span.has x = decide (x = m.key) := fun x => by rw [Msg.span, if_neg h]; exact point_has hk
  by_cases e : k = m.key
  ·subst e; simp
  ·rw [if_neg e, Msg.on, hsp k]
   simp [e, Eff.zero_apply]
theorem getN_fold {k : Str} : ∀ {ms : List Msg} {l : List Pair}, (∀ m ∈ ms, m.key.b.size < 140737488355328 ∧ 1 ≤ m.kind ∧ m.kind ≤ 4) → getN (foldN l ms) k = (onsN ms k).apply (getN l k) := by
 intro ms
 suffices ∀ l : List Pair, (∀ m ∈ ms, m.key.b.size < 140737488355328 ∧ 1 ≤ m.kind ∧ m.kind ≤ 4) → getN (foldN l ms) k = ms.foldl (fun o m => (m.on k).apply o) (getN l k) from
  fun {l} h => by rw [onsN_apply]; exact this l h
 induction ms with
 | nil => intro l _; rfl
 | cons m ms ih =>
  intro l h
  obtain ⟨h1, h2, h3⟩ := h m (by simp)
  rw [foldN, List.foldl_cons, List.foldl_cons, ← getN_take h1 h2 h3]
  exact ih _ (fun m hm => h m (by simp [hm]))
def Srt (l : List Pair) : Prop := l.Pairwise fun a b => a.key.lt b.key = true
theorem Srt.lt {l : List Pair} (h : Srt l) {i j : Nat} (hij : i < j) (hj : j < l.length) : (l[i]'om9).key.lt l[j].key = true :=
 List.pairwise_iff_getElem.1 h i j om9 hj hij
theorem Srt.of_step {l : List Pair} (h : ∀ i (h : i < l.length), 0 < i → (l[i - 1]'om9).key.lt l[i].key = true) : Srt l := by
 refine List.pairwise_iff_getElem.2 fun i j hi hj hij => ?_
 induction j with
 | zero => omega
 | succ j ih =>
  have h1 := h (j + 1) hj om9
  simp only [Nat.add_sub_cancel] at h1
  by_cases e : i = j
  ·subst e; exact h1
  ·exact Str.lt_trans (ih om9 om9) h1
def Fits (p : Pair) : Prop := p.key.b.size ≤ 16 ∧ p.val.b.size ≤ 16
theorem pairsR_iff {l : List Pair} : PairsR l ↔ (∀ p ∈ l, Fits p) ∧ Srt l := by
 constructor
 ·intro h
  refine ⟨fun p hp => ?_, Srt.of_step fun i hi h0 => (h i hi).2 h0⟩
  obtain ⟨i, hi, rfl⟩ := List.getElem_of_mem hp
  exact (h i hi).1
 ·rintro ⟨h1, h2⟩ i hi
  exact ⟨h1 _ (List.getElem_mem hi), fun h0 => h2.lt om9 hi⟩
def fndN (l : List Pair) (k : Str) : Nat := (l.filter fun p => p.key.lt k).length
theorem fndN_le (l : List Pair) (k : Str) : fndN l k ≤ l.length := List.length_filter_le _ _
theorem fnd_split {l : List Pair} {k : Str} {i : Nat} (hi : i ≤ l.length) (h1 : ∀ j (h : j < l.length), j < i → l[j].key.lt k = true) (h2 : ∀ j (h : j < l.length), i ≤ j → l[j].key.lt k = false) :
  (l.filter fun p => p.key.lt k) = l.take i := by
 have e : l = l.take i ++ l.drop i := (List.take_append_drop i l).symm
 rw [show (l.filter fun p => p.key.lt k) = (l.take i ++ l.drop i).filter (fun p => p.key.lt k) from by rw [← e], List.filter_append]
 have f1 : (l.take i).filter (fun p => p.key.lt k) = l.take i := by
  rw [List.filter_eq_self]
  intro a ha
  obtain ⟨j, hj, rfl⟩ := List.getElem_of_mem ha
  simp only [List.length_take] at hj
  rw [List.getElem_take, h1 j om9 om9]
 have f2 : (l.drop i).filter (fun p => p.key.lt k) = [] := by
  rw [List.filter_eq_nil_iff]
  intro a ha
  obtain ⟨j, hj, rfl⟩ := List.getElem_of_mem ha
  simp only [List.length_drop] at hj
  rw [List.getElem_drop, h2 (i + j) om9 om9]; simp
 rw [f1, f2, List.append_nil]
theorem fnd_eq {l : List Pair} {k : Str} {i : Nat} (hi : i ≤ l.length) (h1 : ∀ j (h : j < l.length), j < i → l[j].key.lt k = true) (h2 : ∀ j (h : j < l.length), i ≤ j → l[j].key.lt k = false) : fndN l k = i := by
 unfold fndN; rw [fnd_split hi h1 h2]; simp [hi]
theorem Srt.below {l : List Pair} (hr : Srt l) {m : Nat} (hm : m < l.length) {k : Str} (h : l[m].key.lt k = true) (q : Nat) (hq : q < l.length) (hqm : q < m + 1) : l[q].key.lt k = true := by
 by_cases e : q = m
 ·subst e; exact h
 ·exact Str.lt_trans (hr.lt om9 hm) h
theorem Srt.above {l : List Pair} (hr : Srt l) {m : Nat} (hm : m < l.length) {k : Str} (h : l[m].key.lt k = false) (q : Nat) (hq : q < l.length) (hqm : m ≤ q) : l[q].key.lt k = false := by
 by_cases e : q = m
 ·subst e; exact h
 ·cases h1 : l[q].key.lt k
  ·rfl
  ·rw [Str.lt_trans (hr.lt om9 hq) h1] at h; cases h
theorem Srt.fnd {l : List Pair} (hr : Srt l) (k : Str) : (∀ j (h : j < l.length), j < fndN l k → l[j].key.lt k = true) ∧ (∀ j (h : j < l.length), fndN l k ≤ j → l[j].key.lt k = false) := by
 suffices ∃ i, i ≤ l.length ∧ (∀ j (h : j < l.length), j < i → l[j].key.lt k = true) ∧ (∀ j (h : j < l.length), i ≤ j → l[j].key.lt k = false) by
  obtain ⟨i, h0, h1, h2⟩ := this
  rw [fnd_eq h0 h1 h2]; exact ⟨h1, h2⟩
 induction l with
 | nil => exact ⟨0, by simp, fun j h => by simp at h, fun j h => by simp at h⟩
 | cons p l ih =>
  have hr' : Srt l := (List.pairwise_cons.1 hr).2
  cases hp : p.key.lt k
  ·exact ⟨0, by simp, fun j _ h => by omega, fun j h _ => hr.above (m := 0) (by simp) (by simpa using hp) j h om9⟩
  ·obtain ⟨i, h0, h1, h2⟩ := ih hr'
   refine ⟨i + 1, by simp; omega, fun j h hj => ?_, fun j h hj => ?_⟩
   ·cases j with
    | zero => simpa using hp
    | succ j => simpa using h1 j (by simpa using h) om9
   ·cases j with
    | zero => omega
    | succ j => simpa using h2 j (by simpa using h) om9
theorem Srt.get {l : List Pair} (hr : Srt l) {i : Nat} (hi : i < l.length) : getN l l[i].key = some l[i].val :=
 getN_at hi fun j hj hji e => by have := hr.lt hji hi; rw [e, Str.lt_irrefl] at this; cases this
theorem Srt.has {l : List Pair} (hr : Srt l) (k : Str) : (getN l k).isSome = decide (∃ h : fndN l k < l.length, l[fndN l k].key = k) := by
 rw [Bool.eq_iff_iff, decide_eq_true_iff]
 constructor
 ·intro h
  have hf := hr.fnd k
  have hex : ∃ j, ∃ hj : j < l.length, l[j].key = k := by
   refine Decidable.byContradiction fun hc => ?_
   rw [getN_no (fun j hj e => hc ⟨j, hj, e⟩)] at h
   cases h
  obtain ⟨j, hj, e⟩ := hex
  have h1 : fndN l k ≤ j := by
   rcases Nat.lt_or_ge j (fndN l k) with h2 | h2
   ·have := hf.1 j hj h2; rw [e, Str.lt_irrefl] at this; cases this
   ·exact h2
  by_cases h3 : fndN l k = j
  ·exact ⟨om9, by simp only [h3]; exact e⟩
  ·have h4 := hr.lt (i := fndN l k) (j := j) om9 hj
   rw [e, hf.2 _ om9 (Nat.le_refl _)] at h4; cases h4
 ·rintro ⟨h, e⟩
  have := hr.get h
  rw [e] at this
  rw [this]; rfl
theorem Srt.val {l : List Pair} (hr : Srt l) {k : Str} (h : fndN l k < l.length) (e : l[fndN l k].key = k) : getN l k = some l[fndN l k].val := by
 have := hr.get h; rwa [e] at this
theorem Srt.front {l : List Pair} (hr : Srt l) (k : Str) : (l.filter fun p => p.key.lt k) = l.take (fndN l k) := fnd_split (fndN_le l k) (hr.fnd k).1 (hr.fnd k).2
theorem Srt.back {l : List Pair} (hr : Srt l) {k : Str} {i : Nat} (hi : i ≤ l.length) (h1 : ∀ j (h : j < l.length), j < i → k.lt l[j].key = false) (h2 : ∀ j (h : j < l.length), i ≤ j → k.lt l[j].key = true) : (l.filter fun p => k.lt p.key) = l.drop i := by
 have e : l = l.take i ++ l.drop i := (List.take_append_drop i l).symm
 rw [show (l.filter fun p => k.lt p.key) = (l.take i ++ l.drop i).filter (fun p => k.lt p.key) from by rw [← e], List.filter_append]
 have f1 : (l.take i).filter (fun p => k.lt p.key) = [] := by
  rw [List.filter_eq_nil_iff]
  intro a ha
  obtain ⟨j, hj, rfl⟩ := List.getElem_of_mem ha
  simp only [List.length_take] at hj
  rw [List.getElem_take, h1 j om9 om9]; simp
 have f2 : (l.drop i).filter (fun p => k.lt p.key) = l.drop i := by
  rw [List.filter_eq_self]
  intro a ha
  obtain ⟨j, hj, rfl⟩ := List.getElem_of_mem ha
  simp only [List.length_drop] at hj
  rw [List.getElem_drop, h2 (i + j) om9 om9]
 rw [f1, f2, List.nil_append]
theorem Srt.back_no {l : List Pair} (hr : Srt l) {k : Str} (h : (getN l k).isSome = false) : (l.filter fun p => k.lt p.key) = l.drop (fndN l k) := by
 rw [hr.has k] at h
 have h := of_decide_eq_false h
 have hf := hr.fnd k
 refine hr.back (fndN_le l k) (fun j hj hji => Str.lt_asymm (hf.1 j hj hji)) (fun j hj hij => ?_)
 cases h1 : k.lt l[j].key
 ·have h2 : l[j].key = k := Str.lt_total (hf.2 j hj hij) h1
  by_cases e : j = fndN l k
  ·subst e; exact absurd ⟨hj, h2⟩ h
  ·have h3 := hr.lt (i := fndN l k) (j := j) om9 hj
   rw [h2, hf.2 _ om9 (Nat.le_refl _)] at h3; cases h3
 ·rfl
theorem Srt.back_yes {l : List Pair} (hr : Srt l) {k : Str} (hi : fndN l k < l.length) (e : l[fndN l k].key = k) : (l.filter fun p => k.lt p.key) = l.drop (fndN l k + 1) := by
 have hf := hr.fnd k
 refine hr.back om9 (fun j hj hji => ?_) (fun j hj hij => ?_)
 ·by_cases e2 : j = fndN l k
  ·subst e2; rw [e]; exact Str.lt_irrefl _
  ·exact Str.lt_asymm (hf.1 j hj om9)
 ·have h3 := hr.lt (i := fndN l k) (j := j) om9 hj
  rwa [e] at h3
theorem with_set {l : List Pair} (hr : Srt l) {k : Str} {e : Eff} {v : Str} (hi : fndN l k < l.length) (hk : l[fndN l k].key = k) (hv : e.apply (getN l k) = some v) : l.set (fndN l k) ⟨l[fndN l k].key, v⟩ = withN l k e := by
 unfold withN
 rw [hv, hr.front, hr.back_yes hi hk, List.set_eq_take_append_cons_drop, if_pos hi, hk]
 simp
theorem with_ins {l : List Pair} (hr : Srt l) {k : Str} {e : Eff} {v : Str} (hn : (getN l k).isSome = false) (hv : e.apply (getN l k) = some v) : l.take (fndN l k) ++ [⟨k, v⟩] ++ l.drop (fndN l k) = withN l k e := by
 unfold withN
 rw [hv, hr.front, hr.back_no hn]
theorem with_del {l : List Pair} (hr : Srt l) {k : Str} {e : Eff} (hi : fndN l k < l.length) (hk : l[fndN l k].key = k) (hv : e.apply (getN l k) = none) : l.take (fndN l k) ++ l.drop (fndN l k + 1) = withN l k e := by
 unfold withN
 rw [hv, hr.front, hr.back_yes hi hk]; simp
theorem with_not {l : List Pair} (hr : Srt l) {k : Str} {e : Eff} (hn : (getN l k).isSome = false) (hv : e.apply (getN l k) = none) : l = withN l k e := by
 unfold withN
 rw [hv, hr.front, hr.back_no hn]; simp
theorem Srt.filter {l : List Pair} (h : Srt l) (p : Pair → Bool) : Srt (l.filter p) := List.Pairwise.filter p h
theorem Srt.with {l : List Pair} (h : Srt l) (k : Str) (e : Eff) : Srt (withN l k e) := by
 unfold withN Srt
 have ha : ∀ a ∈ l.filter (fun p => p.key.lt k), a.key.lt k = true := fun a ha => (List.mem_filter.1 ha).2
 have hb : ∀ b ∈ l.filter (fun p => k.lt p.key), k.lt b.key = true := fun b hb => (List.mem_filter.1 hb).2
 have hm : ∀ m ∈ (match e.apply (getN l k) with | some v => [(⟨k, v⟩ : Pair)] | none => []), m.key = k := fun m hm => by
  cases h1 : e.apply (getN l k) with
  | none => rw [h1] at hm; cases hm
  | some v => rw [h1] at hm; simp only [List.mem_singleton] at hm; rw [hm]
 refine List.pairwise_append.2 ⟨List.pairwise_append.2 ⟨h.filter _, ?_, fun a h1 m h2 => by rw [hm m h2]; exact ha a h1⟩, h.filter _, fun a h1 b h2 => ?_⟩
 ·cases e.apply (getN l k) <;> simp
 ·rcases List.mem_append.1 h1 with h1 | h1
  ·exact Str.lt_trans (ha a h1) (hb b h2)
  ·rw [hm a h1]; exact hb b h2
theorem getN_mem {l : List Pair} {k v : Str} (h : getN l k = some v) : ⟨k, v⟩ ∈ l := by
 unfold getN at h
 obtain ⟨p, hp, e⟩ := Option.map_eq_some_iff.1 h
 have h1 := List.mem_of_find?_eq_some hp
 have h2 := List.find?_some hp
 have h3 : p.key = k := of_decide_eq_true h2
 subst h3; subst e; exact h1
theorem fits_with {l : List Pair} {k : Str} {e : Eff} (h : ∀ p ∈ l, Fits p) (hk : k.b.size ≤ 16) (he : e.val.b.size ≤ 16) : ∀ p ∈ withN l k e, Fits p := by
 intro p hp
 unfold withN at hp
 rcases List.mem_append.1 hp with hp | hp
 ·rcases List.mem_append.1 hp with hp | hp
  ·exact h p (List.mem_filter.1 hp).1
  ·cases hv : e.apply (getN l k) with
   | none => rw [hv] at hp; cases hp
   | some v =>
    rw [hv] at hp
    simp only [List.mem_singleton] at hp
    subst hp
    refine ⟨hk, ?_⟩
    show v.b.size ≤ 16
    unfold Eff.apply at hv
    split at hv
    ·cases hv; exact he
    ·split at hv
     ·cases hv
     ·split at hv
      ·cases hv; exact Str.add_size _ _
      ·exact (h _ (getN_mem hv)).2
 ·exact h p (List.mem_filter.1 hp).1
theorem on_val {m : Msg} (k : Str) (h : m.val.b.size ≤ 16) : (m.on k).val.b.size ≤ 16 := by
 unfold Msg.on
 split
 ·show (ByteArray.mk #[]).size ≤ 16; decide
 ·split
  ·show (ByteArray.mk #[]).size ≤ 16; decide
  ·exact h
theorem PairsR.with {l : List Pair} {k : Str} {e : Eff} (h : PairsR l) (hk : k.b.size ≤ 16) (he : e.val.b.size ≤ 16) : PairsR (withN l k e) := by
 obtain ⟨h1, h2⟩ := pairsR_iff.1 h
 exact pairsR_iff.2 ⟨fits_with h1 hk he, h2.with k e⟩
theorem PairsR.filter {l : List Pair} (h : PairsR l) (p : Pair → Bool) : PairsR (l.filter p) := by
 obtain ⟨h1, h2⟩ := pairsR_iff.1 h
 exact pairsR_iff.2 ⟨fun a ha => h1 a (List.mem_filter.1 ha).1, h2.filter p⟩
theorem PairsR.takeM {l : List Pair} {m : Msg} (h : PairsR l) (hk : m.key.b.size ≤ 16) (he : m.val.b.size ≤ 16) : PairsR (takeN l m) := by
 unfold takeN
 split
 ·exact h.filter _
 ·exact h.with hk (on_val _ he)
theorem PairsR.fold {ms : List Msg} : ∀ {l : List Pair}, PairsR l → (∀ m ∈ ms, m.key.b.size ≤ 16 ∧ m.val.b.size ≤ 16) → PairsR (foldN l ms) := by
 induction ms with
 | nil => exact fun h _ => h
 | cons m ms ih => exact fun h hm => ih (h.takeM (hm m (by simp)).1 (hm m (by simp)).2) (fun m h => hm m (by simp [h]))
theorem PairsR.srt {l : List Pair} (h : PairsR l) : Srt l := (pairsR_iff.1 h).2
theorem with_len (l : List Pair) (k : Str) (e : Eff) : (withN l k e).length ≤ 2 * l.length + 1 := by
 unfold withN
 have h1 := List.length_filter_le (fun p : Pair => p.key.lt k) l
 have h2 := List.length_filter_le (fun p : Pair => k.lt p.key) l
 cases e.apply (getN l k) <;> simp <;> omega
theorem Srt.with_len {l : List Pair} (hr : Srt l) (k : Str) (e : Eff) : (withN l k e).length ≤ l.length + 1 := by
 unfold withN
 rw [hr.front]
 cases h : (getN l k).isSome
 ·rw [hr.back_no h]
  cases e.apply (getN l k) <;> simp <;> omega
 ·rw [hr.has k] at h
  obtain ⟨h1, h2⟩ := of_decide_eq_true h
  rw [hr.back_yes h1 h2]
  cases e.apply (getN l k) <;> simp <;> omega
theorem PairsR.take_len {l : List Pair} (h : PairsR l) (m : Msg) : (takeN l m).length ≤ l.length + 1 := by
 unfold takeN
 split
 ·have := List.length_filter_le (fun p : Pair => !m.span.has p.key) l; omega
 ·exact h.srt.with_len _ _
theorem filt_t {α : Type} {p : α → Bool} {l : List α} {i : Nat} (hi : i < l.length) (h : p l[i] = true) : (l.take (i + 1)).filter p = (l.take i).filter p ++ [l[i]] := by
 rw [List.take_succ_eq_append_getElem hi, List.filter_append]; simp [h]
theorem filt_f {α : Type} {p : α → Bool} {l : List α} {i : Nat} (hi : i < l.length) (h : p l[i] = false) : (l.take (i + 1)).filter p = (l.take i).filter p := by
 rw [List.take_succ_eq_append_getElem hi, List.filter_append]; simp [h]
theorem filt_le {α : Type} (p : α → Bool) (l : List α) (i : Nat) : ((l.take i).filter p).length ≤ l.length := by
 have := List.length_filter_le p (l.take i); rw [List.length_take] at this; omega
def midN (o : Option Str) (k : Str) : List Pair := match o with | some v => [⟨k, v⟩] | none => []
theorem midN_some {o : Option Str} {k : Str} (h : o.isSome = true) : midN o k = [⟨k, o.getD Str.nil⟩] := by cases o <;> simp_all [midN]
theorem withN_mid (l : List Pair) (k : Str) (e : Eff) : withN l k e = (l.filter fun p => p.key.lt k) ++ midN (e.apply (getN l k)) k ++ (l.filter fun p => k.lt p.key) := by
 unfold withN midN; cases e.apply (getN l k) <;> rfl
theorem foldN_succ {l : List Pair} {ms : List Msg} {k : Nat} (h : k < ms.length) : foldN l (ms.take (k + 1)) = takeN (foldN l (ms.take k)) ms[k] := by
 rw [List.take_succ_eq_append_getElem h, foldN, List.foldl_append]; rfl
theorem PairsR.val {l : List Pair} (h : PairsR l) (k : Str) : ((getN l k).getD Str.nil).b.size ≤ 16 := by
 cases hg : getN l k with
 | none => show (ByteArray.mk #[]).size ≤ _; decide
 | some v => exact ((pairsR_iff.1 h).1 _ (getN_mem hg)).2
theorem MsgsR.kinds {l : List Msg} (h : MsgsR l) : ∀ m ∈ l, 1 ≤ m.kind ∧ m.kind ≤ 4 := fun m hm => by
 obtain ⟨i, hi, rfl⟩ := List.getElem_of_mem hm
 have h1 := (h i hi).1
 unfold Msg.R at h1
 grind
def cmpN (a b : Str) : Int := if a.lt b = true then -1 else if b.lt a = true then 1 else 0
theorem cmpN_neg {a b : Str} : cmpN a b < 0 ↔ a.lt b = true := by
 unfold cmpN; split
 ·simp_all
 ·split <;> simp_all
theorem cmpN_zero {a b : Str} : cmpN a b = 0 ↔ a = b := by
 unfold cmpN; split
 ·rename_i h; simp only [Int.reduceNeg, Int.reduceEq, false_iff]; rintro rfl; rw [Str.lt_irrefl] at h; cases h
 ·rename_i h; split
  ·rename_i h2; simp only [Int.reduceEq, false_iff]; rintro rfl; rw [Str.lt_irrefl] at h2; cases h2
  ·rename_i h2; simp only [true_iff]; exact Str.lt_total (by simpa using h) (by simpa using h2)
theorem cmpN_zero_d {a b : Str} : decide (cmpN a b = 0) = decide (a = b) := decide_eq_decide.2 cmpN_zero
theorem cmpN_nn {a b : Str} (h : ¬ cmpN a b < 0) : a.lt b = false := by
 cases h1 : a.lt b
 ·rfl
 ·exact absurd (cmpN_neg.2 h1) h
end Go.Fw
namespace Go.Fw
section
variable {α : Type} [Inhabited α]
def nth (l : List α) (k : Nat) : α := l.getD k default
theorem nth_lt {l : List α} {k : Nat} (h : k < l.length) : nth l k = l[k] := by simp [nth, List.getD, List.getElem?_eq_getElem h]
def swapL (l : List α) (i j : Nat) : List α := (l.set i (nth l j)).set j (nth l i)
theorem swapL_length (l : List α) (i j : Nat) : (swapL l i j).length = l.length := by simp [swapL]
theorem nth_set {l : List α} {i k : Nat} {a : α} (h : i < l.length) : nth (l.set i a) k = if k = i then a else nth l k := by
 simp only [nth, List.getD, List.getElem?_set]
 by_cases e : i = k
 ·subst e; simp [h]
 ·rw [if_neg e, if_neg (fun x => e x.symm)]
theorem nth_swap {l : List α} {i j : Nat} (hi : i < l.length) (hj : j < l.length) (k : Nat) : nth (swapL l i j) k = if k = j then nth l i else if k = i then nth l j else nth l k := by
 rw [swapL, nth_set (by simpa using hj), nth_set hi]
theorem swapL_perm {l : List α} {i j : Nat} (hi : i < l.length) (hj : j < l.length) : (swapL l i j).Perm l := by
 have h := Array.swap_perm (xs := l.toArray) (i := i) (j := j) (by simpa using hi) (by simpa using hj)
 rw [Array.perm_iff_toList_perm] at h
 simpa [swapL, nth_lt hi, nth_lt hj, Array.swap_def] using h
structure LO (lt : α → α → Bool) : Prop where
 asymm : ∀ {a b}, lt a b = true → lt b a = false
 trans : ∀ {a b c}, lt b a = false → lt c b = false → lt c a = false
variable {lt : α → α → Bool}
theorem LO.irrefl (h : LO lt) (a : α) : lt a a = false := by
 cases e : lt a a
 ·rfl
 ·exact e.symm.trans (h.asymm e)
def HeapF (lt : α → α → Bool) (l : List α) (n s : Nat) : Prop := ∀ c, 0 < c → c < n → s ≤ (c - 1) / 2 → lt (nth l c) (nth l ((c - 1) / 2)) = false
abbrev Heap (lt : α → α → Bool) (l : List α) : Prop := HeapF lt l l.length 0
def upL (lt : α → α → Bool) : Nat → List α → Nat → List α
 | 0, l, _ => l
 | f + 1, l, j => if (j - 1) / 2 = j ∨ lt (nth l j) (nth l ((j - 1) / 2)) = false then l else upL lt f (swapL l ((j - 1) / 2) j) ((j - 1) / 2)
theorem upL_perm : ∀ (f : Nat) (l : List α) (j : Nat), j < l.length → (upL lt f l j).Perm l
 | 0, _, _, _ => List.Perm.refl _
 | f + 1, l, j, h => by
  unfold upL; split
  ·exact List.Perm.refl _
  ·exact (upL_perm f _ _ (by rw [swapL_length]; omega)).trans (swapL_perm om9 h)
def UpI (lt : α → α → Bool) (l : List α) (n j : Nat) : Prop :=
 (∀ c, 0 < c → c < n → c ≠ j → lt (nth l c) (nth l ((c - 1) / 2)) = false) ∧ (∀ c, 0 < c → c < n → (c - 1) / 2 = j → 0 < j → lt (nth l c) (nth l ((j - 1) / 2)) = false)
theorem upL_heap (ho : LO lt) : ∀ (f : Nat) (l : List α) (j n : Nat), UpI lt l n j → j < n → n ≤ l.length → j ≤ f → HeapF lt (upL lt f l j) n 0
 | 0, l, j, n, h, hj, hn, hf => fun c h0 hc _ => h.1 c h0 hc om9
 | f + 1, l, j, n, h, hj, hn, hf => by
  unfold upL
  split
  ·rename_i hs
   intro c h0 hc _
   by_cases e : c = j
   ·subst e
    rcases hs with hs | hs
    ·omega
    ·exact hs
   ·exact h.1 c h0 hc e
  ·rename_i hs
   have hs1 : ¬ (j - 1) / 2 = j := fun x => hs (.inl x)
   have hs2 : lt (nth l j) (nth l ((j - 1) / 2)) = true := by cases e : lt (nth l j) (nth l ((j - 1) / 2)) with | false => exact absurd (.inr e) hs | true => rfl
   have hj0 : 0 < j := om9
   have hp : (j - 1) / 2 < j := om9
   refine upL_heap ho f _ _ n ⟨fun c h0 hc hne => ?_, fun c h0 hc hpc hp0 => ?_⟩ om9 (by rw [swapL_length]; exact hn) om9
   ·rw [nth_swap om9 om9, nth_swap om9 om9]
    by_cases e : c = j
    ·subst e
     rw [if_pos rfl, if_neg om9, if_pos rfl]
     exact ho.asymm hs2
    ·rw [if_neg e, if_neg hne]
     by_cases e1 : (c - 1) / 2 = j
     ·rw [if_pos e1]; exact h.2 c h0 hc e1 hj0
     ·rw [if_neg e1]
      by_cases e2 : (c - 1) / 2 = (j - 1) / 2
      ·rw [if_pos e2]
       have := h.1 c h0 hc e
       rw [e2] at this
       exact ho.trans (ho.asymm hs2) this
      ·rw [if_neg e2]; exact h.1 c h0 hc e
   ·have hg := h.1 ((j - 1) / 2) hp0 om9 om9
    rw [nth_swap om9 om9, nth_swap om9 om9]
    rw [if_neg (by omega : ¬ ((j - 1) / 2 - 1) / 2 = j), if_neg (by omega : ¬ ((j - 1) / 2 - 1) / 2 = (j - 1) / 2)]
    by_cases e : c = j
    ·rw [if_pos e]; exact hg
    ·rw [if_neg e, if_neg om9]
     have := h.1 c h0 hc e
     rw [hpc] at this
     exact ho.trans hg this
def kidJ (lt : α → α → Bool) (l : List α) (i n : Nat) : Nat := if 2 * i + 2 < n ∧ lt (nth l (2 * i + 2)) (nth l (2 * i + 1)) = true then 2 * i + 2 else 2 * i + 1
def downL (lt : α → α → Bool) : Nat → List α → Nat → Nat → List α
 | 0, l, _, _ => l
 | f + 1, l, i, n => if n ≤ 2 * i + 1 then l else if lt (nth l (kidJ lt l i n)) (nth l i) = false then l else downL lt f (swapL l i (kidJ lt l i n)) (kidJ lt l i n) n
theorem kidJ_lt {l : List α} {i n : Nat} (h : ¬ n ≤ 2 * i + 1) : kidJ lt l i n < n ∧ i < kidJ lt l i n ∧ (kidJ lt l i n - 1) / 2 = i ∧ kidJ lt l i n ≤ 2 * i + 2 ∧ 2 * i + 1 ≤ kidJ lt l i n := by
 unfold kidJ; split <;> omega
theorem downL_length : ∀ (f : Nat) (l : List α) (i n : Nat), (downL lt f l i n).length = l.length
 | 0, _, _, _ => rfl
 | f + 1, l, i, n => by
  unfold downL; split
  ·rfl
  ·split
   ·rfl
   ·rw [downL_length f, swapL_length]
theorem downL_perm : ∀ (f : Nat) (l : List α) (i n : Nat), n ≤ l.length → (downL lt f l i n).Perm l
 | 0, _, _, _, _ => List.Perm.refl _
 | f + 1, l, i, n, h => by
  unfold downL; split
  ·exact List.Perm.refl _
  ·rename_i h1
   split
   ·exact List.Perm.refl _
   ·have := kidJ_lt (lt := lt) (l := l) h1
    exact (downL_perm f _ _ n (by rw [swapL_length]; exact h)).trans (swapL_perm om9 om9)
theorem downL_above : ∀ (f : Nat) (l : List α) (i n k : Nat), n ≤ l.length → n ≤ k → nth (downL lt f l i n) k = nth l k
 | 0, _, _, _, _, _, _ => rfl
 | f + 1, l, i, n, k, h, hk => by
  unfold downL; split
  ·rfl
  ·rename_i h1
   split
   ·rfl
   ·have := kidJ_lt (lt := lt) (l := l) h1
    rw [downL_above f _ _ n k (by rw [swapL_length]; exact h) hk, nth_swap om9 om9, if_neg om9, if_neg om9]
def DownI (lt : α → α → Bool) (l : List α) (n s i : Nat) : Prop :=
 (∀ c, 0 < c → c < n → s ≤ (c - 1) / 2 → (c - 1) / 2 ≠ i → lt (nth l c) (nth l ((c - 1) / 2)) = false) ∧ (∀ c, 0 < c → c < n → (c - 1) / 2 = i → 0 < i → s ≤ (i - 1) / 2 → lt (nth l c) (nth l ((i - 1) / 2)) = false)
theorem downL_heap (ho : LO lt) : ∀ (f : Nat) (l : List α) (i n s : Nat), DownI lt l n s i → s ≤ i → n ≤ l.length → n ≤ i + f → HeapF lt (downL lt f l i n) n s
 | 0, l, i, n, s, h, hs, hn, hf => fun c h0 hc h1 => h.1 c h0 hc h1 om9
 | f + 1, l, i, n, s, h, hs, hn, hf => by
  unfold downL
  split
  ·exact fun c h0 hc h1 => h.1 c h0 hc h1 om9
  ·rename_i h1
   obtain ⟨k1, k2, k3, k4, k5⟩ := kidJ_lt (lt := lt) (l := l) h1
   have hk : ∀ c, 0 < c → c < n → (c - 1) / 2 = i → lt (nth l c) (nth l (kidJ lt l i n)) = false := fun c h0 hc hp => by
    have hc2 : c = 2 * i + 1 ∨ c = 2 * i + 2 := om9
    unfold kidJ
    by_cases hb : 2 * i + 2 < n ∧ lt (nth l (2 * i + 2)) (nth l (2 * i + 1)) = true
    ·rw [if_pos hb]
     rcases hc2 with rfl | rfl
     ·exact ho.asymm hb.2
     ·exact ho.irrefl _
    ·rw [if_neg hb]
     rcases hc2 with rfl | rfl
     ·exact ho.irrefl _
     ·cases e : lt (nth l (2 * i + 2)) (nth l (2 * i + 1)) with
      | false => rfl
      | true => exact absurd ⟨hc, e⟩ hb
   split
   ·rename_i h2
    intro c h0 hc h3
    by_cases e : (c - 1) / 2 = i
    ·rw [e]; exact ho.trans h2 (hk c h0 hc e)
    ·exact h.1 c h0 hc h3 e
   ·rename_i h2
    have h2 : lt (nth l (kidJ lt l i n)) (nth l i) = true := by cases e : lt (nth l (kidJ lt l i n)) (nth l i) with | false => exact absurd e h2 | true => rfl
    generalize hj : kidJ lt l i n = j at *
    refine downL_heap ho f _ j n s ⟨fun c h0 hc h3 h4 => ?_, fun c h0 hc hp hj0 h3 => ?_⟩ om9 (by rw [swapL_length]; exact hn) om9
    ·rw [nth_swap om9 om9, nth_swap om9 om9, if_neg h4]
     by_cases e : (c - 1) / 2 = i
     ·rw [if_pos e]
      by_cases e2 : c = j
      ·rw [if_pos e2]; exact ho.asymm h2
      ·rw [if_neg e2, if_neg om9]; exact hk c h0 hc e
     ·rw [if_neg e]
      have hcj : c ≠ j := fun x => e (by rw [x]; exact k3)
      rw [if_neg hcj]
      by_cases e3 : c = i
      ·rw [if_pos e3]
       subst e3
       exact h.2 j om9 k1 k3 h0 h3
      ·rw [if_neg e3]; exact h.1 c h0 hc h3 e
    ·rw [nth_swap om9 om9, nth_swap om9 om9, if_neg om9, if_neg om9, k3, if_neg om9, if_pos rfl]
     have := h.1 c h0 hc om9 om9
     rwa [hp] at this
theorem heap_min (ho : LO lt) {l : List α} {n : Nat} (h : HeapF lt l n 0) : ∀ (c : Nat), c < n → lt (nth l c) (nth l 0) = false
 | 0, _ => ho.irrefl _
 | c + 1, hc => by
  have h1 := h (c + 1) om9 hc om9
  have h2 := heap_min ho h ((c + 1 - 1) / 2) om9
  exact ho.trans h2 h1
termination_by c => c
def pushL (lt : α → α → Bool) (l : List α) (x : α) : List α := upL lt l.length (l ++ [x]) l.length
def popL (lt : α → α → Bool) (l : List α) : List α := (downL lt l.length (swapL l 0 (l.length - 1)) 0 (l.length - 1)).take (l.length - 1)
theorem nth_append_l {l m : List α} {k : Nat} (h : k < l.length) : nth (l ++ m) k = nth l k := by simp [nth, List.getD, List.getElem?_append_left h]
theorem nth_take {l : List α} {n k : Nat} (h : k < n) : nth (l.take n) k = nth l k := by simp [nth, List.getD, List.getElem?_take, h]
theorem push_heap (ho : LO lt) {l : List α} (h : Heap lt l) (x : α) : Heap lt (pushL lt l x) ∧ (pushL lt l x).Perm (x :: l) := by
 have hp : (pushL lt l x).Perm (l ++ [x]) := upL_perm _ _ _ (by simp)
 refine ⟨?_, hp.trans (List.perm_append_singleton _ _)⟩
 have hl : (pushL lt l x).length = l.length + 1 := by rw [hp.length_eq]; simp
 unfold Heap
 rw [hl]
 refine upL_heap ho _ _ _ _ ⟨fun c h0 hc hne => ?_, fun c h0 hc hp hj => by omega⟩ om9 (by simp) (Nat.le_refl _)
 rw [nth_append_l om9, nth_append_l om9]
 exact h c h0 om9 om9
theorem pop_heap (ho : LO lt) {l : List α} (h : Heap lt l) (hl : 0 < l.length) : Heap lt (popL lt l) ∧ (nth l 0 :: popL lt l).Perm l ∧ (popL lt l).length = l.length - 1 := by
 have hd : (downL lt l.length (swapL l 0 (l.length - 1)) 0 (l.length - 1)).length = l.length := by rw [downL_length, swapL_length]
 have hlen : (popL lt l).length = l.length - 1 := by unfold popL; rw [List.length_take, hd]; omega
 refine ⟨?_, ?_, hlen⟩
 ·unfold Heap
  rw [hlen]
  intro c h0 hc h1
  unfold popL
  rw [nth_take hc, nth_take om9]
  refine downL_heap ho l.length _ 0 (l.length - 1) 0 ⟨fun c h0 hc _ hne => ?_, fun c _ _ _ h0 => by omega⟩ (Nat.le_refl _) (by rw [swapL_length]; omega) om9 c h0 hc h1
  rw [nth_swap om9 om9, nth_swap om9 om9, if_neg om9, if_neg om9, if_neg om9, if_neg hne]
  exact h c h0 om9 om9
 ·have hp : (downL lt l.length (swapL l 0 (l.length - 1)) 0 (l.length - 1)).Perm l :=
   (downL_perm _ _ _ _ (by rw [swapL_length]; omega)).trans (swapL_perm om9 om9)
  have hlast : nth (downL lt l.length (swapL l 0 (l.length - 1)) 0 (l.length - 1)) (l.length - 1) = nth l 0 := by
   rw [downL_above _ _ _ _ _ (by rw [swapL_length]; omega) (Nat.le_refl _), nth_swap om9 om9, if_pos rfl]
  refine List.Perm.trans ?_ hp
  generalize hm : downL lt l.length (swapL l 0 (l.length - 1)) 0 (l.length - 1) = m at *
  have e : m = m.take (l.length - 1) ++ [nth l 0] := by
   conv => lhs; rw [← List.take_append_drop (l.length - 1) m]
   congr 1
   rw [List.drop_eq_getElem_cons om9, List.drop_eq_nil_of_le om9, ← hlast, nth_lt om9]
  unfold popL
  rw [hm]
  conv => rhs; rw [e]
  exact (List.perm_append_singleton _ _).symm
end
end Go.Fw
namespace Go.Fw
open Go Go.RowKit
def eSpan : Enc Span where
 k := 3
 w := 40
 R := fun _ cs s => cs = [.string s.lo.b, .string s.hi.b, .bool s.opn]
 mono := fun _ h => h
 len := fun h => by rw [h]; rfl
 one := fun h u hu => by rw [h] at hu; simp at hu; rcases hu with rfl | rfl | rfl <;> rfl
def eEff : Enc Eff where
 k := 2
 w := 24
 R := fun _ cs e => cs = [.int .i64 e.kind, .string e.val.b] ∧ i64 e.kind
 mono := fun _ h => h
 len := fun h => by rw [h.1]; rfl
 one := fun h u hu => by rw [h.1] at hu; simp at hu; rcases hu with rfl | rfl <;> rfl
end Go.Fw
