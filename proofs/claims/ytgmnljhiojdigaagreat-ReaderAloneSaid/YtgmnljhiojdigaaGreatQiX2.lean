/- Data, arguments, and more rules of the calculus. Nothing of the program is named here. No condition. -/
import Derived.ProofKit
import Derived.SizedLaws
import Derived.Carry
import Derived.Laws.CopyRow
import Derived.Lib.Overlaps
import Derived.Lib.AppendZerosOnto
import Derived.Laws.MakeOwn
import Derived.Test.YtgmnljhiojdigaaGreatQiX1
set_option linter.unusedVariables false
set_option linter.unusedSimpArgs false
set_option linter.unnecessarySimpa false
set_option linter.unusedSectionVars false

namespace Go.Fw
open Go Go.RowKit
variable {E : Env} {Q : Exit → Kt} {f : Fr} {G : GH} {M : MH}
theorem WC.join {X : Type} {x y : Code} (live : X → List (Nat × Value)) (I : X → GH → MH → Prop)
  (h1 : WC E x (thn (fun f' G' M' => Le G G' ∧ ∃ z, Has f' (live z) ∧ I z G' M') Q) f G M)
  (h2 : ∀ z g G' M', Le G G' → I z G' M' → WC E y Q (setL g (live z)) G' M') : WC E (.seq x y) Q f G M := by
 refine WC.seq ?_
 intro a w hi hr
 refine wp_mono (h1 a w hi hr) ?_
 rintro e a' w' ⟨f', G', M', k1, k2, k3⟩
 cases e with
 | normal =>
  obtain ⟨k4, z, k5, k6⟩ := k3
  have := h2 z f' G' M' k4 k6
  rw [setL_of_has k5] at this
  exact ⟨f', G', M', k1, k2, this⟩
 | _ => exact ⟨f', G', M', k1, k2, k3⟩
theorem WC.fr {c : Code} {f f' : Fr} (h : f' = f) (k : WC E c Q f G M) : WC E c Q f' G M := h ▸ k
def partK (P : Program) (t : TypeId) (j : Nat) : Option (Bool × Nat × Nat) :=
 match P.underlying t with
 | some (.struct fs) => (fs[j]?).bind fun fd => (tyK P fd.type).map fun k => (k.1, fd.offset, k.2)
 | _ => none
theorem ok_field {d j : Nat} {t ty : TypeId} {pos : String} {aft : Array Edge} {x : Operand} {bb : Bool} {off k : Nat} {L vs : List Value} (ht : partK E.P t j = some (bb, off, k)) (hx : ev f x = .agg L.toArray) (hv : (L.drop off).take k = vs)
  (hl : (bb || Nat.beq vs.length 1) = true) : Ok E f G M ⟨some d, .field t x j, ty, pos, aft, none⟩ (mkV bb vs) := fun w _ => by
 unfold partK at ht
 split at ht
 ·rename_i fs hu
  obtain ⟨fd, hfd, h3⟩ := Option.bind_eq_some_iff.1 ht
  obtain ⟨⟨b2, k2⟩, hk, h4⟩ := Option.map_eq_some_iff.1 h3
  simp only [Prod.mk.injEq] at h4
  obtain ⟨rfl, rfl, rfl⟩ := h4
  cases b2 with
  | true =>
   subst hv
   have e : L.toArray.extract fd.offset (fd.offset + k2) = ((L.drop fd.offset).take k2).toArray := by apply Array.toList_inj.1; simp [List.extract_eq_take_drop]
   simp [execOp, hx, Instr.field, run_underlying hu, hfd, part, tyK_agg hk, tyK_size hk, asAgg, mkV]
  | false =>
   match vs, hl with
   | [v], _ =>
    have h5 : L[fd.offset]? = some v := by
     have := congrArg (fun l => l[0]?) hv
     rw [List.getElem?_take, List.getElem?_drop] at this
     split at this <;> simp_all
    simp [execOp, hx, Instr.field, run_underlying hu, hfd, part, tyK_agg hk, asAgg, h5, mkV]
 ·cases ht
end Go.Fw
namespace Go.Fw
open Go
theorem iv {k : IntKind} {a b : Int} (h : a = b) : Value.int k a = Value.int k b := by rw [h]
theorem eqv {x y : Value} (h : x = y := by first | rfl | exact iv (by dsimp only; omega) | exact iv om9) : x = y := h
theorem nd_t {p : Prop} [Decidable p] (h : (!decide p) = true) : ¬ p := by simpa using h
theorem nd_f {p : Prop} [Decidable p] (h : (!decide p) = false) : p := by simpa using h
theorem bytesLess_at : ∀ (k : Nat) (l1 l2 : List UInt8) (h : ∀ i, i < k → l1[i]? = l2[i]?) (h1 : k < l1.length) (h2 : k < l2.length), l1[k] ≠ l2[k] → Op.bytesLess l1 l2 = decide (l1[k] < l2[k])
 | 0, x :: xs, y :: ys, _, _, _, hn => by
  simp only [List.getElem_cons_zero] at hn ⊢
  simp [Op.bytesLess, hn]
 | k + 1, x :: xs, y :: ys, h, h1, h2, hn => by
  have h0 := h 0 om9
  simp at h0
  subst h0
  have ih := bytesLess_at k xs ys (fun i hi => by simpa using h (i + 1) om9) (by simpa using h1) (by simpa using h2) (by simpa using hn)
  simp only [Op.bytesLess, List.getElem_cons_succ, ih]
  simp
 | _, [], _, _, h1, _, _ => by simp at h1
 | _, _ :: _, [], _, _, h2, _ => by simp at h2
theorem bytesLess_end : ∀ (k : Nat) (l1 l2 : List UInt8) (h : ∀ i, i < k → l1[i]? = l2[i]?), (k = l1.length ∨ k = l2.length) → k ≤ l1.length → k ≤ l2.length → Op.bytesLess l1 l2 = decide (l1.length < l2.length)
 | 0, l1, l2, _, h, _, _ => by
  cases l1 <;> cases l2 <;> simp [Op.bytesLess] at h ⊢
 | k + 1, x :: xs, y :: ys, h, h0, h1, h2 => by
  have h3 := h 0 om9
  simp at h3
  subst h3
  have ih := bytesLess_end k xs ys (fun i hi => by simpa using h (i + 1) om9) (by simpa using h0) (by simpa using h1) (by simpa using h2)
  simp [Op.bytesLess, ih]
 | k + 1, [], _, _, _, h1, _ => by simp at h1
 | k + 1, _ :: _, [], _, _, _, h2 => by simp at h2
theorem getElem?_data (a : ByteArray) (i : Nat) : a[i]? = a.toList[i]? := by
 rw [ByteArray.toList_eq]
 by_cases h : i < a.size
 ·rw [getElem?_pos a i h, List.getElem?_eq_getElem (by simpa using h)]
  simp [ByteArray.getElem_eq_getElem_data]
 ·rw [getElem?_neg a i h, List.getElem?_eq_none (by simpa using h)]
theorem size_data (a : ByteArray) : a.size = a.toList.length := by rw [ByteArray.toList_eq]; simp
theorem blt_at {a b : ByteArray} {k : Nat} (h : ∀ i, i < k → a[i]? = b[i]?) (h1 : k < a.size) (h2 : k < b.size) (hn : (a[k]'h1).toNat ≠ (b[k]'h2).toNat) : decide (((a[k]'h1).toNat : Int) < (b[k]'h2).toNat) = blt a b := by
 have e1 : ∀ (c : ByteArray) (hc : k < c.size), c.toList[k]'(by rw [← size_data]; exact hc) = c[k]'hc := fun c hc => by
  have := getElem?_data c k
  rw [getElem?_pos c k hc, List.getElem?_eq_getElem (by rw [← size_data]; exact hc)] at this
  exact (Option.some.inj this).symm
 unfold blt
 rw [bytesLess_at k a.toList b.toList (fun i hi => by rw [← getElem?_data, ← getElem?_data]; exact h i hi) (by rw [← size_data]; exact h1) (by rw [← size_data]; exact h2) (by
  rw [e1 a h1, e1 b h2]; exact fun e => hn (by rw [e]))]
 rw [e1 a h1, e1 b h2, Bool.eq_iff_iff]
 simp [UInt8.lt_iff_toNat_lt]
theorem blt_end {a b : ByteArray} {k : Nat} (h : ∀ i, i < k → a[i]? = b[i]?) (h0 : k = a.size ∨ k = b.size) (h1 : k ≤ a.size) (h2 : k ≤ b.size) : decide ((a.size : Int) < b.size) = blt a b := by
 unfold blt
 rw [bytesLess_end k a.toList b.toList (fun i hi => by rw [← getElem?_data, ← getElem?_data]; exact h i hi) (by rw [← size_data, ← size_data]; exact h0) (by rw [← size_data]; exact h1) (by rw [← size_data]; exact h2)]
 rw [← size_data, ← size_data, Bool.eq_iff_iff]
 simp
theorem same_succ {a b : ByteArray} {k : Nat} (h : ∀ i, i < k → a[i]? = b[i]?) (h1 : k < a.size) (h2 : k < b.size) (he : ((a[k]'h1).toNat : Int) = (b[k]'h2).toNat) : ∀ i, i < k + 1 → a[i]? = b[i]? := fun i hi => by
 by_cases e : i = k
 ·subst e
  rw [getElem?_pos a i h1, getElem?_pos b i h2]
  congr 1
  exact UInt8.toNat_inj.1 om9
 ·exact h i om9
structure Str where
 b : ByteArray
 le : b.size ≤ 140737488355328
theorem Str.ext' {a b : Str} (h : a.b = b.b) : a = b := by cases a; cases b; simp_all
theorem Str.b_inj {a b : Str} : a.b = b.b ↔ a = b := ⟨Str.ext', fun h => h ▸ rfl⟩
instance : DecidableEq Str := fun a b => decidable_of_iff (a.b = b.b) Str.b_inj
def Str.nil : Str := ⟨⟨#[]⟩, by decide⟩
instance : Inhabited Str := ⟨Str.nil⟩
def Str.lt (a b : Str) : Bool := blt a.b b.b
def i64 (n : Int) : Prop := -9223372036854775808 ≤ n ∧ n ≤ 9223372036854775807
structure Span where
 lo : Str
 hi : Str
 opn : Bool
 deriving DecidableEq
structure Pair where
 key : Str
 val : Str
 deriving DecidableEq
structure Msg where
 stamp : Int
 kind : Int
 key : Str
 hi : Str
 opn : Bool
 val : Str
 deriving DecidableEq
structure Nd where
 slot : Int
 level : Int
 pivots : List Str
 kids : List Int
 high : Str
 top : Bool
 right : Int
 seen : Int
 msgs : List Msg
 rows : List Pair
 deriving DecidableEq
instance : Inhabited Pair := ⟨⟨default, default⟩⟩
def Msg.Ok (m : Msg) : Prop := i64 m.stamp ∧ i64 m.kind
def Nd.Ok (n : Nd) : Prop := i64 n.slot ∧ i64 n.level ∧ i64 n.right ∧ i64 n.seen
def Span.cells (s : Span) : List Value := [.string s.lo.b, .string s.hi.b, .bool s.opn]
def Msg.cells (m : Msg) : List Value := [.int .i64 m.stamp, .int .i64 m.kind, .string m.key.b, .string m.hi.b, .bool m.opn, .string m.val.b]
def eStr : Enc Str where
 k := 1
 w := 16
 R := fun _ cs s => cs = [.string s.b]
 mono := fun _ h => h
 len := fun h => by rw [h]; rfl
 one := fun h u hu => by rw [h] at hu; simp at hu; subst hu; rfl
def eInt : Enc Int where
 k := 1
 w := 8
 R := fun _ cs n => cs = [.int .i64 n] ∧ i64 n
 mono := fun _ h => h
 len := fun h => by rw [h.1]; rfl
 one := fun h u hu => by rw [h.1] at hu; simp at hu; subst hu; rfl
def ePair : Enc Pair where
 k := 2
 w := 32
 R := fun _ cs p => cs = [.string p.key.b, .string p.val.b]
 mono := fun _ h => h
 len := fun h => by rw [h]; rfl
 one := fun h u hu => by rw [h] at hu; simp at hu; rcases hu with rfl | rfl <;> rfl
def eMsg : Enc Msg where
 k := 6
 w := 72
 R := fun _ cs m => cs = [.int .i64 m.stamp, .int .i64 m.kind, .string m.key.b, .string m.hi.b, .bool m.opn, .string m.val.b] ∧ m.Ok
 mono := fun _ h => h
 len := fun h => by rw [h.1]; rfl
 one := fun h u hu => by rw [h.1] at hu; simp at hu; rcases hu with rfl | rfl | rfl | rfl | rfl | rfl <;> rfl
def NodeC (G : GH) (cs : List Value) (n : Nd) : Prop :=
 ∃ a1 c1 a2 c2 a3 c3 a4 c4, cs = [.int .i64 n.slot, .int .i64 n.level, .slice a1 n.pivots.length c1, .slice a2 n.kids.length c2, .string n.high.b, .bool n.top, .int .i64 n.right, .int .i64 n.seen, .slice a3 n.msgs.length c3, .slice a4 n.rows.length c4] ∧
  SlR eStr G (.slice a1 n.pivots.length c1) n.pivots ∧ SlR eInt G (.slice a2 n.kids.length c2) n.kids ∧ SlR eMsg G (.slice a3 n.msgs.length c3) n.msgs ∧ SlR ePair G (.slice a4 n.rows.length c4) n.rows ∧ n.Ok
theorem NodeC.mono {G G' : GH} {cs n} (hl : Le G G') (h : NodeC G cs n) : NodeC G' cs n := by
 obtain ⟨a1, c1, a2, c2, a3, c3, a4, c4, h0, h1, h2, h3, h4, h5⟩ := h
 exact ⟨a1, c1, a2, c2, a3, c3, a4, c4, h0, h1.mono hl, h2.mono hl, h3.mono hl, h4.mono hl, h5⟩
def eNode : Enc Nd where
 k := 10
 w := 152
 R := NodeC
 mono := fun hl h => h.mono hl
 len := fun h => by obtain ⟨a1, c1, a2, c2, a3, c3, a4, c4, h0, _⟩ := h; rw [h0]; rfl
 one := fun h u hu => by
  obtain ⟨a1, c1, a2, c2, a3, c3, a4, c4, h0, _⟩ := h
  rw [h0] at hu
  simp at hu
  rcases hu with rfl | rfl | rfl | rfl | rfl | rfl | rfl | rfl | rfl | rfl <;> rfl
theorem bytesLess_irrefl : ∀ l : List UInt8, Op.bytesLess l l = false
 | [] => rfl
 | x :: xs => by simp [Op.bytesLess, bytesLess_irrefl xs]
theorem bytesLess_trans : ∀ {a b c : List UInt8}, Op.bytesLess a b = true → Op.bytesLess b c = true → Op.bytesLess a c = true
 | [], _ :: _, _ :: _, _, _ => rfl
 | [], [], _, h, _ => by simp [Op.bytesLess] at h
 | _ :: _, [], _, h, _ => by simp [Op.bytesLess] at h
 | _, _ :: _, [], _, h => by simp [Op.bytesLess] at h
 | x :: a, y :: b, z :: c, h1, h2 => by
  simp only [Op.bytesLess, Bool.or_eq_true, Bool.and_eq_true, decide_eq_true_eq, beq_iff_eq] at h1 h2 ⊢
  rcases h1 with h1 | ⟨rfl, h1⟩
  ·rcases h2 with h2 | ⟨rfl, h2⟩
   ·exact .inl (UInt8.lt_trans h1 h2)
   ·exact .inl h1
  ·rcases h2 with h2 | ⟨rfl, h2⟩
   ·exact .inl h2
   ·exact .inr ⟨rfl, bytesLess_trans h1 h2⟩
theorem bytesLess_total : ∀ {a b : List UInt8}, Op.bytesLess a b = false → Op.bytesLess b a = false → a = b
 | [], [], _, _ => rfl
 | [], _ :: _, h, _ => by simp [Op.bytesLess] at h
 | _ :: _, [], _, h => by simp [Op.bytesLess] at h
 | x :: a, y :: b, h1, h2 => by
  simp only [Op.bytesLess, Bool.or_eq_false_iff, Bool.and_eq_false_iff, decide_eq_false_iff_not, beq_eq_false_iff_ne] at h1 h2
  obtain ⟨h3, h4⟩ := h1
  obtain ⟨h5, h6⟩ := h2
  have e : x = y := UInt8.le_antisymm (UInt8.not_lt.1 h5) (UInt8.not_lt.1 h3)
  subst e
  have h4 : Op.bytesLess a b = false := h4.resolve_left (by simp)
  have h6 : Op.bytesLess b a = false := h6.resolve_left (by simp)
  rw [bytesLess_total h4 h6]
theorem Str.lt_irrefl (a : Str) : a.lt a = false := bytesLess_irrefl _
theorem Str.lt_trans {a b c : Str} (h : a.lt b = true) (k : b.lt c = true) : a.lt c = true := bytesLess_trans h k
theorem Str.lt_total {a b : Str} (h : a.lt b = false) (k : b.lt a = false) : a = b := Str.ext' (toList_inj.1 (bytesLess_total h k))
theorem Str.lt_asymm {a b : Str} (h : a.lt b = true) : b.lt a = false := by
 cases hb : b.lt a
 ·rfl
 ·have := Str.lt_trans h hb; rw [Str.lt_irrefl] at this; cases this
theorem Str.lt_of_le_of_lt {a b c : Str} (h : b.lt a = false) (k : b.lt c = true) : a.lt c = true := by
 cases hab : a.lt b
 ·rw [Str.lt_total hab h]; exact k
 ·exact Str.lt_trans hab k
theorem Str.lt_of_lt_of_le {a b c : Str} (h : a.lt b = true) (k : c.lt b = false) : a.lt c = true := by
 cases hbc : b.lt c
 ·rw [← Str.lt_total hbc k]; exact h
 ·exact Str.lt_trans h hbc
theorem Str.nil_le (a : Str) : a.lt Str.nil = false := by
 show Op.bytesLess a.b.toList (ByteArray.mk #[]).toList = false
 have : (ByteArray.mk #[]).toList = [] := by rw [ByteArray.toList_eq]
 rw [this]
 cases a.b.toList <;> rfl
def Span.zero : Span := ⟨Str.nil, Str.nil, false⟩
def Span.has (s : Span) (k : Str) : Bool := !k.lt s.lo && (s.opn || k.lt s.hi)
def Span.empty (s : Span) : Bool := !s.opn && !s.lo.lt s.hi
def Span.norm (s : Span) : Span := if s.empty = true then Span.zero else if s.opn = true then { s with hi := Str.nil } else s
def Span.all : Span := ⟨Str.nil, Str.nil, true⟩
theorem Span.empty_eq (s : Span) : (!s.has s.lo) = s.empty := by
 simp [Span.has, Span.empty, Str.lt_irrefl]
theorem Span.eqC (s t : Span) : eqCells s.cells t.cells = decide (s = t) := by
 rw [Bool.eq_iff_iff]
 cases s; cases t
 simp [Span.cells, eqCells, Str.b_inj]
def rising : List Str → Bool
 | a :: b :: r => a.lt b && rising (b :: r)
 | _ => true
theorem rising_iff : ∀ {l : List Str}, rising l = true ↔ ∀ i (h : i + 1 < l.length), l[i].lt l[i + 1] = true
 | [] => by simp [rising]
 | [a] => by simp [rising]
 | a :: b :: r => by
  simp only [rising, Bool.and_eq_true]
  rw [rising_iff]
  constructor
  ·rintro ⟨h1, h2⟩ i h
   cases i with
   | zero => exact h1
   | succ i => exact h2 i (by simpa using h)
  ·intro h
   exact ⟨h 0 (by simp), fun i hi => h (i + 1) (by simpa using hi)⟩
theorem rising_not {l : List Str} {i : Nat} (h : i + 1 < l.length) (hn : l[i].lt l[i + 1] = false) : rising l = false := by
 cases hr : rising l
 ·rfl
 ·rw [rising_iff.1 hr i h] at hn; cases hn
theorem rising_lt {l : List Str} (hr : rising l = true) : ∀ (j i : Nat) (hij : i < j) (hj : j < l.length), l[i].lt l[j] = true
 | 0, i, h, _ => by omega
 | j + 1, i, h, hj => by
  have h1 := rising_iff.1 hr j hj
  by_cases e : i = j
  ·subst e; exact h1
  ·exact Str.lt_trans (rising_lt hr j i om9 om9) h1
def rightN (pivots : List Str) (n : Nat) : Bool := rising pivots && decide (n = pivots.length + 1)
def routeN (l : List Str) (k : Str) : Nat := (l.filter fun p => !k.lt p).length
def rangeN (l : List Str) (i : Int) : Span :=
 if i < 0 ∨ (l.length : Int) < i then Span.zero
 else Span.norm ⟨if 0 < i then l.getD (i - 1).toNat Str.nil else Str.nil, l.getD i.toNat Str.nil, decide ((l.length : Int) ≤ i)⟩
def longN : List Str → Int → Int → Int
 | [], n, _ => n
 | s :: l, n, most => if n ≤ most then longN l (n + (s.b.size + 1)) most else n
theorem route_split {l : List Str} (hr : rising l = true) {k : Str} {i : Nat} (hi : i ≤ l.length) (h1 : ∀ j (h : j < l.length), j < i → k.lt l[j] = false) (h2 : ∀ j (h : j < l.length), i ≤ j → k.lt l[j] = true) : routeN l k = i := by
 unfold routeN
 have e : l = l.take i ++ l.drop i := (List.take_append_drop i l).symm
 rw [e, List.filter_append, List.length_append]
 have f1 : (l.take i).filter (fun p => !k.lt p) = l.take i := by
  rw [List.filter_eq_self]
  intro a ha
  obtain ⟨j, hj, rfl⟩ := List.getElem_of_mem ha
  simp only [List.length_take] at hj
  rw [List.getElem_take, h1 j om9 om9]; rfl
 have f2 : (l.drop i).filter (fun p => !k.lt p) = [] := by
  rw [List.filter_eq_nil_iff]
  intro a ha
  obtain ⟨j, hj, rfl⟩ := List.getElem_of_mem ha
  simp only [List.length_drop] at hj
  rw [List.getElem_drop, h2 (i + j) om9 om9]; simp
 rw [f1, f2]
 simp [hi]
def lowerN (l : List Str) (k : Str) : Nat := (l.filter fun p => p.lt k).length
theorem lower_split {l : List Str} {k : Str} {i : Nat} (hi : i ≤ l.length) (h1 : ∀ j (h : j < l.length), j < i → l[j].lt k = true) (h2 : ∀ j (h : j < l.length), i ≤ j → l[j].lt k = false) : lowerN l k = i := by
 unfold lowerN
 have e : l = l.take i ++ l.drop i := (List.take_append_drop i l).symm
 rw [e, List.filter_append, List.length_append]
 have f1 : (l.take i).filter (fun p => p.lt k) = l.take i := by
  rw [List.filter_eq_self]
  intro a ha
  obtain ⟨j, hj, rfl⟩ := List.getElem_of_mem ha
  simp only [List.length_take] at hj
  rw [List.getElem_take, h1 j om9 om9]
 have f2 : (l.drop i).filter (fun p => p.lt k) = [] := by
  rw [List.filter_eq_nil_iff]
  intro a ha
  obtain ⟨j, hj, rfl⟩ := List.getElem_of_mem ha
  simp only [List.length_drop] at hj
  rw [List.getElem_drop, h2 (i + j) om9 om9]; simp
 rw [f1, f2]
 simp [hi]
theorem tup2 {a a' : Int} {b b' : Bool} (h : a = a') (k : b = b') : Value.tuple #[.int .i64 a, .bool b] = Value.tuple #[.int .i64 a', .bool b'] := by rw [h, k]
theorem rising_le {l : List Str} (hr : rising l = true) {i j : Nat} (hij : i ≤ j) (hj : j < l.length) : l[j].lt (l[i]'om9) = false := by
 by_cases e : i = j
 ·subst e; exact Str.lt_irrefl _
 ·exact Str.lt_asymm (rising_lt hr j i om9 hj)
theorem rising_below {l : List Str} (hr : rising l = true) {m : Nat} (hm : m < l.length) {k : Str} (h : l[m].lt k = true) (q : Nat) (hq : q < l.length) (hqm : q < m + 1) : l[q].lt k = true :=
 Str.lt_of_le_of_lt (rising_le hr om9 hm) h
theorem rising_above {l : List Str} (hr : rising l = true) {m : Nat} (hm : m < l.length) {k : Str} (h : l[m].lt k = false) (q : Nat) (hq : q < l.length) (hqm : m ≤ q) : l[q].lt k = false := by
 cases h1 : l[q].lt k
 ·rfl
 ·rw [Str.lt_of_le_of_lt (rising_le hr hqm hq) h1] at h; cases h
theorem lowerN_le (l : List Str) (k : Str) : lowerN l k ≤ l.length := List.length_filter_le _ _
theorem lower_spec {l : List Str} (hr : rising l = true) (k : Str) : (∀ j (h : j < l.length), j < lowerN l k → l[j].lt k = true) ∧ (∀ j (h : j < l.length), lowerN l k ≤ j → l[j].lt k = false) := by
  suffices ∃ i, i ≤ l.length ∧ (∀ j (h : j < l.length), j < i → l[j].lt k = true) ∧ (∀ j (h : j < l.length), i ≤ j → l[j].lt k = false) by
    obtain ⟨i, h0, h1, h2⟩ := this
    rw [lower_split h0 h1 h2]; exact ⟨h1, h2⟩
  by_cases h : ∃ i, ∃ h : i < l.length, l[i].lt k = false
  · have key : ∀ n i, i ≤ n → ∀ (h : i < l.length), l[i].lt k = false → ∃ i, ∃ h : i < l.length, l[i].lt k = false ∧ ∀ j (hj : j < l.length), j < i → l[j].lt k = true := by
      intro n
      induction n with
      | zero => intro i hi hl hk; obtain rfl : i = 0 := om9
                exact ⟨0, hl, hk, fun j _ hj => by omega⟩
      | succ n ih =>
        intro i hi hl hk
        by_cases h2 : ∃ j, ∃ hj : j < l.length, j < i ∧ l[j].lt k = false
        · obtain ⟨j, hj, hji, hjk⟩ := h2
          exact ih j om9 hj hjk
        · refine ⟨i, hl, hk, fun j hj hji => ?_⟩
          cases h3 : l[j].lt k
          · exact absurd ⟨j, hj, hji, h3⟩ h2
          · rfl
    obtain ⟨i, hi, hk⟩ := h
    obtain ⟨i, hi, hk, h3⟩ := key i i (Nat.le_refl _) hi hk
    exact ⟨i, om9, h3, fun j hj hij => rising_above hr hi hk j hj hij⟩
  · refine ⟨l.length, Nat.le_refl _, fun j hj _ => ?_, fun j hj h => by omega⟩
    cases h3 : l[j].lt k
    · exact absurd ⟨j, hj, h3⟩ h
    · rfl
theorem route_lower_yes {l : List Str} {k : Str} (hr : rising l = true) (h : l[lowerN l k]? = some k) : ((lowerN l k : Nat) : Int) + 1 = (routeN l k : Nat) := by
 obtain ⟨hlt, he⟩ := List.getElem?_eq_some_iff.1 h
 have := lower_spec hr k
 rw [route_split hr (i := lowerN l k + 1) om9 (fun j hj hji => ?_) (fun j hj hji => ?_)]
 ·omega
 ·by_cases e : j = lowerN l k
  ·subst e; rw [he]; exact Str.lt_irrefl _
  ·exact Str.lt_asymm (this.1 j hj om9)
 ·rw [← he]; exact rising_lt hr j (lowerN l k) om9 hj
theorem route_lower_no {l : List Str} {k : Str} (hr : rising l = true) (h : ¬ l[lowerN l k]? = some k) : ((lowerN l k : Nat) : Int) = (routeN l k : Nat) := by
 have := lower_spec hr k
 have hle := lowerN_le l k
 rw [route_split hr (i := lowerN l k) hle (fun j hj hji => Str.lt_asymm (this.1 j hj hji)) (fun j hj hji => ?_)]
 cases h1 : k.lt l[j]
 ·have h2 : l[j] = k := Str.lt_total (this.2 j hj hji) h1
  by_cases e : j = lowerN l k
  ·subst e; exact absurd (by rw [List.getElem?_eq_getElem hj, h2]) h
  ·have h3 := rising_lt hr j (lowerN l k) om9 hj
   rw [h2] at h3
   rw [this.2 (lowerN l k) om9 (Nat.le_refl _)] at h3
   cases h3
 ·rfl
theorem rangeN_out {l : List Str} {i : Int} (h : i < 0 ∨ (l.length : Int) < i) : rangeN l i = Span.zero := by unfold rangeN; rw [if_pos h]
theorem rangeN_in {l : List Str} {i : Int} (h : 0 ≤ i) (h' : i ≤ (l.length : Int)) :
  rangeN l i = Span.norm ⟨if 0 < i then l.getD (i - 1).toNat Str.nil else Str.nil, l.getD i.toNat Str.nil, decide ((l.length : Int) ≤ i)⟩ := by
 unfold rangeN; rw [if_neg om9]
theorem longN_step {l : List Str} {k : Nat} {n m : Int} (hk : k < l.length) (h : n ≤ m) : longN (l.drop k) n m = longN (l.drop (k + 1)) (n + ((l[k]).b.size + 1)) m := by
 rw [List.drop_eq_getElem_cons hk, longN, if_pos h]
theorem longN_stop {l : List Str} {n m : Int} (h : ¬ n ≤ m) : longN l n m = n := by
 cases l with
 | nil => rfl
 | cons a l => rw [longN, if_neg h]
theorem longN_len : ∀ {l : List Str} {n m : Int}, longN l n m ≤ m → n + l.length ≤ longN l n m
 | [], n, m, _ => by simp [longN]
 | s :: l, n, m, h => by
  rw [longN] at h ⊢
  split
  ·rename_i hc
   rw [if_pos hc] at h
   have := longN_len h
   simp only [List.length_cons]
   omega
  ·rename_i hc
   rw [if_neg hc] at h
   omega
theorem getD_in {α : Type} {l : List α} {i : Nat} {d : α} (h : i < l.length) : l.getD i d = l[i] := by simp [List.getD, List.getElem?_eq_getElem h]
theorem getD_out {α : Type} {l : List α} {i : Nat} {d : α} (h : l.length ≤ i) : l.getD i d = d := by simp [List.getD, List.getElem?_eq_none h]
theorem rangeN_tt {l : List Str} {i : Int} (h : 0 < i) (h' : i < (l.length : Int)) (a : (i - 1).toNat < l.length) (b : i.toNat < l.length) : Span.norm ⟨l[(i - 1).toNat], l[i.toNat], false⟩ = rangeN l i := by
 rw [rangeN_in om9 om9, if_pos h, getD_in (d := Str.nil) a, getD_in (d := Str.nil) b, decide_eq_false om9]
theorem rangeN_tf {l : List Str} {i : Int} (h : 0 < i) (h' : ¬ i < (l.length : Int)) (h2 : i ≤ l.length) (a : (i - 1).toNat < l.length) : Span.norm ⟨l[(i - 1).toNat], Str.nil, true⟩ = rangeN l i := by
 rw [rangeN_in om9 om9, if_pos h, getD_in a, getD_out om9, decide_eq_true om9]
theorem rangeN_ft {l : List Str} {i : Int} (h0 : ¬ i < 0) (h : ¬ 0 < i) (h' : i < (l.length : Int)) (b : i.toNat < l.length) : Span.norm ⟨Str.nil, l[i.toNat], false⟩ = rangeN l i := by
 rw [rangeN_in om9 om9, if_neg h, getD_in b, decide_eq_false om9]
theorem rangeN_ff {l : List Str} {i : Int} (h0 : ¬ i < 0) (h : ¬ 0 < i) (h' : ¬ i < (l.length : Int)) (h2 : i ≤ l.length) : Span.norm ⟨Str.nil, Str.nil, true⟩ = rangeN l i := by
 rw [rangeN_in om9 om9, if_neg h, getD_out om9, decide_eq_true om9]
theorem rightN_spec {p : List Str} {n : Nat} (h : rightN p n = true) : rising p = true ∧ n = p.length + 1 := by
 simpa [rightN] using h
theorem norm_has (s : Span) (k : Str) : s.norm.has k = s.has k := by
 unfold Span.norm
 by_cases h : s.empty = true
 ·rw [if_pos h]
  simp only [Span.empty, Bool.and_eq_true, Bool.not_eq_true'] at h
  have e1 : Span.zero.has k = false := by simp [Span.has, Span.zero, Str.nil_le]
  rw [e1]
  cases hk : s.has k
  ·rfl
  ·simp only [Span.has, h.1, Bool.false_or, Bool.and_eq_true, Bool.not_eq_true'] at hk
   have := Str.lt_of_le_of_lt hk.1 hk.2
   rw [h.2] at this; cases this
 ·rw [if_neg h]
  split
  ·rename_i ho; simp [Span.has, ho]
  ·rfl
theorem range_has {p : List Str} (hr : rising p = true) (k : Str) {j : Nat} (hj : j ≤ p.length) : (rangeN p (j : Int)).has k = decide (j = routeN p k) := by
 rw [rangeN_in om9 om9, norm_has]
 have hrt : routeN p k ≤ p.length := List.length_filter_le _ _
 obtain ⟨h1, h2⟩ : (∀ i (h : i < p.length), i < routeN p k → k.lt p[i] = false) ∧ (∀ i (h : i < p.length), routeN p k ≤ i → k.lt p[i] = true) := by
  have hl := lower_spec hr k
  by_cases hy : p[lowerN p k]? = some k
  ·have e := route_lower_yes hr hy
   obtain ⟨hlt, he⟩ := List.getElem?_eq_some_iff.1 hy
   refine ⟨fun i h hi => ?_, fun i h hi => ?_⟩
   ·by_cases e2 : i = lowerN p k
    ·subst e2; rw [he]; exact Str.lt_irrefl _
    ·exact Str.lt_asymm (hl.1 i h om9)
   ·have h3 := rising_lt hr i (lowerN p k) om9 h
    rw [he] at h3; exact h3
  ·have e := route_lower_no hr hy
   refine ⟨fun i h hi => Str.lt_asymm (hl.1 i h om9), fun i h hi => ?_⟩
   cases h1 : k.lt p[i]
   ·have h2 : p[i] = k := Str.lt_total (hl.2 i h om9) h1
    have h3 : i = lowerN p k := by
     by_cases e2 : lowerN p k < i
     ·have h4 := rising_lt hr i (lowerN p k) e2 h
      have h5 := hl.2 (lowerN p k) om9 (Nat.le_refl _)
      rw [h2] at h4; rw [h4] at h5; cases h5
     ·omega
    subst h3
    exact absurd (by rw [List.getElem?_eq_getElem h, h2]) hy
   ·rfl
 rw [Bool.eq_iff_iff]
 simp only [Span.has, Bool.and_eq_true, Bool.not_eq_true', Bool.or_eq_true, decide_eq_true_eq]
 constructor
 ·rintro ⟨ha, hb⟩
  have hlo : j ≤ routeN p k := by
   rcases Nat.lt_or_ge (routeN p k) j with hlt | hge
   ·rw [if_pos om9, getD_in (d := Str.nil) (by omega : ((j : Int) - 1).toNat < p.length)] at ha
    rw [h2 _ om9 om9] at ha; cases ha
   ·exact hge
  have hhi : routeN p k ≤ j := by
   rcases hb with hb | hb
   ·omega
   ·rcases Nat.lt_or_ge j (routeN p k) with hlt | hge
    ·rw [getD_in (d := Str.nil) (by omega : (j : Int).toNat < p.length)] at hb
     rw [h1 _ om9 om9] at hb; cases hb
    ·exact hge
  omega
 ·rintro rfl
  refine ⟨?_, ?_⟩
  ·split
   ·rw [getD_in (d := Str.nil) om9]; exact h1 _ om9 om9
   ·exact Str.nil_le k
  ·by_cases he : routeN p k = p.length
   ·left; omega
   ·right
    rw [getD_in (d := Str.nil) om9]; exact h2 _ om9 om9
end Go.Fw
namespace Go.Fw
open Go Go.RowKit
def allG (w : World) : GH := fun b => w.heap[b]?
def Dec {α : Type} (P : Program) (t : TypeId) (e : Enc α) : Prop :=
 ∀ {H : Type} (enc : TypeId × Value → H) (w : World) (fuel : Nat) (cs : List Value) (x : DataW H × List MemPlace),
  DataW.trod enc P w 0 (fun _ => true) true fuel t cs = some x → (∀ n ∈ x.1.weights P t, n ≤ 140737488351232) → ∃ a, e.R (allG w) cs a
theorem dec_str {P : Program} {t : TypeId} (ht : P.underlying t = some .string) : Dec P t eStr := by
 intro H enc w fuel cs x h hw
 obtain ⟨s, rfl, rfl, hs⟩ := DataW.trod_string ht h
 have := hw s.data.toList.length (by simp [DataW.weights])
 exact ⟨⟨s, by simp at this; have e : s.size = s.data.size := rfl; omega⟩, rfl⟩
theorem i64_of_wf {n : Int} (h : (Lit.int .i64 n).wf = true) : i64 n := by
 simp [Lit.wf, IntKind.min, IntKind.max, IntKind.bits, IntKind.signed] at h
 exact ⟨om9, om9⟩
theorem dec_int {P : Program} {t : TypeId} (ht : P.underlying t = some (.int .i64)) : Dec P t eInt := by
 intro H enc w fuel cs x h hw
 obtain ⟨n, rfl, rfl, hn⟩ := DataW.trod_int ht h
 exact ⟨n, rfl, i64_of_wf hn⟩
theorem cellsG_of {w : World} {b o n : Nat} {cs : List Value} (h : w.cells? 0 ⟨b, o, none⟩ n = some cs) (hn : 0 < n) : cs.length = n ∧ CellsG (allG w) b o cs := by
 obtain ⟨_, hl, hc⟩ := World.cells?_some h
 refine ⟨hl, ?_⟩
 have h0 : ∀ j, j < cs.length → ∃ v, cs[j]? = some v ∧ w.cell? ⟨b, o + j, none⟩ = some v := fun j hj => by
  have := hc j om9
  rw [Addr.add_lit] at this
  exact ⟨cs[j], List.getElem?_eq_getElem hj, by rw [this, List.getElem?_eq_getElem hj]⟩
 obtain ⟨v0, _, hv0⟩ := h0 0 om9
 cases hb : w.heap[b]? with
 | none => simp [World.cell?, hb] at hv0
 | some ob =>
  cases ob <;> simp [World.cell?, hb] at hv0
  rename_i c T fr
  refine ⟨c, T, fr, hb, fun j hj => ?_⟩
  obtain ⟨v, e1, e2⟩ := h0 j hj
  simp [World.cell?, hb] at e2
  rw [e1, e2]
theorem weightsAll_mem {H : Type} {P : Program} {e : TypeId} : ∀ {l : List (DataW H)} {d : DataW H}, d ∈ l → ∀ n ∈ d.weights P e, n ∈ DataW.weightsAll P e l
 | [], _, h, _, _ => by cases h
 | a :: l, d, h, n, hn => by
  simp only [DataW.weightsAll, List.mem_append]
  rcases List.mem_cons.1 h with rfl | h
  ·exact .inl hn
  ·exact .inr (weightsAll_mem h n hn)
def DecS {α : Type} (P : Program) (t : TypeId) (e : Enc α) : Prop :=
 ∀ {H : Type} (enc : TypeId × Value → H) (w : World) (fuel : Nat) (cs : List Value) (x : DataW H × List MemPlace),
  DataW.trod enc P w 0 (fun _ => true) true fuel t cs = some x → (∀ n ∈ x.1.weights P t, n ≤ 140737488351232) → ∃ v l, cs = [v] ∧ SlR e (allG w) v l
theorem dec_slice {α : Type} {P : Program} {t t' : TypeId} {e : Enc α} (ht : sliceK P t = some t') (hd : Dec P t' e) (hk : P.cellsOf t' = e.k) (hp : 0 < e.k) (hb : bytesK P t' = some e.w) : DecS P t e := by
 intro H enc w fuel cs x h hw
 have hu := sliceK_und ht
 have hbo : P.bytesOf t' = e.w := by
  simp only [bytesK, Option.map_eq_some_iff] at hb
  obtain ⟨i, h1, h2⟩ := hb
  simp [Program.bytesOf, h1, h2]
 rcases DataW.trod_slice hu h with ⟨rfl, rfl⟩ | ⟨a, len, cap, ys, zs, n, hf, rfl, rfl, h1, h2, h3, h4, h5, h6, h7⟩
 ·exact ⟨_, [], rfl, SlR.nil⟩
 ·have hw2 : (ys.length + zs.length) * e.w ≤ 140737488351232 := by
   have h9 := hw (((ys.map (·.1)).length + (zs.map (·.1)).length) * P.bytesOf t') (by simp [DataW.weights, hu])
   simpa [hbo] using h9
  have hlen : ys.length ≤ 140737488351232 := by
   have h8 : ys.length ≤ (ys.length + zs.length) * e.w := Nat.le_trans (Nat.le_add_right _ zs.length) (Nat.le_mul_of_pos_right _ e.wpos)
   omega
  obtain ⟨b, o, spot⟩ := a
  rw [hk] at h5
  have hspot : 0 < len → spot = none := fun h0 => by
   have h8 := h5 0 h0
   rw [List.getElem?_eq_getElem om9, Option.bind_eq_some_iff] at h8
   obtain ⟨cs, h9, h10⟩ := h8
   rw [Nat.zero_mul, Addr.add_zero'] at h9
   obtain ⟨_, hl, hc⟩ := World.cells?_some h9
   have h11 := hc 0 hp
   rw [Addr.add_zero', List.getElem?_eq_getElem om9] at h11
   exact World.cell?_spot h11
  have hel : ∀ i, i < len → ∃ a', ∃ cs, ElemAt (allG w) (.slice (some ⟨b, o, spot⟩) len cap) e.k i cs ∧ e.R (allG w) cs a' := fun i hi => by
   have h8 := h5 i hi
   rw [List.getElem?_eq_getElem om9, Option.bind_eq_some_iff] at h8
   obtain ⟨cs, h9, h10⟩ := h8
   obtain ⟨a', ha'⟩ := hd enc w n cs _ h10 (fun m hm => hw m (by
    simp only [DataW.weights, hu, List.mem_cons, List.mem_append]
    exact .inr (.inl (weightsAll_mem (List.mem_map_of_mem (List.getElem_mem (by omega : i < ys.length))) m hm))))
   obtain rfl := hspot om9
   rw [Addr.add_lit] at h9
   obtain ⟨_, h12⟩ := cellsG_of h9 hp
   exact ⟨a', cs, ⟨b, o, len, cap, rfl, h12⟩, ha'⟩
  obtain ⟨l, hl, hL⟩ : ∃ l : List α, l.length = len ∧ ∀ i (h : i < l.length), ∃ cs, ElemAt (allG w) (.slice (some ⟨b, o, spot⟩) len cap) e.k i cs ∧ e.R (allG w) cs l[i] := by
   have key : ∀ m, m ≤ len → ∃ l : List α, l.length = m ∧ ∀ i (h : i < l.length), ∃ cs, ElemAt (allG w) (.slice (some ⟨b, o, spot⟩) len cap) e.k i cs ∧ e.R (allG w) cs l[i] := by
    intro m
    induction m with
    | zero => exact fun _ => ⟨[], rfl, fun i h => absurd h (by simp)⟩
    | succ m ih =>
     intro hm
     obtain ⟨l, h8, h9⟩ := ih om9
     obtain ⟨a', cs, h10, h11⟩ := hel m om9
     refine ⟨l ++ [a'], by simp [h8], fun i h => ?_⟩
     by_cases hi : i < l.length
     ·obtain ⟨cs', h12, h13⟩ := h9 i hi
      exact ⟨cs', h12, by rw [List.getElem_append_left hi]; exact h13⟩
     ·have : i = m := by simp at h; omega
      subst this
      exact ⟨cs, h10, by rw [List.getElem_append_right om9]; simpa [h8] using h11⟩
   exact key len (Nat.le_refl _)
  have h1' : ys.length = l.length := om9
  subst hl
  exact ⟨_, l, rfl, some ⟨b, o, spot⟩, cap, rfl, h2, ⟨h3, by rw [Nat.add_mul, h1'] at hw2; omega⟩, (fun h => nomatch h), hL⟩
theorem Fc.law {P : Program} {g : FuncId} {vs : List Value} {w : World} (h : Fc P g vs (allG w) [] (fun v _ _ => v = .bool true)) :
  Calls P g vs.toArray w fun e w' => e = .returned (.bool true) ∧ Below w.heap.size w w' := by
 have hw : Real w (fun b => b ∈ (([] : MH).map (·.1))) (allG w) [] w := ⟨rfl, rfl, rfl, Nat.le_refl _, fun _ _ _ => rfl, fun _ _ h => h, (fun _ h => nomatch h), (fun _ h => nomatch h), List.nodup_nil, (fun _ h => nomatch h)⟩
 refine (h.2 w hw).mono ?_
 rintro e w' ⟨v, G', M', rfl, h1, h2, h3, rfl⟩
 exact ⟨rfl, h1.os, h1.tape, h1.output, h1.size, fun k hk => h1.keep k hk (fun h => nomatch h)⟩
section
open Go.ChangeShapes Go.WideShapes Go.ChangeAt
open Go.ChangeMaps (open_string)
variable {H : Type} {enc : TypeId × Value → H} {P : Program} {W : World} {base : Nat} {t t' : TypeId} {v : Value} {d : DataW H} {p : List MemPlace}
theorem arg_int (ht : P.underlying t = some (.int .i64)) (hv : Value.okWide P W .any base t v) (h : DataW.Trod enc P W 0 (fun _ => true) true t v d p) : ∃ n, v = .int .i64 n ∧ i64 n := by
 obtain ⟨x, rfl, _, _, wx⟩ := open_int ht hv h
 exact ⟨x, rfl, i64_of_wf wx⟩
theorem arg_str (ht : P.underlying t = some .string) (hv : Value.okWide P W .any base t v) (h : DataW.Trod enc P W 0 (fun _ => true) true t v d p) (hw : ∀ n ∈ d.weights P t, n ≤ 140737488351232) : ∃ s : Str, v = .string s.b := by
 obtain ⟨s, rfl, rfl, _⟩ := open_string ht hv h
 have := hw s.data.toList.length (by simp [DataW.weights])
 exact ⟨⟨s, by simp at this; have e : s.size = s.data.size := rfl; omega⟩, rfl⟩
theorem arg_slice {α : Type} {e : Enc α} (ht : sliceK P t = some t') (hd : DecS P t e) (hv : Value.okWide P W .any base t v) (h : DataW.Trod enc P W 0 (fun _ => true) true t v d p) (hw : ∀ n ∈ d.weights P t, n ≤ 140737488351232) :
  ∃ l, SlR e (allG W) v l := by
 obtain ⟨a, len, cap, rfl⟩ := okWide_slice (sliceK_und ht) hv
 obtain ⟨fuel, hf⟩ := h
 obtain ⟨v', l, h1, h2⟩ := hd enc W fuel _ _ hf hw
 simp [Value.cells] at h1
 subst h1
 exact ⟨l, h2⟩
theorem arg_agg {α : Type} {e : Enc α} {fs : Array Field} (ht : P.underlying t = some (.struct fs)) (hd : Dec P t e) (hv : Value.okWide P W .any base t v) (h : DataW.Trod enc P W 0 (fun _ => true) true t v d p) (hw : ∀ n ∈ d.weights P t, n ≤ 140737488351232) :
  ∃ cs a, v = .agg (List.toArray cs) ∧ e.R (allG W) cs a := by
 obtain ⟨cs, rfl, _⟩ := okWide_struct ht hv
 obtain ⟨fuel, hf⟩ := h
 obtain ⟨a, h1⟩ := hd enc W fuel _ _ hf hw
 exact ⟨cs.toList, a, by simp, by simpa [Value.cells] using h1⟩
end
end Go.Fw
namespace Go.Fw
theorem SlR.cast {α : Type} {e : Enc α} {G : GH} {v : Value} {l l' : List α} (h : SlR e G v l) (he : l = l') : SlR e G v l' := he ▸ h
theorem ElemAt.form {G : GH} {v : Value} {k n : Nat} {cs : List Value} (h : ElemAt G v k n cs) : ∃ a len cap, v = .slice (some a) len cap := by
 obtain ⟨b, o, len, cap, h1, _⟩ := h
 exact ⟨_, len, cap, h1⟩
end Go.Fw
namespace Go.Fw
open Go Go.RowKit
theorem andI {a b : Bool} (h : a = true) (k : b = true) : (a && b) = true := by rw [h, k]; rfl
def structK (P : Program) (t : TypeId) : Option (List (TypeId × Nat × Nat)) := match P.underlying t with
 | some (.struct fs) => some (fs.toList.map fun f => (f.type, f.offset, P.cellsOf f.type))
 | _ => none
theorem trod_fld {P : Program} {t : TypeId} {L : List (TypeId × Nat × Nat)} (hs : structK P t = some L) {H : Type} {enc : TypeId × Value → H} {w : World} {fuel : Nat} {cs : List Value} {x : DataW H × List MemPlace}
  (h : DataW.trod enc P w 0 (fun _ => true) true fuel t cs = some x) (hw : ∀ n ∈ x.1.weights P t, n ≤ 140737488351232) :
  cs.length = P.cellsOf t ∧ ∀ (i : Nat) (ty : TypeId) (o k : Nat), L[i]? = some (ty, o, k) → ∃ y n, DataW.trod enc P w 0 (fun _ => true) true n ty ((cs.drop o).take k) = some y ∧ ∀ n ∈ y.1.weights P ty, n ≤ 140737488351232 := by
 unfold structK at hs
 split at hs
 ·rename_i fs hu
  cases hs
  obtain ⟨xs, n, rfl, rfl, hl, hlen, hf⟩ := DataW.trod_struct hu h
  refine ⟨hl, fun i ty o k hi => ?_⟩
  rw [List.getElem?_map, Option.map_eq_some_iff] at hi
  obtain ⟨f, hfi, he⟩ := hi
  cases he
  have hfa : fs[i]? = some f := by rw [← Array.getElem?_toList]; exact hfi
  have h1 := hf i f hfa
  have hil : i < xs.length := by rw [hlen]; exact (Array.getElem?_eq_some_iff.1 hfa).1
  rw [List.getElem?_eq_getElem hil] at h1
  refine ⟨xs[i], n, h1, fun m hm => hw m ?_⟩
  show m ∈ DataW.weights P t (.agg _)
  unfold DataW.weights
  rw [hu]
  exact DataW.weights_mem_each (j := i) (by rw [List.getElem?_map, hfi]; rfl) (by rw [List.getElem?_map, List.getElem?_eq_getElem hil]; rfl) m hm
 ·cases hs
theorem one_cell {cs : List Value} {o : Nat} {v : Value} (h : (cs.drop o).take 1 = [v]) : cs[o]? = some v := by
 have := congrArg (·[0]?) h
 simpa using this
theorem fld_str {P : Program} {t : TypeId} (ht : P.underlying t = some .string) {H : Type} {enc : TypeId × Value → H} {w : World} {n : Nat} {cs : List Value} {o : Nat} {y : DataW H × List MemPlace}
  (h : DataW.trod enc P w 0 (fun _ => true) true n t ((cs.drop o).take 1) = some y) (hw : ∀ n ∈ y.1.weights P t, n ≤ 140737488351232) : ∃ s : Str, cs[o]? = some (.string s.b) := by
 obtain ⟨a, ha⟩ := dec_str ht enc w n _ y h hw
 exact ⟨a, one_cell ha⟩
theorem fld_int {P : Program} {t : TypeId} (ht : P.underlying t = some (.int .i64)) {H : Type} {enc : TypeId × Value → H} {w : World} {n : Nat} {cs : List Value} {o : Nat} {y : DataW H × List MemPlace}
  (h : DataW.trod enc P w 0 (fun _ => true) true n t ((cs.drop o).take 1) = some y) (hw : ∀ n ∈ y.1.weights P t, n ≤ 140737488351232) : ∃ a : Int, cs[o]? = some (.int .i64 a) ∧ i64 a := by
 obtain ⟨a, ha⟩ := dec_int ht enc w n _ y h hw
 exact ⟨a, one_cell ha.1, ha.2⟩
theorem fld_bool {P : Program} {t : TypeId} (ht : P.underlying t = some .bool) {H : Type} {enc : TypeId × Value → H} {w : World} {n : Nat} {cs : List Value} {o : Nat} {y : DataW H × List MemPlace}
  (h : DataW.trod enc P w 0 (fun _ => true) true n t ((cs.drop o).take 1) = some y) : ∃ a : Bool, cs[o]? = some (.bool a) := by
 obtain ⟨a, ha, _⟩ := DataW.trod_bool ht h
 exact ⟨a, one_cell ha⟩
theorem fld_sl {α : Type} {e : Enc α} {P : Program} {t : TypeId} (hd : DecS P t e) {H : Type} {enc : TypeId × Value → H} {w : World} {n : Nat} {cs : List Value} {o : Nat} {y : DataW H × List MemPlace}
  (h : DataW.trod enc P w 0 (fun _ => true) true n t ((cs.drop o).take 1) = some y) (hw : ∀ n ∈ y.1.weights P t, n ≤ 140737488351232) : ∃ v l, cs[o]? = some v ∧ SlR e (allG w) v l := by
 obtain ⟨v, l, ha, hl⟩ := hd enc w n _ y h hw
 exact ⟨v, l, one_cell ha, hl⟩
theorem dec_pair {P : Program} {t s : TypeId} (ht : structK P t = some [(s, 0, 1), (s, 1, 1)]) (hs : P.underlying s = some .string) (hc : P.cellsOf t = 2) : Dec P t ePair := by
 intro H enc w fuel cs x h hw
 obtain ⟨hl, hf⟩ := trod_fld ht h hw
 obtain ⟨y0, n0, t0, w0⟩ := hf 0 _ _ _ rfl
 obtain ⟨y1, n1, t1, w1⟩ := hf 1 _ _ _ rfl
 obtain ⟨a0, e0⟩ := fld_str hs t0 w0
 obtain ⟨a1, e1⟩ := fld_str hs t1 w1
 rw [hc] at hl
 match cs, hl with
 | [_, _], _ =>
  simp at e0 e1
  subst e0 e1
  exact ⟨⟨a0, a1⟩, rfl⟩
theorem dec_msg {P : Program} {t i s b : TypeId} (ht : structK P t = some [(i, 0, 1), (i, 1, 1), (s, 2, 1), (s, 3, 1), (b, 4, 1), (s, 5, 1)]) (hi : P.underlying i = some (.int .i64)) (hs : P.underlying s = some .string) (hb : P.underlying b = some .bool) (hc : P.cellsOf t = 6) : Dec P t eMsg := by
 intro H enc w fuel cs x h hw
 obtain ⟨hl, hf⟩ := trod_fld ht h hw
 obtain ⟨y0, n0, t0, w0⟩ := hf 0 _ _ _ rfl
 obtain ⟨y1, n1, t1, w1⟩ := hf 1 _ _ _ rfl
 obtain ⟨y2, n2, t2, w2⟩ := hf 2 _ _ _ rfl
 obtain ⟨y3, n3, t3, w3⟩ := hf 3 _ _ _ rfl
 obtain ⟨y4, n4, t4, w4⟩ := hf 4 _ _ _ rfl
 obtain ⟨y5, n5, t5, w5⟩ := hf 5 _ _ _ rfl
 obtain ⟨a0, e0, q0⟩ := fld_int hi t0 w0
 obtain ⟨a1, e1, q1⟩ := fld_int hi t1 w1
 obtain ⟨a2, e2⟩ := fld_str hs t2 w2
 obtain ⟨a3, e3⟩ := fld_str hs t3 w3
 obtain ⟨a4, e4⟩ := fld_bool hb t4
 obtain ⟨a5, e5⟩ := fld_str hs t5 w5
 rw [hc] at hl
 match cs, hl with
 | [_, _, _, _, _, _], _ =>
  simp at e0 e1 e2 e3 e4 e5
  subst e0 e1 e2 e3 e4 e5
  exact ⟨⟨a0, a1, a2, a3, a4, a5⟩, rfl, q0, q1⟩
theorem dec_node {P : Program} {t i s b tp tk tm tr : TypeId} (ht : structK P t = some [(i, 0, 1), (i, 1, 1), (tp, 2, 1), (tk, 3, 1), (s, 4, 1), (b, 5, 1), (i, 6, 1), (i, 7, 1), (tm, 8, 1), (tr, 9, 1)]) (hi : P.underlying i = some (.int .i64)) (hs : P.underlying s = some .string) (hb : P.underlying b = some .bool)
  (dp : DecS P tp eStr) (dk : DecS P tk eInt) (dm : DecS P tm eMsg) (dr : DecS P tr ePair) (hc : P.cellsOf t = 10) : Dec P t eNode := by
 intro H enc w fuel cs x h hw
 obtain ⟨hl, hf⟩ := trod_fld ht h hw
 obtain ⟨y0, n0, t0, w0⟩ := hf 0 _ _ _ rfl
 obtain ⟨y1, n1, t1, w1⟩ := hf 1 _ _ _ rfl
 obtain ⟨y2, n2, t2, w2⟩ := hf 2 _ _ _ rfl
 obtain ⟨y3, n3, t3, w3⟩ := hf 3 _ _ _ rfl
 obtain ⟨y4, n4, t4, w4⟩ := hf 4 _ _ _ rfl
 obtain ⟨y5, n5, t5, w5⟩ := hf 5 _ _ _ rfl
 obtain ⟨y6, n6, t6, w6⟩ := hf 6 _ _ _ rfl
 obtain ⟨y7, n7, t7, w7⟩ := hf 7 _ _ _ rfl
 obtain ⟨y8, n8, t8, w8⟩ := hf 8 _ _ _ rfl
 obtain ⟨y9, n9, t9, w9⟩ := hf 9 _ _ _ rfl
 obtain ⟨a0, e0, q0⟩ := fld_int hi t0 w0
 obtain ⟨a1, e1, q1⟩ := fld_int hi t1 w1
 obtain ⟨v2, a2, e2, q2⟩ := fld_sl dp t2 w2
 obtain ⟨v3, a3, e3, q3⟩ := fld_sl dk t3 w3
 obtain ⟨a4, e4⟩ := fld_str hs t4 w4
 obtain ⟨a5, e5⟩ := fld_bool hb t5
 obtain ⟨a6, e6, q6⟩ := fld_int hi t6 w6
 obtain ⟨a7, e7, q7⟩ := fld_int hi t7 w7
 obtain ⟨v8, a8, e8, q8⟩ := fld_sl dm t8 w8
 obtain ⟨v9, a9, e9, q9⟩ := fld_sl dr t9 w9
 obtain ⟨p2, c2, rfl⟩ := q2.form
 obtain ⟨p3, c3, rfl⟩ := q3.form
 obtain ⟨p8, c8, rfl⟩ := q8.form
 obtain ⟨p9, c9, rfl⟩ := q9.form
 rw [hc] at hl
 match cs, hl with
 | [_, _, _, _, _, _, _, _, _, _], _ =>
  simp at e0 e1 e2 e3 e4 e5 e6 e7 e8 e9
  subst e0 e1 e2 e3 e4 e5 e6 e7 e8 e9
  exact ⟨⟨a0, a1, a2, a3, a4, a5, a6, a7, a8, a9⟩, p2, c2, p3, c3, p8, c8, p9, c9, rfl, q2, q3, q8, q9, q0, q1, q6, q7⟩
section
open Go.ChangeShapes Go.WideShapes Go.ChangeAt
theorem arg_struct {H : Type} {enc : TypeId × Value → H} {P : Program} {W : World} {base : Nat} {t : TypeId} {v : Value} {d : DataW H} {p : List MemPlace} {α : Type} {e : Enc α} {L : List (TypeId × Nat × Nat)} (ht : structK P t = some L) (hd : Dec P t e) (hv : Value.okWide P W .any base t v) (h : DataW.Trod enc P W 0 (fun _ => true) true t v d p) (hw : ∀ n ∈ d.weights P t, n ≤ 140737488351232) :
  ∃ cs a, v = .agg (List.toArray cs) ∧ e.R (allG W) cs a := by
 unfold structK at ht
 split at ht
 ·rename_i fs hu; exact arg_agg hu hd hv h hw
 ·cases ht
end
structure Cfg where
 fan : Int
 leaf : Int
 bud : Int
 slots : Int
 rest : Int
def eCfg : Enc Cfg where
 k := 5
 w := 40
 R := fun _ cs c => cs = [.int .i64 c.fan, .int .i64 c.leaf, .int .i64 c.bud, .int .i64 c.slots, .int .i64 c.rest] ∧ i64 c.fan ∧ i64 c.leaf ∧ i64 c.bud ∧ i64 c.slots ∧ i64 c.rest
 mono := fun _ h => h
 len := fun h => by rw [h.1]; rfl
 one := fun h u hu => by rw [h.1] at hu; simp at hu; rcases hu with rfl | rfl | rfl | rfl | rfl <;> rfl
theorem dec_cfg {P : Program} {t i : TypeId} (ht : structK P t = some [(i, 0, 1), (i, 1, 1), (i, 2, 1), (i, 3, 1), (i, 4, 1)]) (hi : P.underlying i = some (.int .i64)) (hc : P.cellsOf t = 5) : Dec P t eCfg := by
 intro H enc w fuel cs x h hw
 obtain ⟨hl, hf⟩ := trod_fld ht h hw
 obtain ⟨y0, n0, t0, w0⟩ := hf 0 _ _ _ rfl
 obtain ⟨y1, n1, t1, w1⟩ := hf 1 _ _ _ rfl
 obtain ⟨y2, n2, t2, w2⟩ := hf 2 _ _ _ rfl
 obtain ⟨y3, n3, t3, w3⟩ := hf 3 _ _ _ rfl
 obtain ⟨y4, n4, t4, w4⟩ := hf 4 _ _ _ rfl
 obtain ⟨a0, e0, q0⟩ := fld_int hi t0 w0
 obtain ⟨a1, e1, q1⟩ := fld_int hi t1 w1
 obtain ⟨a2, e2, q2⟩ := fld_int hi t2 w2
 obtain ⟨a3, e3, q3⟩ := fld_int hi t3 w3
 obtain ⟨a4, e4, q4⟩ := fld_int hi t4 w4
 rw [hc] at hl
 match cs, hl with
 | [_, _, _, _, _], _ =>
  simp at e0 e1 e2 e3 e4
  subst e0 e1 e2 e3 e4
  exact ⟨⟨a0, a1, a2, a3, a4⟩, rfl, q0, q1, q2, q3, q4⟩
def Str.max (a b : Str) : Str := if a.lt b = true then b else a
def Str.min (a b : Str) : Str := if (a.lt b || decide (a = b)) = true then a else b
section
variable {E : Env} {f : Fr} {G : GH} {M : MH} {d : Nat} {ty : TypeId} {pos : String} {aft : Array Edge} {t t' : TypeId} {x y : Operand} {a b : ByteArray}
theorem ok_addS (hx : ev f x = .string a) (hy : ev f y = .string b) (h : a.size + b.size ≤ 9223372036854775807) : Ok E f G M ⟨some d, .binOp .add t x y t', ty, pos, aft, none⟩ (.string (a ++ b)) := fun w _ => by
 have h2 : ¬ (((a.size + b.size : Nat) : Int) > IntKind.i64.max) := by simp [IntKind.max, IntKind.bits, IntKind.signed]; omega
 simp only [execOp, hx, hy, eqGuard, binOp, Op.stringOp]
 rw [if_neg h2]
 simp
theorem ok_maxS {a b : Str} (hx : ev f x = .string a.b) (hy : ev f y = .string b.b) {at' : Array TypeId} :
  Ok E f G M ⟨some d, .call { callee := .builtin .max, args := #[x, y], argTypes := at' }, ty, pos, aft, none⟩ (.string (Str.max a b).b) := fun _ _ => by
 simp [execOp, resolve, invoke, builtin, hx, hy, Builtin.max_, Builtin.max2, Str.max, Str.lt, blt, Op.stringOp, asBool]
 split <;> simp_all
theorem ok_minS {a b : Str} (hx : ev f x = .string a.b) (hy : ev f y = .string b.b) {at' : Array TypeId} :
  Ok E f G M ⟨some d, .call { callee := .builtin .min, args := #[x, y], argTypes := at' }, ty, pos, aft, none⟩ (.string (Str.min a b).b) := fun _ _ => by
 simp only [execOp, resolve, invoke, builtin, Builtin.min_, Builtin.min2, Str.min, Str.lt, blt, Op.stringOp, asBool, beq_toList]
 simp [hx, hy, Builtin.min2, Op.stringOp, asBool, beq_toList, ← Str.b_inj]
 split <;> simp_all
end
def EachL (p : Nat → Prop) : List Nat → Prop
 | [] => True
 | i :: l => p i ∧ EachL p l
theorem EachL.mem {p : Nat → Prop} : ∀ {l : List Nat}, EachL p l → ∀ i ∈ l, p i
 | _ :: _, h, i, hi => by
  rcases List.mem_cons.1 hi with rfl | hi
  ·exact h.1
  ·exact h.2.mem i hi
theorem W.sub {E : Env} {f : Fr} {G : GH} {M M' : MH} {ops lo : List Oper} {K : Kt} (hs : M'.Sublist M) (h : W E ops.toArray false lo f G M' K) : W E ops.toArray false lo f G M K := fun a w Q hi hr hK => h a w Q hi (hr.sub hs) hK
section
variable {E : Env} {f : Fr} {G : GH} {M Mk : MH} {ops : Array Oper} {K : Kt} {fuel : Nat} {listed : Array Bool}
theorem WD.any (rs : List Nat) (hr : Region.ready .any ops listed = rs) (hne : rs.isEmpty = false)
  (h : EachL (fun i => ∃ o, ops[i]? = some o ∧ o.guard = none ∧ W E [o].toArray false [o] f G M (fun f' G' M' => Le G G' ∧ Mk.Sublist M' ∧ ∃ Mk', Mk'.Sublist M' ∧ Mk.Sublist Mk' ∧ WD E ops fuel (listed.setIfInBounds i true) f' G' M' Mk' K)) rs) : WD E ops (fuel + 1) listed f G M Mk K := by
 intro hsub a w Q hi hw hp hK
 refine wpAnyH_all hr (by intro e; subst e; cases hne) ?_
 intro j hj
 obtain ⟨o, ho, hg, h⟩ := h.mem j hj
 have h1 := h a w (fun e a' w' => e = .normal ∧ E.real G Mk w' ∧ wpAnyH E.P .any ops Q (E.real G Mk) fuel (listed.setIfInBounds j true) a' w') hi hw (by
  rintro f' G' M' a' w' h2 h3 ⟨h4, h5, Mk', h6, h7, h8⟩
  have h9 : E.real G' Mk w' := ⟨h3.r.sub h5, h3.le, h3.nw⟩
  refine ⟨rfl, h9.anti h4 hw.le, ?_⟩
  refine wpAnyH_mono (S := E.real G' Mk') (fun w hw' => ?_) _ _ _ _ (h8 h6 a' w' Q h2 h3 hp hK)
  have h10 : E.real G' Mk w := ⟨hw'.r.sub h7, hw'.le, hw'.nw⟩
  exact h10.anti h4 hw.le)
 unfold wpList at h1
 rw [if_pos (by simp [Region.wanted, hg])] at h1
 unfold wpOp
 simp only [ho]
 rw [if_pos (by simp [Region.wanted, hg])]
 rcases h1 with h1 | ⟨_, a1, w1, h1, _⟩
 ·left
  unfold Oper.wp at h1 ⊢
  exact upon_mono2 h1 (fun a' w' h2 => h2.2) (fun e a' w' he h2 => absurd h2.1 he)
 ·cases h1
end
def Str.cut (a : Str) (lo hi : Nat) : Str := ⟨a.b.extract lo hi, by have := a.le; rw [ByteArray.size_extract]; omega⟩
section
variable {E : Env} {f : Fr} {G : GH} {M : MH} {d : Nat} {ty : TypeId} {pos : String} {aft : Array Edge} {t : TypeId} {x : Operand}
theorem ok_sliceS {a : Str} {lo hi : Option Operand} (l h : Nat) (ht : E.P.underlying t = some .string) (hx : ev f x = .string a.b) (hlo : Bnd f 0 l lo) (hhi : Bnd f a.b.size h hi) (hab : l ≤ h ∧ h ≤ a.b.size) :
  Ok E f G M ⟨some d, .slice t x lo hi none, ty, pos, aft, none⟩ (.string (a.cut l h).b) := fun w _ => by
 obtain ⟨h1, h2⟩ := hab
 have hb : (Instr.sliceBounds false a.b.size a.b.size (lo.map (ev f)) (hi.map (ev f)) none).run E.P w = .ok (l, h, a.b.size) w := by
  cases lo with
  | none =>
   simp only [Bnd] at hlo
   subst hlo
   cases hi with
   | none => simp only [Bnd] at hhi; subst hhi; simp [Instr.sliceBounds]
   | some y =>
    have := run_bnd (P := E.P) (f := f) (x := y) (n := h) (y := a.b.size) (code := .sliceAlen) hhi om9 w
    simp [Instr.sliceBounds, this]
  | some z =>
   have hz := run_bnd (P := E.P) (f := f) (x := z) (n := l) (y := h) (code := .sliceB) hlo h1 w
   cases hi with
   | none => simp only [Bnd] at hhi; subst hhi; simp [Instr.sliceBounds, hz]
   | some y =>
    have := run_bnd (P := E.P) (f := f) (x := y) (n := h) (y := a.b.size) (code := .sliceAlen) hhi om9 w
    simp [Instr.sliceBounds, this, hz]
 simp only [execOp, Instr.sliceAt, Instr.slice, Sem.run_bind, run_underlying ht, Result.andThen_ok, Option.map_none, hx]
 simp [run_underlying ht, hb, Str.cut]
end
end Go.Fw
namespace Go.Fw
open Go
theorem Ok.int {E : Env} {f : Fr} {G : GH} {M : MH} {o : Oper} {k : IntKind} {m n : Int} (h : Ok E f G M o (.int k m)) (e : m = n) : Ok E f G M o (.int k n) := e ▸ h
end Go.Fw
namespace Go.Fw
open Go Go.RowKit
section
variable {E : Env} {f : Fr} {G : GH} {M : MH} {ops rest : List Oper} {q : Bool} {K : Kt} {Q : Exit → Kt} {d : Nat} {ty : TypeId} {pos : String} {aft : Array Edge} {t t' : TypeId} {x y : Operand}
theorem gtr_eq (a b : List UInt8) : (!Op.bytesLess a b && !(a == b)) = Op.bytesLess b a := by
 cases h1 : Op.bytesLess a b
 ·cases h2 : Op.bytesLess b a
  ·have := bytesLess_total h1 h2; subst this; simp
  ·have h3 : a ≠ b := by rintro rfl; rw [bytesLess_irrefl] at h2; cases h2
   simp [h3]
 ·cases h2 : Op.bytesLess b a
  ·simp
  ·have := bytesLess_trans h1 h2; rw [bytesLess_irrefl] at this; cases this
theorem Ok.str {f : Fr} {G : GH} {M : MH} {o : Oper} {a b : ByteArray} (h : Ok E f G M o (.string a)) (e : a = b) : Ok E f G M o (.string b) := e ▸ h
theorem ok_gtrS {a b : ByteArray} {t2 : TypeId} (hx : ev f x = .string a) (hy : ev f y = .string b) : Ok E f G M ⟨some d, .binOp .gtr t x y t2, ty, pos, aft, none⟩ (.bool (blt b a)) := fun _ _ => by
 simp [execOp, hx, hy, eqGuard, binOp, Op.stringOp, blt, gtr_eq]
theorem run_callV {g : FuncId} {fst caps : List Value} {args : List Operand} {at' : Array TypeId} {vs : List Value} {w : World} {dst : Option Nat} (hc : Callable E.P g) (hx : ev f x = .func (.func g) fst.toArray caps.toArray) (ha : fst ++ (args.map (ev f) ++ caps) = vs) :
  (execOp (ev f) ⟨dst, .call { callee := .value x, args := args.toArray, argTypes := at' }, ty, pos, aft, none⟩).run E.P w = .ok (.enter g vs.toArray) w := by
 have h4 := hc (fst.toArray ++ (args.map (ev f)).toArray ++ caps.toArray) w
 have e : fst.toArray ++ (args.map (ev f)).toArray ++ caps.toArray = vs.toArray := by rw [← ha]; simp
 simp only [execOp, resolve, hx, Deferred.ofValue, Sem.run_bind, Sem.run_pure, Result.andThen_ok, invoke, List.map_toArray]
 rw [← e]; exact h4
theorem qcalls {g : FuncId} {vs : List Value} {v : Value} (hc : Fc E.P g vs G [] (fun v' _ _ => v' = v)) {w : World} (hr : E.real G M w) : Calls E.P g vs.toArray w fun e w' => e = .returned v ∧ E.real G M w' := by
 have hw : Real w (fun b => b ∈ (([] : MH).map (·.1))) G [] w := ⟨rfl, rfl, rfl, Nat.le_refl _, fun _ _ _ => rfl, hr.r.ro, (fun _ h => nomatch h), (fun _ h => nomatch h), List.nodup_nil, (fun _ h => nomatch h)⟩
 refine (hc.2 w hw).mono ?_
 rintro e w' ⟨v', G', M', rfl, h2, h3, h4, rfl⟩
 have h5 := Real.call (Mp := []) (Mr := M) (by simpa using hr.r) h2 h4
 have h6 : Real E.w0 E.own G' M w' := h5.sub (List.sublist_append_right _ _)
 refine ⟨rfl, Env.real.anti (G' := G') ⟨h6, hr.le.trans h3, ?_⟩ h3 hr.le⟩
 intro b hb hb'
 cases hg : G b with
 | none =>
  rcases h4 b hg hb' with h7 | h7
  ·exact .inl (Nat.le_trans hr.r.size h7)
  ·simp at h7
 | some o => exact hr.nw b hb (by simp [hg])
theorem W.qcallV {g : FuncId} {fst caps : List Value} {args : List Operand} {at' : Array TypeId} {vs : List Value} {v : Value} (hx : ev f x = .func (.func g) fst.toArray caps.toArray) (hc : Fc E.P g vs G [] (fun v' _ _ => v' = v)) (ha : fst ++ (args.map (ev f) ++ caps) = vs)
  (k : W E ops.toArray q rest (upd f d v) G M K) (hd : Nat.blt d E.n = true := by rfl) :
  W E ops.toArray q (⟨some d, .call { callee := .value x, args := args.toArray, argTypes := at' }, ty, pos, aft, none⟩ :: rest) f G M K := by
 cases q
 ·intro a w Q hi hr hK
  refine wpList_plain rfl fun K' hK' => ?_
  unfold Oper.wp
  rw [hi.eval, run_callV hc.1 hx ha]
  refine (qcalls hc hr).mono ?_
  rintro e w' ⟨rfl, h⟩
  exact hK' _ _ (k _ w' Q (hi.put hd v) h hK)
 ·intro a hi
  refine wpQuiet_step fun K' hK' => ?_
  rw [if_pos (by rfl)]
  refine ⟨v, fun w hr => ?_, hK' _ (k _ (hi.put hd v))⟩
  unfold Oper.quietAt
  rw [hi.eval, run_callV hc.1 hx ha]
  exact ⟨rfl, qcalls hc hr⟩
def OwnAt (Ms : MH) (v : Value) (k n : Nat) (cs : List Value) : Prop := ∃ b len cap T cur, v = .slice (some ⟨b, 0, none⟩) len cap ∧ Ms = [(b, Obj.cells cur T (0, 0))] ∧ ∀ j, j < cs.length → cur[n * k + j]? = cs[j]?
theorem OwnAt.form {Ms : MH} {v : Value} {k n : Nat} {cs : List Value} (h : OwnAt Ms v k n cs) : ∃ a n c, v = .slice (some a) n c := by
 obtain ⟨b, len, cap, T, cur, rfl, _⟩ := h; exact ⟨_, _, _, rfl⟩
theorem OwnR.at {α : Type} {e : Enc α} {T : TypeId} {v : Value} {l : List α} {Ms : MH} (ho : OwnR e T G v l Ms) {i : Nat} (hi : i < l.length) : ∃ cs, OwnAt Ms v e.k i cs ∧ e.R G cs l[i] := by
 obtain ⟨css, h1, ⟨h2, h3⟩, h4⟩ := ho
 obtain ⟨h5, h6⟩ := h1.spec
 obtain ⟨cs, h7, h8⟩ := h6 i hi
 refine ⟨cs, ?_, h8⟩
 rcases h3 with ⟨rfl, hn, _⟩ | ⟨b, cap, cur, rfl, h9, h10, h11, h12, rfl⟩
 ·omega
 ·refine ⟨b, _, cap, T, cur, rfl, rfl, fun j hj => ?_⟩
  have h13 := flatten_get (k := e.k) h1.lens h7 j hj
  have hk : cs.length = e.k := h1.lens cs (List.mem_of_getElem? h7)
  have hlt : i * e.k + j < l.length * e.k := by
   have : (i + 1) * e.k ≤ l.length * e.k := Nat.mul_le_mul_right _ hi
   rw [Nat.add_mul] at this; omega
  rw [← h13, ← h12, List.getElem?_take, if_pos hlt]
  simp
theorem ok_indexAddrO {α : Type} {e : Enc α} {T : TypeId} {v : Value} {l : List α} {Ms : MH} {b : Bool} {k : IntKind} {m : Int} (ht : sliceK E.P t = some t') (hk : tyK E.P t' = some (b, e.k)) (ho : OwnR e T G v l Ms) (hx : ev f x = v) (hy : ev f y = .int k m) {i : Nat} (hi : m = i ∧ i < l.length) :
  Ok E f G M ⟨some d, .indexAddr t x y, ty, pos, aft, none⟩ (.pointer (some (elemA v e.k i 0))) := fun _ _ => by
 obtain ⟨rfl, hi⟩ := hi
 obtain ⟨css, h1, ⟨h2, h3⟩, h4⟩ := ho
 rcases h3 with ⟨rfl, hn, _⟩ | ⟨b, cap, cur, rfl, h9, h10, h11, h12, rfl⟩
 ·omega
 ·simp [execOp, hx, hy, Instr.indexAt, asIntOf, run_underlying (sliceK_und ht), hi, tyK_size hk, elemA, Addr.add_lit]
theorem ok_loadO {kk i o : Nat} {cs vs : List Value} {v : Value} {b : Bool} {j : Nat} {Ms B : MH} (ht : tyK E.P t = some (b, j)) (he : OwnAt Ms v kk i cs) (hM : (Ms ++ B).Perm M) (hx : ev f x = .pointer (some (elemA v kk i o)))
  (hv : (cs.drop o).take j = vs) (hl : vs.length = j) (hb : b = false → j = 1) : Ok E f G M ⟨some d, .load t x, ty, pos, aft, none⟩ (mkV b vs) := fun w hr => by
 obtain ⟨bb, len, cap, T, cur, rfl, rfl, hc⟩ := he
 subst hv
 have hb' : w.heap[bb]? = some (.cells cur T (0, 0)) := hr.r.mu (bb, .cells cur T (0, 0)) ((hM.mem_iff).1 (by simp))
 have := run_loadVar_cells ht hb (w := w) (a := ⟨bb, 0 + i * kk + o, none⟩) hl (fun j' v' hj' => by
  rw [Addr.add_lit]
  rw [List.getElem?_take] at hj'
  split at hj'
  ·rw [List.getElem?_drop] at hj'
   have h1 := hc (o + j') (List.getElem?_eq_some_iff.1 hj').1
   rw [hj'] at h1
   simp only [World.cell?, hb']
   rw [show 0 + i * kk + o + j' = i * kk + (o + j') from by omega]
   exact h1
  ·cases hj')
 simp only [Nat.zero_add] at this
 simp [execOp, hx, Instr.loadAt, Instr.sureAddr, elemA, this]
theorem AllR.set {α : Type} {e : Enc α} {G : GH} {a : α} {cs : List Value} (h : e.R G cs a) : ∀ {css : List (List Value)} {l : List α} {i : Nat}, AllR e G css l → i < l.length → AllR e G (css.set i cs) (l.set i a)
 | [], [], _, _, hi => absurd hi (Nat.not_lt_zero _)
 | _ :: _, _ :: _, 0, h2, _ => ⟨h, h2.2⟩
 | _ :: css, _ :: l, i + 1, h2, hi => ⟨h2.1, AllR.set h h2.2 (by simpa using hi)⟩
theorem flatten_set {k : Nat} : ∀ {css : List (List Value)} {i : Nat} {cs : List Value}, (∀ c ∈ css, c.length = k) → cs.length = k → i < css.length → (css.set i cs).flatten = css.flatten.take (i * k) ++ cs ++ css.flatten.drop (i * k + k)
 | c :: css, 0, cs, h, hc, _ => by
  have := h c (by simp)
  simp only [List.set_cons_zero, List.flatten_cons, Nat.zero_mul, List.take_zero, List.nil_append, Nat.zero_add]
  rw [← this, List.drop_left]
 | c :: css, i + 1, cs, h, hc, hi => by
  have h1 := h c (by simp)
  have h2 := flatten_set (k := k) (css := css) (i := i) (cs := cs) (fun c hc => h c (by simp [hc])) hc (by simpa using hi)
  simp only [List.set_cons_succ, List.flatten_cons]
  rw [h2, Nat.add_mul, Nat.one_mul]
  have e1 : List.take (k + i * k) (c ++ css.flatten) = c ++ css.flatten.take (i * k) := by rw [← h1, List.take_length_add_append]
  have e2 : List.drop (k + (i * k + k)) (c ++ css.flatten) = css.flatten.drop (i * k + k) := by rw [← h1, List.drop_length_add_append]
  rw [show i * k + k = k + i * k from by omega] at e2 ⊢
  rw [e1, show k + i * k + k = k + (k + i * k) from by omega, e2]
  simp
theorem splice {α : Type} (X vs : List α) (ik o j k N : Nat) (h1 : vs.length = j) (h2 : o + j ≤ k) (h3 : ik + k ≤ N) (h4 : N ≤ X.length) :
   List.take N (X.take (ik+o) ++ vs ++ X.drop (ik + o + vs.length)) = (X.take N).take ik ++ (((X.drop ik).take k).take o ++ vs ++ ((X.drop ik).take k).drop (o + vs.length)) ++ (X.take N).drop (ik + k) := by
  subst h1
  apply List.ext_getElem?
  intro p
  rcases Nat.lt_or_ge p ik with h | h
  · simp (disch := (first | omega | (simp only [List.length_append, List.length_take, List.length_drop]; omega))) only [List.getElem?_append_left, List.getElem?_take_of_lt]
  · rcases Nat.lt_or_ge p (ik + o) with h5 | h5
    · simp (disch := (first | omega | (simp only [List.length_append, List.length_take, List.length_drop]; omega))) only [List.getElem?_append_left, List.getElem?_append_right, List.getElem?_take_of_lt, List.getElem?_drop]
      congr 1; simp only [List.length_append, List.length_take, List.length_drop]; omega
    · rcases Nat.lt_or_ge p (ik + o + vs.length) with h6 | h6
      · simp (disch := (first | omega | (simp only [List.length_append, List.length_take, List.length_drop]; omega))) only [List.getElem?_append_left, List.getElem?_append_right, List.getElem?_take_of_lt, List.getElem?_drop]
        congr 1; simp only [List.length_append, List.length_take, List.length_drop]; omega
      · rcases Nat.lt_or_ge p (ik + k) with h7 | h7
        · simp (disch := (first | omega | (simp only [List.length_append, List.length_take, List.length_drop]; omega))) only [List.getElem?_append_left, List.getElem?_append_right, List.getElem?_take_of_lt, List.getElem?_drop]
          congr 1; simp only [List.length_append, List.length_take, List.length_drop]; omega
        · rcases Nat.lt_or_ge p N with h8 | h8
          · simp (disch := (first | omega | (simp only [List.length_append, List.length_take, List.length_drop]; omega))) only [List.getElem?_append_left, List.getElem?_append_right, List.getElem?_take_of_lt, List.getElem?_drop]
            congr 1; simp only [List.length_append, List.length_take, List.length_drop]; omega
          · rw [List.getElem?_eq_none (by simp only [List.length_append, List.length_take, List.length_drop]; omega), List.getElem?_eq_none (by simp only [List.length_append, List.length_take, List.length_drop]; omega)]
theorem W.storeO {α : Type} {e : Enc α} {T : TypeId} {v z : Value} {l : List α} {Ms B : MH} {a' : α} {vs : List Value} {bb : Bool} {i o j : Nat} (ht : tyK E.P t = some (bb, j)) (hx : ev f x = .pointer (some (elemA v e.k i o))) (hy : ev f y = z) (hv : z.cells.toList = vs) (hl : vs.length = j) (h1 : vs.all Value.oneCell' = true)
  (ho : OwnR e T G v l Ms) (hM : (Ms ++ B).Perm M) (hi : i < l.length) (hoj : o + j ≤ e.k) (hR : ∀ cs, e.R G cs l[i] → e.R G (setAt cs o vs) a')
  (k : ∀ Ms', OwnR e T G v (l.set i a') Ms' → W E ops.toArray false rest f G (Ms' ++ B) K) :
  W E ops.toArray false (⟨none, .store t x y, ty, pos, aft, none⟩ :: rest) f G M K := by
 intro a w Q hia hr0 hK
 have hr := hr0.perm hM
 obtain ⟨css, h2, ⟨h3, h4⟩, h5⟩ := ho
 obtain ⟨h6, h7⟩ := h2.spec
 obtain ⟨cs, h8, h9⟩ := h7 i hi
 have hcl : cs.length = e.k := h2.lens cs (List.mem_of_getElem? h8)
 rcases h4 with ⟨rfl, hn, _⟩ | ⟨b, cap, cur, rfl, h10, h11, h12, h13, rfl⟩
 ·omega
 ·have hik : i * e.k + e.k ≤ l.length * e.k := by
   have : (i + 1) * e.k ≤ l.length * e.k := Nat.mul_le_mul_right _ hi
   rw [Nat.add_mul] at this; omega
  have hck : l.length * e.k ≤ cap * e.k := Nat.mul_le_mul_right _ h10
  have hsz : cur.toList.length = cap * e.k := by simpa using h12
  have hb' : w.heap[b]? = some (.cells cur.toList.toArray T (0, 0)) := by simpa using hr.r.mu (b, .cells cur T (0, 0)) (by simp)
  have hrun : (execOp (ev f) ⟨none, .store t x y, ty, pos, aft, none⟩).run E.P w = .ok .skip (w.setRow b (setAt cur.toList (i * e.k + o) vs).toArray) := by
   have q3 := run_storeCells_at E.P b (i * e.k + o) T vs 0 cur w (by simpa using hb') om9 (oneAll_spec h1)
   simp only [Nat.add_zero] at q3
   rw [← setAt_eq cur.toList (i * e.k + o) vs om9] at q3
   have q4 : z.cells.size = j := by rw [← hl, ← hv]; simp
   simp [execOp, hx, hy, Instr.storeAt, Instr.sureAddr, storeVar, tyK_size ht, q4, hv, q3, elemA]
  have hset : setAt cs o vs = cs.take o ++ vs ++ cs.drop (o + vs.length) := setAt_eq cs o vs om9
  have hcs' : (setAt cs o vs).length = e.k := by rw [setAt_length cs o vs om9, hcl]
  refine wpList_plain rfl fun K' hK' => ?_
  unfold Oper.wp
  rw [hia.eval, hrun]
  refine hK' _ _ (k [(b, .cells (setAt cur.toList (i * e.k + o) vs).toArray T (0, 0))] ⟨css.set i (setAt cs o vs), AllR.set (hR cs h9) h2 hi, ⟨?_, .inr ⟨b, cap, _, by simp, by simpa using h10, h11, ?_, ?_, rfl⟩⟩, by simpa using h5⟩ _ _ Q (hia.put_none undef) (setRow_real0 hr) hK)
  ·rw [flatten_set h2.lens hcs' om9]
   simp only [List.length_append, List.length_take, List.length_drop, hcs', h3, List.length_set]
   omega
  ·simp only [List.size_toArray]
   rw [setAt_length _ _ _ om9, hsz]
  ·rw [flatten_set h2.lens hcs' om9, hset]
   have hfl : css.flatten = cur.toList.take (l.length * e.k) := h13.symm
   have hcs : cs = (cur.toList.drop (i * e.k)).take e.k := by
    apply List.ext_getElem?
    intro p
    rw [List.getElem?_take, List.getElem?_drop]
    by_cases hp : p < e.k
    ·have := flatten_get (k := e.k) h2.lens h8 p om9
     rw [if_pos hp, ← this, hfl, List.getElem?_take, if_pos om9]
    ·rw [if_neg hp, List.getElem?_eq_none om9]
   simp only [List.toList_toArray, List.length_set]
   rw [setAt_eq _ _ _ om9, hfl, hcs]
   exact splice cur.toList vs (i * e.k) o j e.k (l.length * e.k) hl hoj hik om9
end
section
variable {E : Env} {f : Fr} {G : GH} {M Mk : MH} {ops : Array Oper} {K : Kt} {fuel : Nat} {listed : Array Bool}
end
def capV : Value → Nat
 | .slice _ _ c => c
 | _ => 0
def OwnP {α : Type} (e : Enc α) (T : TypeId) (G : GH) (v : Value) (n : Nat) (P : List α) (gap : Nat) (S : List α) (Ms : MH) : Prop :=
 ∃ b cap cur cp cs, v = .slice (some ⟨b, 0, none⟩) n cap ∧ Ms = [(b, Obj.cells cur T (0, 0))] ∧ AllR e G cp P ∧ AllR e G cs S ∧ P.length + gap + S.length = n ∧ n ≤ cap ∧ cap ≤ maxLen ∧ cur.size = cap * e.k ∧
  cur.toList.take (P.length * e.k) = cp.flatten ∧ (cur.toList.drop ((P.length + gap) * e.k)).take (S.length * e.k) = cs.flatten ∧ n * e.w ≤ 140737488355328
def Src {α : Type} (e : Enc α) (E : Env) (G : GH) (M : MH) (u : Value) (Q : List α) : Prop :=
 ∃ a c css, u = .slice a Q.length c ∧ AllR e G css Q ∧ (a = none → Q = []) ∧ ∀ w, E.real G M w → ∀ ad, a = some ad → ∀ j v, css.flatten[j]? = some v → w.cell? (ad.add j) = some v
section
variable {E : Env} {f : Fr} {G G' : GH} {M : MH} {ops rest : List Oper} {q : Bool} {K : Kt} {Q : Exit → Kt} {d : Nat} {ty : TypeId} {pos : String} {aft : Array Edge} {t t' : TypeId} {x y : Operand}
variable {α : Type} {e : Enc α} {T : TypeId} {v : Value} {l P S : List α} {Ms B : MH} {n gap : Nat}
theorem AllR.take_ : ∀ {css : List (List Value)} {l : List α} (n : Nat), AllR e G css l → AllR e G (css.take n) (l.take n)
 | [], [], n, _ => by simp [AllR]
 | _ :: _, _ :: _, 0, _ => by simp [AllR]
 | _ :: _, _ :: _, n + 1, h => ⟨h.1, AllR.take_ n h.2⟩
theorem AllR.drop_ : ∀ {css : List (List Value)} {l : List α} (n : Nat), AllR e G css l → AllR e G (css.drop n) (l.drop n)
 | [], [], n, _ => by simp [AllR]
 | _ :: _, _ :: _, 0, h => h
 | _ :: _, _ :: _, n + 1, h => AllR.drop_ n h.2
theorem flat_take {k : Nat} : ∀ {css : List (List Value)} (n : Nat), (∀ c ∈ css, c.length = k) → (css.take n).flatten = css.flatten.take (n * k)
 | [], n, _ => by simp
 | c :: css, 0, h => by simp
 | c :: css, n + 1, h => by
  have h1 := h c (by simp)
  rw [List.take_succ_cons, List.flatten_cons, List.flatten_cons, flat_take n (fun c hc => h c (by simp [hc])), Nat.add_mul, Nat.one_mul, ← h1, Nat.add_comm, List.take_length_add_append]
theorem flat_drop {k : Nat} : ∀ {css : List (List Value)} (n : Nat), (∀ c ∈ css, c.length = k) → (css.drop n).flatten = css.flatten.drop (n * k)
 | [], n, _ => by simp
 | c :: css, 0, h => by simp
 | c :: css, n + 1, h => by
  have h1 := h c (by simp)
  rw [List.drop_succ_cons, List.flatten_cons, flat_drop n (fun c hc => h c (by simp [hc])), Nat.add_mul, Nat.one_mul, ← h1, Nat.add_comm, List.drop_length_add_append]
theorem OwnR.open (ho : OwnR e T G v l Ms) (h : 0 < l.length) : OwnP e T G v l.length l 0 [] Ms := by
 obtain ⟨css, h1, ⟨h2, h3⟩, h4⟩ := ho
 rcases h3 with ⟨_, hn, _⟩ | ⟨b, cap, cur, rfl, h5, h6, h7, h8, rfl⟩
 ·omega
 ·exact ⟨b, cap, cur, css, [], rfl, rfl, h1, trivial, by simp, h5, h6, h7, h8, by simp, h4⟩
theorem OwnP.own (h : OwnP e T G v n P 0 S Ms) : OwnR e T G v (P ++ S) Ms := by
 obtain ⟨b, cap, cur, cp, cs, rfl, rfl, h3, h4, h5, h6, h7, h8, h9, h10, h11⟩ := h
 have hn : (P ++ S).length = n := by simp; omega
 have hp := h3.flat_len
 have hs := h4.flat_len
 refine ⟨cp ++ cs, h3.append h4, ⟨?_, .inr ⟨b, cap, cur, by rw [hn], by rw [hn]; exact h6, h7, h8, ?_, rfl⟩⟩, by rw [hn]; exact h11⟩
 ·simp only [List.flatten_append, List.length_append, hp, hs, Nat.add_mul]
 ·rw [List.flatten_append, ← h9, ← h10, List.length_append, Nat.add_mul, List.take_add]
  simp
theorem OwnP.cap_le (h : OwnP e T G v n P gap S Ms) : n ≤ capV v := by
 obtain ⟨b, cap, cur, cp, cs, rfl, rfl, h3, h4, h5, h6, h7⟩ := h; exact h6
theorem OwnP.extend {m : Nat} (h : OwnP e T G v n P 0 [] Ms) (hm : n + m ≤ capV v) (hw : (n + m) * e.w ≤ 140737488355328) (h0 : 0 < n) : OwnP e T G (sliceV v e.k 0 (n + m)) (n + m) P m [] Ms := by
 obtain ⟨b, cap, cur, cp, cs, rfl, rfl, h3, h4, h5, h6, h7, h8, h9, h10, h11⟩ := h
 simp only [capV] at hm
 refine ⟨b, cap, cur, cp, [], ?_, rfl, h3, trivial, by simp at h5 ⊢; omega, hm, h7, h8, h9, by simp, hw⟩
 simp only [sliceV]
 rw [if_neg om9]
 simp [Addr.add_lit]
theorem made_flat (z : Array Value) (n : Nat) : (madeCells z (n * z.size)).toList = (List.replicate n z.toList).flatten := by
 apply List.ext_getElem?
 intro j
 simp only [madeCells, Array.toList_map, Array.toList_range, List.getElem?_map]
 by_cases hj : j < n * z.size
 ·have hz : 0 < z.size := by
   rcases Nat.eq_zero_or_pos z.size with h | h
   ·simp [h] at hj
   ·exact h
  have hd : j / z.size < n := (Nat.div_lt_iff_lt_mul hz).2 hj
  have hm : j % z.size < z.size := Nat.mod_lt _ hz
  have h1 := flatten_get (k := z.size) (css := List.replicate n z.toList) (i := j / z.size) (cs := z.toList) (fun c hc => by rw [List.eq_of_mem_replicate hc]; simp) (by simp [hd]) (j % z.size) (by simpa using hm)
  rw [show j / z.size * z.size + j % z.size = j from by rw [Nat.mul_comm]; exact Nat.div_add_mod j z.size] at h1
  rw [h1]
  simp [hj, hm, getElem!_pos]
 ·have h2 : (List.replicate n z.toList).flatten.length = n * z.size := by simp
  rw [List.getElem?_eq_none (by simpa using hj), List.getElem?_eq_none (by rw [h2]; omega)]
  rfl
theorem zeroCells_flat (z : Array Value) (n : Nat) : (Builtin.zeroCells z n).toList = (List.replicate n z.toList).flatten := made_flat z n
theorem ok_sliceG {bb : Bool} {ad : Option Addr} {n cap : Nat} {k : Nat} {lo hi : Option Operand} (a b : Nat) (ht : sliceK E.P t = some t') (hk : tyK E.P t' = some (bb, k)) (hx : ev f x = .slice ad n cap) (hlo : Bnd f 0 a lo) (hhi : Bnd f n b hi) (hab : a ≤ b ∧ b ≤ cap) :
  Ok E f G M ⟨some d, .slice t x lo hi none, ty, pos, aft, none⟩ (sliceV (.slice ad n cap) k a b) := fun w _ => by
 obtain ⟨h1, h2⟩ := hab
 have hb : (Instr.sliceBounds true n cap (lo.map (ev f)) (hi.map (ev f)) none).run E.P w = .ok (a, b, cap) w := by
  cases lo with
  | none =>
   simp only [Bnd] at hlo
   subst hlo
   cases hi with
   | none => simp only [Bnd] at hhi; subst hhi; simp [Instr.sliceBounds]
   | some y =>
    have := run_bnd (P := E.P) (f := f) (x := y) (n := b) (y := cap) (code := .sliceAcap) hhi om9 w
    simp [Instr.sliceBounds, this]
  | some z =>
   have hz := run_bnd (P := E.P) (f := f) (x := z) (n := a) (y := b) (code := .sliceB) hlo h1 w
   cases hi with
   | none => simp only [Bnd] at hhi; subst hhi; simp [Instr.sliceBounds, hz]
   | some y =>
    have := run_bnd (P := E.P) (f := f) (x := y) (n := b) (y := cap) (code := .sliceAcap) hhi om9 w
    simp [Instr.sliceBounds, this, hz]
 simp only [execOp, Instr.sliceAt, Instr.slice, Sem.run_bind, run_underlying (sliceK_und ht), Result.andThen_ok, Option.map_none, hx]
 simp [run_underlying (sliceK_und ht), hb, tyK_size hk, sliceV]
theorem ok_sliceP {bb : Bool} {lo hi : Option Operand} (a b : Nat) (ht : sliceK E.P t = some t') (hk : tyK E.P t' = some (bb, e.k)) (ho : OwnP e T G v n P gap S Ms) (hx : ev f x = v) (hlo : Bnd f 0 a lo) (hhi : Bnd f n b hi) (hab : a ≤ b ∧ b ≤ capV v) :
  Ok E f G M ⟨some d, .slice t x lo hi none, ty, pos, aft, none⟩ (sliceV v e.k a b) := by
 obtain ⟨bl, cap, cur, cp, cs, rfl, rfl, _⟩ := ho
 exact ok_sliceG a b ht hk hx hlo hhi hab
theorem ok_sliceO {bb : Bool} {lo hi : Option Operand} (a b : Nat) (ht : sliceK E.P t = some t') (hk : tyK E.P t' = some (bb, e.k)) (ho : OwnR e T G v l Ms) (hx : ev f x = v) (hlo : Bnd f 0 a lo) (hhi : Bnd f l.length b hi) (hab : a ≤ b ∧ (b ≤ l.length ∨ b ≤ capV v)) :
  Ok E f G M ⟨some d, .slice t x lo hi none, ty, pos, aft, none⟩ (sliceV v e.k a b) := by
 obtain ⟨css, h1, ⟨h2, h3⟩, h4⟩ := ho
 rcases h3 with ⟨rfl, hn, _⟩ | ⟨bl, cap, cur, rfl, h5, h6, h7, h8, rfl⟩
 ·rw [hn] at hhi
  refine ok_sliceG a b ht hk hx hlo hhi ⟨hab.1, ?_⟩
  rcases hab.2 with h | h
  ·omega
  ·exact h
 ·refine ok_sliceG a b ht hk hx hlo hhi ⟨hab.1, ?_⟩
  rcases hab.2 with h | h
  ·omega
  ·exact h
theorem ok_capO {c : Nat} (ht : sliceK E.P t = some t') {ad : Option Addr} {m : Nat} (hx : ev f x = .slice ad m c) : Ok E f G M ⟨some d, .call { callee := .builtin .cap, args := #[x], argTypes := #[t] }, ty, pos, aft, none⟩ (.int .i64 c) := fun _ _ => by
 simp [execOp, resolve, invoke, builtin, hx, Builtin.cap_, run_underlying (sliceK_und ht), goInt]
theorem OwnR.capForm (ho : OwnR e T G v l Ms) : ∃ a, v = .slice a l.length (capV v) := by
 obtain ⟨a, c, rfl⟩ := ho.form; exact ⟨a, rfl⟩
theorem blk_of {b : Nat} {o : Obj} (hM : ([(b, o)] ++ B).Perm M) {w : World} (hw : E.real G M w) : w.heap[b]? = some o := hw.r.mu (b, o) (hM.mem_iff.1 (by simp))
theorem Src.ofOwn (ho : OwnR e T G v l Ms) (hM : (Ms ++ B).Perm M) {lo : Nat} (hlo : lo ≤ l.length) (h0 : 0 < l.length) : Src e E G M (sliceV v e.k lo l.length) (l.drop lo) := by
 obtain ⟨css, h1, ⟨h2, h3⟩, h4⟩ := ho
 rcases h3 with ⟨_, hn, _⟩ | ⟨b, cap, cur, rfl, h5, h6, h7, h8, rfl⟩
 ·omega
 ·refine ⟨if cap = lo then some ⟨b, 0, none⟩ else some ⟨b, lo * e.k, none⟩, cap - lo, css.drop lo, ?_, h1.drop_ lo, ?_, ?_⟩
  ·simp only [sliceV, List.length_drop, Option.map_some, Addr.add_lit, Nat.zero_add]
  ·intro h; split at h <;> cases h
  ·intro w hw ad had j u hj
   rw [flat_drop lo h1.lens, List.getElem?_drop] at hj
   have hb := blk_of hM hw
   have hlt := (List.getElem?_eq_some_iff.1 hj).1
   rw [h2] at hlt
   have hne : ¬ cap = lo := by
    intro e1; subst e1
    have : l.length = cap := om9
    rw [this] at hlt; omega
   rw [if_neg hne] at had
   cases had
   rw [Addr.add_lit]
   simp only [World.cell?, hb]
   rw [← h8, List.getElem?_take, if_pos hlt] at hj
   simpa using hj
theorem run_copyG {w : World} {bb : Bool} {b o dl dc : Nat} {a : Option Addr} {sl sc : Nat} {cur : Array Value} {cs : List Value} (ht : sliceK E.P t = some t') (hk : tyK E.P t' = some (bb, e.k)) (hg : w.heap[b]? = some (.cells cur T (0, 0))) (hn : cs.length = Nat.min sl dl * e.k)
  (hsrc : ∀ ad, a = some ad → ∀ j v, cs[j]? = some v → w.cell? (ad.add j) = some v) (ha : a = none → cs = []) (hfit : o + cs.length ≤ cur.size) (h1 : ∀ v ∈ cs, v.oneCell' = true) :
  ∃ z, (Builtin.copy_ #[t, t] ty #[.slice (some ⟨b, o, none⟩) dl dc, .slice a sl sc]).run E.P w = .ok z (w.setRow b (cur.toList.take o ++ cs ++ cur.toList.drop (o + cs.length)).toArray) := by
 have hst := run_storeCells_at E.P b o T cs 0 cur w hg (by simpa using hfit) h1
 simp only [Nat.add_zero] at hst
 refine ⟨goInt (Nat.min sl dl), ?_⟩
 cases a with
 | none =>
  have hcs := ha rfl
  subst hcs
  have h0 : Nat.min sl dl * e.k = 0 := by simpa using hn.symm
  simp only [List.length_nil, Nat.add_zero] at hst
  simp [Builtin.copy_, run_underlying (sliceK_und ht), tyK_size hk, Builtin.lenOf, Builtin.firstCells, hst]
 | some ad =>
  have hl := run_loadCells_list (P := E.P) w ad cs (hsrc ad rfl)
  simp [Builtin.copy_, run_underlying (sliceK_und ht), tyK_size hk, Builtin.lenOf, Builtin.firstCells, ← hn, hl, hst]
theorem W.copyRun {w' : World → World} {vx vy : Value} (hx : ev f x = vx) (hy : ev f y = vy) {M' : MH} (hrun : ∀ w, E.real G M w → ∃ z, (Builtin.copy_ #[t, t] ty #[vx, vy]).run E.P w = .ok z (w' w) ∧ E.real G M' (w' w))
  (k : ∀ z, W E ops.toArray false rest (upd f d z) G M' K) (hd : Nat.blt d E.n = true := by rfl) : W E ops.toArray false (⟨some d, .call { callee := .builtin .copy, args := #[x, y], argTypes := #[t, t] }, ty, pos, aft, none⟩ :: rest) f G M K := by
 intro a w Q hi hr hK
 obtain ⟨z, h1, h2⟩ := hrun w hr
 have hrun : (execOp (ev f) ⟨some d, .call { callee := .builtin .copy, args := #[x, y], argTypes := #[t, t] }, ty, pos, aft, none⟩).run E.P w = .ok (.value z) (w' w) := by
  simp [execOp, resolve, invoke, builtin, hx, hy, h1]
 refine wpList_plain rfl fun K' hK' => ?_
 unfold Oper.wp
 rw [hi.eval, hrun]
 exact hK' _ _ (k z _ _ Q (hi.put hd z) h2 hK)
theorem sliceV_some {b n cap k lo hi : Nat} (h : lo < cap ∨ lo = 0) : sliceV (.slice (some ⟨b, 0, none⟩) n cap) k lo hi = .slice (some ⟨b, lo * k, none⟩) (hi - lo) (cap - lo) := by
 simp only [sliceV, Option.map_some, Addr.add_lit, Nat.zero_add]
 split
 ·rcases h with h | h
  ·omega
  ·subst h; simp
 ·rfl
theorem W.copyP {bb : Bool} {Q : List α} {u : Value} (p : Nat) (hpl : P.length = p) (ht : sliceK E.P t = some t') (hk : tyK E.P t' = some (bb, e.k)) (hp : OwnP e T G v n P gap S Ms) (hM : (Ms ++ B).Perm M) (hs : Src e E G M u Q) (hx : ev f x = sliceV v e.k p n) (hy : ev f y = u) (hq : Q.length ≤ gap) (h0 : 0 < gap)
  (k : ∀ z Ms', OwnP e T G v n (P ++ Q) (gap - Q.length) S Ms' → W E ops.toArray false rest (upd f d z) G (Ms' ++ B) K) (hd : Nat.blt d E.n = true := by rfl) :
  W E ops.toArray false (⟨some d, .call { callee := .builtin .copy, args := #[x, y], argTypes := #[t, t] }, ty, pos, aft, none⟩ :: rest) f G M K := by
 subst hpl
 obtain ⟨b, cap, cur, cp, cs, rfl, rfl, h3, h4, h5, h6, h7, h8, h9, h10, h11⟩ := hp
 obtain ⟨a, c, css, rfl, g1, g2, g3⟩ := hs
 have hcl := g1.flat_len
 have hPl := h3.flat_len
 have hcur : cur.toList.length = cap * e.k := by simpa using h8
 have hle : (P.length + gap + S.length) * e.k ≤ cap * e.k := Nat.mul_le_mul_right _ om9
 have hqk : Q.length * e.k ≤ gap * e.k := Nat.mul_le_mul_right _ hq
 simp only [Nat.add_mul] at hle
 rw [sliceV_some om9] at hx
 refine W.copyRun (w' := fun w => w.setRow b (cur.toList.take (P.length * e.k) ++ css.flatten ++ cur.toList.drop (P.length * e.k + css.flatten.length)).toArray) (M' := [(b, .cells (cur.toList.take (P.length * e.k) ++ css.flatten ++ cur.toList.drop (P.length * e.k + css.flatten.length)).toArray T (0, 0))] ++ B) hx hy (fun w hw => ?_) (fun z => k z _ ?_) hd
 ·obtain ⟨z, hz⟩ := run_copyG (ty := ty) (dl := n - P.length) (dc := cap - P.length) (sl := Q.length) (sc := c) (a := a) (e := e) (o := P.length * e.k) ht hk (blk_of hM hw) (by have hmn : Nat.min Q.length (n - P.length) = Q.length := Nat.min_eq_left om9; rw [hcl, hmn]) (fun ad had j v hj => g3 w hw ad had j v hj) (fun ha => by have := g2 ha; subst this; exact List.eq_nil_of_length_eq_zero (by simpa using hcl)) om9 g1.one
  exact ⟨z, hz, setRow_real0 (hw.perm hM)⟩
 ·refine ⟨b, cap, _, cp ++ css, cs, rfl, rfl, h3.append g1, h4, by simp; omega, h6, h7, ?_, ?_, ?_, h11⟩
  ·simp only [List.size_toArray, List.length_append, List.length_take, List.length_drop, hcur, hcl]; omega
  ·rw [List.toList_toArray, List.length_append, Nat.add_mul, List.flatten_append, ← h9]
   have e1 : (cur.toList.take (P.length * e.k) ++ css.flatten).length = P.length * e.k + Q.length * e.k := by simp only [List.length_append, List.length_take, hcur, hcl]; omega
   rw [← e1, List.take_left]
  ·rw [List.toList_toArray, ← h10, List.length_append]
   rw [show P.length + Q.length + (gap - Q.length) = P.length + gap from by omega]
   congr 1
   have e1 : (cur.toList.take (P.length * e.k) ++ css.flatten).length = P.length * e.k + Q.length * e.k := by simp only [List.length_append, List.length_take, hcur, hcl]; omega
   rw [List.drop_append, List.drop_eq_nil_of_le (by rw [e1, Nat.add_mul]; omega), List.nil_append, List.drop_drop, e1, hcl]
   congr 1
   rw [Nat.add_mul]; omega
theorem W.copyShift {bb : Bool} {i : Nat} (ht : sliceK E.P t = some t') (hk : tyK E.P t' = some (bb, e.k)) (hp : OwnP e T G v n P gap [] Ms) (hM : (Ms ++ B).Perm M) (hx : ev f x = sliceV v e.k (i + gap) n) (hy : ev f y = sliceV v e.k i n) (hi : i < P.length)
  (k : ∀ z Ms', OwnP e T G v n (P.take i) gap (P.drop i) Ms' → W E ops.toArray false rest (upd f d z) G (Ms' ++ B) K) (hd : Nat.blt d E.n = true := by rfl) :
  W E ops.toArray false (⟨some d, .call { callee := .builtin .copy, args := #[x, y], argTypes := #[t, t] }, ty, pos, aft, none⟩ :: rest) f G M K := by
 obtain ⟨b, cap, cur, cp, cs, rfl, rfl, h3, h4, h5, h6, h7, h8, h9, h10, h11⟩ := hp
 simp only [List.length_nil, Nat.add_zero] at h5
 have hPl := h3.flat_len
 have hcur : cur.toList.length = cap * e.k := by simpa using h8
 have hle : (P.length + gap) * e.k ≤ cap * e.k := Nat.mul_le_mul_right _ om9
 have hik : i * e.k ≤ P.length * e.k := Nat.mul_le_mul_right _ om9
 have hdl : (cp.drop i).flatten.length = (P.length - i) * e.k := by rw [(h3.drop_ i).flat_len, List.length_drop]
 have hsub : (P.length - i) * e.k = P.length * e.k - i * e.k := Nat.sub_mul _ _ _
 simp only [Nat.add_mul] at hle
 rw [sliceV_some om9] at hx hy
 refine W.copyRun (w' := fun w => w.setRow b (cur.toList.take ((i + gap) * e.k) ++ (cp.drop i).flatten ++ cur.toList.drop ((i + gap) * e.k + (cp.drop i).flatten.length)).toArray) (M' := [(b, .cells (cur.toList.take ((i + gap) * e.k) ++ (cp.drop i).flatten ++ cur.toList.drop ((i + gap) * e.k + (cp.drop i).flatten.length)).toArray T (0, 0))] ++ B) hx hy (fun w hw => ?_) (fun z => k z _ ?_) hd
 ·have hb := blk_of hM hw
  obtain ⟨z, hz⟩ := run_copyG (ty := ty) (dl := n - (i + gap)) (dc := cap - (i + gap)) (sl := n - i) (sc := cap - i) (a := some ⟨b, i * e.k, none⟩) (e := e) (o := (i + gap) * e.k) ht hk hb (by have hmn : Nat.min (n - i) (n - (i + gap)) = n - (i + gap) := Nat.min_eq_right om9; rw [hdl, hmn]; congr 1; omega) (fun ad had j v hj => by
   cases had
   rw [Addr.add_lit]
   simp only [World.cell?, hb]
   rw [flat_drop i h3.lens, List.getElem?_drop, ← h9, List.getElem?_take] at hj
   split at hj
   ·simpa using hj
   ·cases hj) (fun ha => by cases ha) (by rw [hdl, Nat.add_mul, h8]; omega) (h3.drop_ i).one
  exact ⟨z, hz, setRow_real0 (hw.perm hM)⟩
 ·have e1 : (cur.toList.take ((i + gap) * e.k)).length = (i + gap) * e.k := by simp only [List.length_take, hcur, Nat.add_mul]; omega
  refine ⟨b, cap, _, cp.take i, cp.drop i, rfl, rfl, h3.take_ i, h3.drop_ i, by simp; omega, h6, h7, ?_, ?_, ?_, h11⟩
  ·have e5 := Nat.add_mul i gap e.k
   simp only [List.size_toArray, List.length_append, List.length_drop, e1, hcur, hdl]; omega
  ·have e2 : Min.min (i * e.k) ((i + gap) * e.k) = i * e.k := Nat.min_eq_left (by rw [Nat.add_mul]; omega)
   have e3 : Min.min (i * e.k) (P.length * e.k) = i * e.k := Nat.min_eq_left om9
   rw [List.toList_toArray, flat_take i h3.lens, ← h9, List.length_take, Nat.min_eq_left om9, List.append_assoc, List.take_append_of_le_length (by rw [e1, Nat.add_mul]; omega), List.take_take, List.take_take, e2, e3]
  ·rw [List.toList_toArray, List.length_take, Nat.min_eq_left om9, List.length_drop, List.append_assoc]
   rw [List.drop_append, List.drop_eq_nil_of_le (by rw [e1]; omega), List.nil_append, e1, Nat.sub_self, List.drop_zero, List.take_append_of_le_length (by rw [hdl]; omega), List.take_of_length_le (by rw [hdl]; omega)]
theorem W.appZ {bb : Bool} {z : List Value} {tn : TypeId} {i c : Nat} (ht : sliceK E.P t = some t') (hk : tyK E.P t' = some (bb, e.k)) (hz : zeroK E.P t' = some z) (hzl : Nat.beq z.length e.k = true) (hb : bytesK E.P t' = some e.w) (hn : E.P.underlying tn = some (.int .i64))
  (ho : OwnR e t' G v l Ms) (hM : (Ms ++ B).Perm M) (hx : ev f x = sliceV v e.k 0 i) (hy : ev f y = .int .i64 (c : Int)) (hi : i ≤ l.length) (h0 : 0 < c) (hl0 : 0 < l.length) (hcap : capV v < i + c) (hsz : (i + c) * e.w ≤ 140737488355328) (hkp : Nat.blt 0 e.k = true)
  (k : ∀ v2 Ms2, OwnP e t' G v2 (i + c) (l.take i) c [] Ms2 → W E ops.toArray false rest (upd f d v2) G (Ms2 ++ (Ms ++ B)) K) (hd : Nat.blt d E.n = true := by rfl) :
  W E ops.toArray false (⟨some d, .call { callee := .builtin .append, args := #[x, y], argTypes := #[t, tn] }, ty, pos, aft, none⟩ :: rest) f G M K := by
 intro a w Q hia hr hK
 have hrp := hr.perm hM
 obtain ⟨css, h1, ⟨h2, h3⟩, h4⟩ := ho
 have hund := sliceK_und ht
 have hinfo : ∃ info zv, E.P.info? t' = some info ∧ info.zero = some zv ∧ info.size = e.k ∧ info.bytes = e.w ∧ zv.cells.size = e.k := by
  simp only [zeroK, Option.map_eq_some_iff, Option.bind_eq_some_iff] at hz
  obtain ⟨zv, ⟨info, h1, h2⟩, rfl⟩ := hz
  have h3 := tyK_size hk w
  simp [sizeOf, typeInfo, h1] at h3
  simp only [bytesK, h1, Option.map_some, Option.some.injEq] at hb
  exact ⟨info, zv, h1, h2, h3, hb, by simpa using Nat.eq_of_beq_eq_true hzl⟩
 obtain ⟨info, zv, hi1, hi2, hi3, hi4, hi5⟩ := hinfo
 have hk0 : 0 < e.k := by have := hkp; simp [Nat.blt] at this; omega
 have hw0 := e.wpos
 have hle : i + c ≤ 140737488355328 := Nat.le_trans (Nat.le_mul_of_pos_right _ hw0) hsz
 rcases h3 with ⟨_, hn0, _⟩ | ⟨b, cap, cur, rfl, h5, h6, h7, h8, rfl⟩
 ·omega
 ·simp only [capV] at hcap
  have hvx : sliceV (.slice (some ⟨b, 0, none⟩) l.length cap) e.k 0 i = .slice (some ⟨b, 0, none⟩) i cap := by rw [sliceV_some (.inr rfl)]; simp
  rw [hvx] at hx
  have hcur : cur.toList.length = cap * e.k := by simpa using h7
  have hb' : w.heap[b]? = some (.cells cur t' (0, 0)) := blk_of hM hr
  have hfl : css.flatten = cur.toList.take (l.length * e.k) := h8.symm
  have hik : i * e.k ≤ l.length * e.k := Nat.mul_le_mul_right _ hi
  have hlk : l.length * e.k ≤ cap * e.k := Nat.mul_le_mul_right _ h5
  have holds : (css.take i).flatten = cur.toList.take (i * e.k) := by rw [flat_take i h1.lens, hfl, List.take_take]; congr 1; omega
  have hol : (css.take i).flatten.length = i * e.k := by rw [holds, List.length_take, hcur]; omega
  have hold : (Builtin.firstCells info.size i (.slice (some ⟨b, 0, none⟩) i cap)).run E.P w.drew = .ok (css.take i).flatten.toArray w.drew := by
   rw [hi3]
   have hc : ∀ j u, (css.take i).flatten[j]? = some u → w.drew.cell? ((⟨b, 0, none⟩ : Addr).add j) = some u := fun j u hj => by
    rw [Addr.add_lit, Nat.zero_add]
    have hlt := (List.getElem?_eq_some_iff.1 hj).1
    rw [holds, List.getElem?_take] at hj
    split at hj
    ·show World.cell? { w with drawn := w.drawn + 1 } _ = _
     simp only [World.cell?, hb']
     simpa using hj
    ·cases hj
   have hl2 := run_loadCells_list (P := E.P) w.drew ⟨b, 0, none⟩ (css.take i).flatten hc
   rw [hol] at hl2
   simp [Builtin.firstCells, hl2]
  have hge := grownCap_ge w (i + c) cap t'
  have hcm := grownCap_le_maxLen w (i + c) cap t' (by simp only [maxLen]; omega)
  have hap := Lib.run_append_grow_zeros (P := E.P) (ty := ty) w t tn t' info zv .i64 .i64 hund hn hi1 hi2 (some ⟨b, 0, none⟩) i cap (css.take i).flatten hold c h0 om9 hcap om9 (by rw [hi4]; have : c * e.w ≤ (i + c) * e.w := Nat.mul_le_mul_right _ om9; omega) (by rw [hi4]; have := growslice_fits hcap hsz; omega)
  have hrun : (execOp (ev f) ⟨some d, .call { callee := .builtin .append, args := #[x, y], argTypes := #[t, tn] }, ty, pos, aft, none⟩).run E.P w = .ok (.value (.slice (some ⟨w.heap.size, 0, none⟩) (i + c) (grownCap w (i + c) cap t'))) (w.drew.alloc (.cells ((css.take i).flatten.toArray ++ Builtin.zeroCells zv.cells c ++ Builtin.zeroCells zv.cells (grownCap w (i + c) cap t' - (i + c))) t' (0, 0))) := by
   simp only [execOp, resolve, invoke, builtin, Sem.run_bind, Sem.run_pure, Result.andThen_ok, List.map_toArray, List.map_cons, List.map_nil, hx, hy, hap]
  refine wpList_plain rfl fun K' hK' => ?_
  unfold Oper.wp
  rw [hia.eval, hrun]
  refine hK' _ _ (k _ [(w.heap.size, .cells ((css.take i).flatten.toArray ++ Builtin.zeroCells zv.cells c ++ Builtin.zeroCells zv.cells (grownCap w (i + c) cap t' - (i + c))) t' (0, 0))] ⟨_, _, _, css.take i, [], rfl, rfl, h1.take_ i, trivial, by simp; omega, hge, hcm, ?_, ?_, by simp, hsz⟩ _ _ Q (hia.put hd _) ?_ hK)
  ·simp only [Array.size_append, List.size_toArray, size_zeroCells, hi5, hol]
   rw [← Nat.add_mul, ← Nat.add_mul]; congr 1; omega
  ·simp only [Array.toList_append, List.toList_toArray, List.length_take, Nat.min_eq_left hi]
   rw [List.append_assoc, List.take_append_of_le_length om9, List.take_of_length_le om9]
  ·exact (hrp.drew).alloc _
theorem W.clearO {bb : Bool} {z : List Value} {lo hi m : Nat} (ht : sliceK E.P t = some t') (hk : tyK E.P t' = some (bb, e.k)) (hz : zeroK E.P t' = some z) (hzl : Nat.beq z.length e.k = true) (hz1 : z.all Value.oneCell' = true)
  (ho : OwnR e T G v l Ms) (hM : (Ms ++ B).Perm M) (hx : ev f x = sliceV v e.k lo hi) (hlo : lo ≤ hi) (hhi : hi ≤ capV v) (hv : ∃ b, v = .slice (some ⟨b, 0, none⟩) l.length (capV v)) (hm : m ≤ lo) (hml : m ≤ l.length)
  (k : ∀ Ms', OwnR e T G (sliceV v e.k 0 m) (l.take m) Ms' → W E ops.toArray false rest f G (Ms' ++ B) K) :
  W E ops.toArray false (⟨none, .call { callee := .builtin .clear, args := #[x], argTypes := #[t] }, ty, pos, aft, none⟩ :: rest) f G M K := by
 intro a w Q hia hr hK
 have hrp := hr.perm hM
 have hund := sliceK_und ht
 obtain ⟨css, h1, ⟨h2, h3⟩, h4⟩ := ho
 obtain ⟨b0, hv⟩ := hv
 simp only [zeroK, Option.map_eq_some_iff, Option.bind_eq_some_iff] at hz
 obtain ⟨zv, ⟨info, e1, e2⟩, rfl⟩ := hz
 have hzs : zv.cells.size = e.k := by simpa using Nat.eq_of_beq_eq_true hzl
 rcases h3 with ⟨rfl, _, _⟩ | ⟨b, cap, cur, rfl, h5, h6, h7, h8, rfl⟩
 ·cases hv
 ·simp only [capV] at hhi
  have hb' : w.heap[b]? = some (.cells cur T (0, 0)) := blk_of hM hr
  have hcur : cur.toList.length = cap * e.k := by simpa using h7
  have hmk : m * e.k ≤ lo * e.k := Nat.mul_le_mul_right _ hm
  have hlh : lo * e.k ≤ hi * e.k := Nat.mul_le_mul_right _ hlo
  have hhc : hi * e.k ≤ cap * e.k := Nat.mul_le_mul_right _ hhi
  have hmc : m * e.k ≤ l.length * e.k := Nat.mul_le_mul_right _ hml
  have hlc : l.length * e.k ≤ cap * e.k := Nat.mul_le_mul_right _ h5
  have hsub : (hi - lo) * e.k = hi * e.k - lo * e.k := Nat.sub_mul _ _ _
  have hv0 : sliceV (.slice (some ⟨b, 0, none⟩) l.length cap) e.k 0 m = .slice (some ⟨b, 0, none⟩) m cap := by rw [sliceV_some (.inr rfl)]; simp
  have hwb : m * e.w ≤ 140737488355328 := Nat.le_trans (Nat.mul_le_mul_right _ hml) h4
  have htl : (l.take m).length = m := by simp; omega
  have hown : ∀ cur' : Array Value, cur'.size = cap * e.k → cur'.toList.take (m * e.k) = cur.toList.take (m * e.k) → OwnR e T G (sliceV (.slice (some ⟨b, 0, none⟩) l.length cap) e.k 0 m) (l.take m) [(b, .cells cur' T (0, 0))] := fun cur' hs htk => by
   rw [hv0]
   refine ⟨css.take m, h1.take_ m, ⟨by rw [(h1.take_ m).flat_len], .inr ⟨b, cap, cur', by rw [htl], by rw [htl]; omega, h6, hs, ?_, rfl⟩⟩, by rw [htl]; exact hwb⟩
   rw [htl, htk, flat_take m h1.lens, ← h8, List.take_take]; congr 1; omega
  by_cases h0 : hi - lo = 0
  ·have hx2 : ∃ ao c, ev f x = .slice ao 0 c := by rw [hx]; simp only [sliceV, h0]; exact ⟨_, _, rfl⟩
   obtain ⟨ao, c, hx2⟩ := hx2
   have hrun : (execOp (ev f) ⟨none, .call { callee := .builtin .clear, args := #[x], argTypes := #[t] }, ty, pos, aft, none⟩).run E.P w = .ok (.value (.tuple #[])) w := by
    cases ao <;> simp [execOp, resolve, invoke, builtin, hx2, Builtin.clear_, run_underlying hund]
   refine wpList_plain rfl fun K' hK' => ?_
   unfold Oper.wp
   rw [hia.eval, hrun]
   exact hK' _ _ (k _ (hown cur h7 rfl) _ w Q (hia.put_none _) hrp hK)
  ·rw [sliceV_some om9] at hx
   have hzc : (Builtin.zeroCells zv.cells (hi - lo)).toList.length = (hi - lo) * e.k := by
    have := size_zeroCells zv.cells (hi - lo)
    rw [← hzs, ← this]; simp
   have hone : ∀ u ∈ (Builtin.zeroCells zv.cells (hi - lo)).toList, u.oneCell' = true := fun u hu => by
    rw [zeroCells_flat] at hu
    simp only [List.mem_flatten, List.mem_replicate] at hu
    obtain ⟨l', ⟨_, rfl⟩, hu⟩ := hu
    exact oneAll_spec hz1 u hu
   have hst := run_storeCells_at E.P b (lo * e.k) T (Builtin.zeroCells zv.cells (hi - lo)).toList 0 cur w hb' (by simp only [Nat.add_zero]; rw [hzc, h7]; omega) hone
   simp only [Nat.add_zero] at hst
   have hrun : (execOp (ev f) ⟨none, .call { callee := .builtin .clear, args := #[x], argTypes := #[t] }, ty, pos, aft, none⟩).run E.P w = .ok (.value (.tuple #[])) (w.setRow b (cur.toList.take (lo * e.k) ++ (Builtin.zeroCells zv.cells (hi - lo)).toList ++ cur.toList.drop (lo * e.k + (Builtin.zeroCells zv.cells (hi - lo)).toList.length)).toArray) := by
    obtain ⟨q, hq⟩ : ∃ q, hi - lo = q + 1 := ⟨hi - lo - 1, om9⟩
    rw [hq] at hx hst ⊢
    simp [execOp, resolve, invoke, builtin, hx, Builtin.clear_, run_underlying hund, zeroValue, typeInfo, e1, e2, hst]
   refine wpList_plain rfl fun K' hK' => ?_
   unfold Oper.wp
   rw [hia.eval, hrun]
   refine hK' _ _ (k _ (hown _ ?_ ?_) _ _ Q (hia.put_none _) (setRow_real0 hrp) hK)
   ·simp only [List.size_toArray, List.length_append, List.length_take, List.length_drop, hcur, hzc]; omega
   ·rw [List.toList_toArray, List.append_assoc, List.take_append_of_le_length (by rw [List.length_take, hcur]; omega), List.take_take]; congr 1; omega
theorem OwnP.own' (h : OwnP e T G v n P gap S Ms) (hg : gap = 0) : OwnR e T G v (P ++ S) Ms := by subst hg; exact h.own
theorem Src.ofOwn0 (ho : OwnR e T G v l Ms) (hM : (Ms ++ B).Perm M) (h0 : 0 < l.length) : Src e E G M v l := by
 have h := Src.ofOwn (E := E) ho hM (Nat.zero_le _) h0
 rw [List.drop_zero] at h
 obtain ⟨css, h1, ⟨h2, h3⟩, h4⟩ := ho
 rcases h3 with ⟨_, hn, _⟩ | ⟨b, cap, cur, rfl, _⟩
 ·omega
 ·rw [sliceV_some (.inr rfl)] at h
  simpa using h
theorem OwnR.formB (ho : OwnR e T G v l Ms) (h0 : 0 < l.length) : ∃ b c, v = .slice (some ⟨b, 0, none⟩) l.length c := by
 obtain ⟨css, h1, ⟨h2, h3⟩, h4⟩ := ho
 rcases h3 with ⟨_, hn, _⟩ | ⟨b, cap, cur, rfl, _⟩
 ·omega
 ·exact ⟨b, cap, rfl⟩
theorem OwnR.cap_le (ho : OwnR e T G v l Ms) : l.length ≤ capV v := by
 obtain ⟨css, h1, ⟨h2, h3⟩, h4⟩ := ho
 rcases h3 with ⟨rfl, hn, _⟩ | ⟨b, cap, cur, rfl, h, _⟩
 ·omega
 ·exact h
theorem W.giveB {b : Nat} {L : List Value} {T' : TypeId} {lo : List Oper} (hM : ((b, Obj.cells L.toArray T' (0, 0)) :: B).Perm M) (k : ∀ G', Le G G' → CellsG G' b 0 L → W E ops.toArray false lo f G' B K) : W E ops.toArray false lo f G M K := by
 refine W.perm hM (W.give fun hl => k _ hl ⟨_, _, _, put_self _ _ _, fun j hj => ?_⟩)
 simp
theorem ok_loadG {b o : Nat} {cs vs : List Value} {bb : Bool} {j : Nat} (ht : tyK E.P t = some (bb, j)) (hc : CellsG G b o cs) (hx : ev f x = .pointer (some ⟨b, o, none⟩)) (hv : cs.take j = vs) (hl : vs.length = j) (hb : bb = false → j = 1) : Ok E f G M ⟨some d, .load t x, ty, pos, aft, none⟩ (mkV bb vs) := fun w hr => by
 subst hv
 have := run_loadVar_cells ht hb (w := w) (a := ⟨b, o, none⟩) hl (fun j' v' hj' => by
  rw [Addr.add_lit]
  rw [List.getElem?_take] at hj'
  split at hj'
  ·exact hc.cell hr hj'
  ·cases hj')
 simp [execOp, hx, Instr.loadAt, Instr.sureAddr, this]
theorem ok_makeFn {g : FuncId} {fst caps : List Operand} {vs ws : List Value} (hf : fst.map (ev f) = vs) (hc : caps.map (ev f) = ws) : Ok E f G M ⟨some d, .makeFunc (.func g) fst.toArray caps.toArray, ty, pos, aft, none⟩ (.func (.func g) vs.toArray ws.toArray) := fun w hr => by
 subst hf; subst hc
 simp [execOp, Instr.makeFunc]
theorem ok_overlaps {g : FuncId} {fn : Func} {tR : TypeId} {at' : Array TypeId} {bb : Bool} {u : Value} {ys : List α} {Mu : MH} {lo hi : Nat} (hf : E.P.funcs[g]? = some fn) (hname : (fn.name == "runtime.NumGoroutine") = false) (hb : fn.body.isNone = true) (hn : Extern.findNext fn = none) (he : Extern.find fn = some (Extern.SlicesOverlaps.overlaps #[t, t] #[tR]))
  (ht : sliceK E.P t = some t') (hk : tyK E.P t' = some (bb, e.k)) (hu : OwnR e T G u ys Mu) (hp : OwnP e T G v n P gap S Ms) (hM : (Mu ++ (Ms ++ B)).Perm M) (hy0 : 0 < ys.length) (hlo : lo < capV v) (hx : ev f x = u) (hy : ev f y = sliceV v e.k lo hi) (hkp : Nat.blt 0 e.k = true) :
  Ok E f G M ⟨some d, .call { callee := .value (.func g), args := #[x, y], argTypes := at' }, ty, pos, aft, none⟩ (.bool false) := fun w hr => by
 have hr' := hr.perm hM
 have hk0 : 0 < e.k := by have := hkp; simp [Nat.blt] at this; omega
 obtain ⟨b, cap, cur, cp, cs, rfl, rfl, h3, h4, h5, h6, h7, h8, h9⟩ := hp
 obtain ⟨css, g1, ⟨g2, g3⟩, g4⟩ := hu
 rcases g3 with ⟨_, hn0, _⟩ | ⟨b2, cap2, cur2, rfl, g5, g6, g7, g8, rfl⟩
 ·omega
 ·simp only [capV] at hlo
  rw [sliceV_some (.inl hlo)] at hy
  have q1 : w.heap[b2]? = some (.cells cur2 T (0, 0)) := hr'.r.mu (b2, .cells cur2 T (0, 0)) (by simp)
  have q2 : w.heap[b]? = some (.cells cur T (0, 0)) := hr'.r.mu (b, .cells cur T (0, 0)) (by simp)
  have hnd := hr'.r.nd
  have hne : b2 ≠ b := fun e1 => by subst e1; simp at hnd
  have hcap : 0 < cap * e.k := Nat.mul_pos om9 hk0
  have hov := Lib.run_overlaps_apart (P := E.P) w t tR t' (sliceK_und ht) e.k (fun w => tyK_size hk w) ⟨b2, 0, none⟩ ⟨b, lo * e.k, none⟩ ys.length cap2 (hi - lo) (cap - lo) hne T T cur2.size cur.size (by simp [World.shape?, q1]) (by simp [World.shape?, q2]) om9 (by simp [World.frozen?, q1]) (by simp [World.frozen?, q1])
  have hcf := run_callFunc_extern hf hname hb hn he #[.slice (some ⟨b2, 0, none⟩) ys.length cap2, .slice (some ⟨b, lo * e.k, none⟩) (hi - lo) (cap - lo)] w
  rw [hov] at hcf
  have e0 : ((#[] : Array Value) ++ #[.slice (some ⟨b2, 0, none⟩) ys.length cap2, .slice (some ⟨b, lo * e.k, none⟩) (hi - lo) (cap - lo)] ++ #[]) = #[.slice (some ⟨b2, 0, none⟩) ys.length cap2, .slice (some ⟨b, lo * e.k, none⟩) (hi - lo) (cap - lo)] := by simp
  have he0 : ev f (.func g) = .func (.func g) #[] #[] := rfl
  simp only [execOp, resolve, he0, Deferred.ofValue, Sem.run_bind, Sem.run_pure, Result.andThen_ok, invoke, List.map_toArray, List.map_cons, List.map_nil, hx, hy, e0, hcf]
theorem W.litO {b : Bool} {sz len : Nat} {parts : List (Nat × Operand)} {css : List (List Value)} {z : List Value} (ht : sliceK E.P t = some t') (hk : tyK E.P t' = some (b, sz)) (hz : zeroK E.P t' = some z)
  (hp : (parts.map fun p => (ev f p.2).cells.toList) = css) (hi : parts.map (·.1) = List.range' 0 len) (hs : css.all (fun c => Nat.beq c.length sz) = true) (hl : Nat.ble (len * sz) 16777216 = true) (hl2 : Nat.ble len 16777216 = true) (hzl : Nat.beq z.length sz = true) (hR : AllR e G css l)
  (k : ∀ v Ms, OwnR e t' G v l Ms → W E ops.toArray false rest (upd f d v) G (Ms ++ M) K) (hd : Nat.blt d E.n = true := by rfl) :
  W E ops.toArray false (⟨some d, .buildSlice t len parts.toArray, ty, pos, aft, none⟩ :: rest) f G M K := by
 refine W.bsl ht hk hz hp hi hs hl hzl (fun bl => ?_) hd
 have h1 : parts.length = len := by have := congrArg List.length hi; simpa using this
 have h2 := hR.spec.1
 have h3 : css.length = len := by rw [← hp]; simpa using h1
 have h4 : len ≤ 16777216 := by simpa using hl2
 have h5 := hR.flat_len
 refine k _ [(bl, .cells css.flatten.toArray t' (0, 0))] ⟨css, hR, ⟨h5, .inr ⟨bl, len, _, by rw [← h2, h3], om9, by simp [maxLen]; omega, ?_, ?_, rfl⟩⟩, Nat.le_trans (Nat.mul_le_mul (by omega : l.length ≤ 16777216) e.wle) (by decide)⟩
 ·simp only [List.size_toArray]; rw [h5]; congr 1; omega
 ·simp only [List.toList_toArray]; rw [← h5, List.take_length]
end
def methK (P : Program) (t : TypeId) (name : String) : Option (FuncId × Option TypeId) :=
 match P.info? t with
 | some info => match info.methods.find? (·.name == name) with
  | some m => bif m.path.isEmpty then (match m.func with
   | some (g, ptr) => match P.underlying t with
    | some (.pointer e) => bif ptr then some (g, none) else some (g, some e)
    | some _ => bif ptr then none else some (g, none)
    | none => none
   | none => none) else none
  | none => none
 | none => none
theorem methK_run {P : Program} {t : TypeId} {name : String} {g : FuncId} {oe : Option TypeId} (h : methK P t name = some (g, oe)) {y r : Value} {w : World}
  (hr : match oe with | none => r = y | some e => ∃ ad, y = .pointer (some ad) ∧ (loadVar e ad).run P w = .ok r w) (m : Nat) : (method (m + 1) t y name).run P w = .ok (g, r) w := by
 unfold methK at h
 split at h
 ·rename_i info hi
  split at h
  ·rename_i me hm
   cases hp : me.path.isEmpty
   ·simp [hp] at h
   simp only [hp, cond_true] at h
   have hpath : me.path.toList = [] := by simpa using hp
   split at h
   ·rename_i g' ptr hfu
    split at h
    ·rename_i e hu
     cases ptr
     ·simp only [cond_false, Option.some.injEq, Prod.mk.injEq] at h
      obtain ⟨rfl, rfl⟩ := h
      obtain ⟨ad, rfl, k6⟩ := hr
      have hwr : ∀ (ad : Addr) (p q : String), Builtin.ssaWrapNilChk_ #[t] t #[.pointer (some ad), strVal p, strVal q] = pure (.pointer (some ad)) := fun _ _ _ => rfl
      simp [method, typeInfo, hi, hm, hpath, hp, follow, hfu, receiverAt, run_underlying hu, Place.get, hwr, asAddr, k6]
      split <;> simp [k6]
     ·simp only [cond_true, Option.some.injEq, Prod.mk.injEq] at h
      obtain ⟨rfl, rfl⟩ := h
      subst hr
      simp [method, typeInfo, hi, hm, hpath, follow, hfu, receiverAt, run_underlying hu, Place.get]
    ·rename_i d hd hu
     cases ptr
     ·simp only [cond_false, Option.some.injEq, Prod.mk.injEq] at h
      obtain ⟨rfl, rfl⟩ := h
      subst hr
      simp only [method, typeInfo, Sem.run_bind, run_program, hi, Result.andThen_ok, Sem.run_pure, hm, hpath, follow, hfu, receiverAt, run_underlying hu]
      cases d <;> first | exact absurd rfl (hd _) | simp [Place.get]
     ·cases h
    ·cases h
   ·cases h
  ·cases h
 ·cases h
def Inv (P : Program) (x : Value) (name : String) (vs : List Value) (G : GH) (M : MH) (Q : Value → GH → MH → Prop) : Prop :=
 ∃ t y g r, x = .iface t y ∧ (∀ (w0 : World) (own : Nat → Prop) (w : World), Real w0 own G M w → ∀ m, (method (m + 1) t y name).run P w = .ok (g, r) w) ∧
  ∃ Ma Mb : MH, (Ma ++ Mb).Perm M ∧ Fc P g (r :: vs) G Ma (fun v G' M' => ∃ M2 : MH, M2.Perm (M' ++ Mb) ∧ Q v G' M2)
theorem pmB {A X Y : MH} {p : Nat × Obj} (h : X.Perm (p :: Y)) : (A ++ X).Perm (p :: (A ++ Y)) := (h.append_left A).trans List.perm_middle
theorem pmD {X Y : MH} {p q : Nat × Obj} (h : X.Perm (p :: Y)) : (q :: X).Perm (p :: q :: Y) := (h.cons q).trans (List.Perm.swap ..)
theorem pmF {A Z R Y : MH} (h : (Z ++ R).Perm Y) : ((A ++ Z) ++ R).Perm (A ++ Y) := by rw [List.append_assoc]; exact h.append_left A
theorem load_box {P : Program} {t : TypeId} {w0 w : World} {own : Nat → Prop} {G : GH} {M : MH} {b o : Nat} {L : List Value} {T : TypeId} {v : Value} (hr : Real w0 own G M w) (ht : tyK P t = some (false, 1)) (hm : (b, Obj.cells L.toArray T (0, 0)) ∈ M) (hv : L[o]? = some v) :
  (loadVar t ⟨b, o, none⟩).run P w = .ok v w := by
 have h := hr.mu _ hm
 refine run_loadVar_cells (cs := [v]) ht (fun _ => rfl) rfl (fun j v' hj => ?_)
 cases j with
 | zero =>
  simp only [List.getElem?_cons_zero, Option.some.injEq] at hj
  subst hj
  rw [Addr.add_lit]
  simp only at h
  simp [World.cell?, h, hv]
 | succ j => simp at hj
theorem Inv.val {P : Program} {t e : TypeId} {name : String} {g : FuncId} {vs : List Value} {G : GH} {b o : Nat} {L : List Value} {T : TypeId} {v : Value} {Ms : MH} {Q Q' : Value → GH → MH → Prop} (hm : methK P t name = some (g, some e)) (ht : tyK P e = some (false, 1)) (hv : L[o]? = some v)
  (hc : Fc P g (v :: vs) G Ms Q') (hQ : ∀ v' G' M', Le G G' → Q' v' G' M' → Q v' G' ((b, .cells L.toArray T (0, 0)) :: M')) : Inv P (.iface t (.pointer (some ⟨b, o, none⟩))) name vs G ((b, .cells L.toArray T (0, 0)) :: Ms) Q :=
 ⟨t, _, g, v, rfl, fun w0 own w hr m => methK_run hm ⟨_, rfl, load_box hr ht (List.mem_cons_self) hv⟩ m, Ms, [(b, .cells L.toArray T (0, 0))], List.perm_append_comm, hc.mono fun v' G' M' hl h => ⟨_, (List.perm_append_comm (l₁ := M') (l₂ := [(b, Obj.cells L.toArray T (0, 0))])).symm, hQ v' G' M' hl h⟩⟩
theorem Inv.ptr {P : Program} {t : TypeId} {y : Value} {name : String} {g : FuncId} {vs : List Value} {G : GH} {M : MH} {Q Q' : Value → GH → MH → Prop} (hm : methK P t name = some (g, none)) (hc : Fc P g (y :: vs) G M Q') (hQ : ∀ v' G' M', Le G G' → Q' v' G' M' → Q v' G' M') : Inv P (.iface t y) name vs G M Q :=
 ⟨t, y, g, y, rfl, fun w0 own w hr m => methK_run hm rfl m, M, [], by simp, hc.mono fun v' G' M' hl h => ⟨_, by simp, hQ v' G' M' hl h⟩⟩
section
variable {E : Env} {f : Fr} {G : GH} {M : MH} {ops rest : List Oper} {q : Bool} {K : Kt} {Q : Exit → Kt} {d : Nat} {ty : TypeId} {pos : String} {aft : Array Edge} {t t' : TypeId} {x y : Operand}
theorem W.inv {name : String} {args : List Operand} {at' : Array TypeId} {x0 : Value} {vs : List Value} {Mp Mr : MH} {Q : Value → GH → MH → Prop} (hc : Inv E.P x0 name vs G Mp Q) (hx : ev f x = x0) (ha : args.map (ev f) = vs) (hM : (Mp ++ Mr).Perm M)
  (k : ∀ v G' M', Le G G' → Q v G' M' → W E ops.toArray false rest (upd f d v) G' (M' ++ Mr) K) (hd : Nat.blt d E.n = true := by rfl) :
  W E ops.toArray false (⟨some d, .call { callee := .invoke x name, args := args.toArray, argTypes := at' }, ty, pos, aft, none⟩ :: rest) f G M K := by
 obtain ⟨t, y, g, r, rfl, hm, Ma, Mb, hp, hc⟩ := hc
 intro a w Q' hi hr hK
 have hrM := hr.r.perm hM
 have hrun : (execOp (ev f) ⟨some d, .call { callee := .invoke x name, args := args.toArray, argTypes := at' }, ty, pos, aft, none⟩).run E.P w = .ok (.enter g (r :: vs).toArray) w := by
  have h4 := hc.1 (#[r] ++ vs.toArray) w
  have hs := hrM.sub (M' := Mp) (List.sublist_append_left _ _)
  have h5 := hm _ _ _ hs (E.P.types.size + Made.depth - 1)
  have e : ((#[.iface t y] ++ (args.map (ev f)).toArray : Array Value)) = (.iface t y :: vs).toArray := by rw [ha]; simp
  simp only [execOp, resolve, hx, Sem.run_bind, Sem.run_pure, Result.andThen_ok, invoke, List.map_toArray]
  rw [e]
  simp only [List.getElem?_toArray, List.getElem?_cons_zero, List.size_toArray, List.length_cons, callMethod, Sem.run_bind, run_program, Result.andThen_ok]
  rw [show E.P.types.size + Made.depth = (E.P.types.size + Made.depth - 1) + 1 from by simp [Made.depth]]
  rw [h5]
  simp only [Result.andThen_ok]
  have e2 : #[r] ++ Array.extract (.iface t y :: vs).toArray 1 (vs.length + 1) = #[r] ++ vs.toArray := by
   apply Array.toList_inj.1; simp
  rw [e2, h4]
  simp
 refine wpList_plain rfl fun K' hK' => ?_
 unfold Oper.wp
 rw [hi.eval, hrun]
 have hr' : Real E.w0 E.own G (Ma ++ (Mb ++ Mr)) w := hrM.perm (by rw [← List.append_assoc]; exact hp.append_right _)
 have hw : Real w (fun b => b ∈ (Ma.map (·.1))) G Ma w := by
  have hs := hr'.sub (M' := Ma) (List.sublist_append_left _ _)
  exact ⟨rfl, rfl, rfl, Nat.le_refl _, fun _ _ _ => rfl, hr.r.ro, hs.mu, hs.dis, hs.nd, fun p hp => .inr (List.mem_map_of_mem hp)⟩
 refine (hc.2 w hw).mono ?_
 rintro e w' ⟨v', G', M', rfl, h2, h3, h4, M2, hp2, h5⟩
 have h6 := Real.call hr' h2 h4
 refine hK' _ _ (k v' G' M2 h3 h5 _ w' Q' (hi.put hd v') ⟨h6.perm (by rw [← List.append_assoc]; exact hp2.append_right _), hr.le.trans h3, ?_⟩ hK)
 intro b hb hb'
 cases hg : G b with
 | none =>
  rcases h4 b hg hb' with h7 | h7
  ·exact .inl (Nat.le_trans hr.r.size h7)
  ·obtain ⟨p, hp, e⟩ := List.mem_map.1 h7
   rcases hr'.lo p (by simp [hp]) with h8 | h8
   ·exact .inl (e ▸ h8)
   ·exact .inr (e ▸ h8)
 | some o => exact hr.nw b hb (by simp [hg])
theorem ok_nilP {a : Addr} (hx : ev f x = .pointer (some a)) : Ok E f G M ⟨some d, .nilCheck x, ty, pos, aft, none⟩ (.pointer (some a)) := fun w _ => by simp [execOp, hx]
theorem ok_convW {m : Int} (ht : E.P.underlying t = some (.int .i64)) (ht' : E.P.underlying t' = some (.int .u64)) (hx : ev f x = .int .i64 m) : Ok E f G M ⟨some d, .convert t t' x, ty, pos, aft, none⟩ (.int .u64 (IntKind.u64.wrap m)) := fun w _ => by
 simp [execOp, hx, convert, run_underlying ht, run_underlying ht', Conv.intToInt]
theorem ok_rem {m n : Int} {k : IntKind} {t2 : TypeId} (hx : ev f x = .int k m) (hy : ev f y = .int k n) (hn : n ≠ 0) : Ok E f G M ⟨some d, .binOp .rem t x y t2, ty, pos, aft, none⟩ (.int k (m.tmod n)) := fun _ _ => by
 simp [execOp, hx, hy, eqGuard, binOp, Op.intDiv, hn]
def plainT (P : Program) (t : TypeId) : Bool := match P.underlying t with | some (.interface _) => false | some _ => true | none => false
theorem ok_mkI {u : Value} (hp : plainT E.P t = true) (hx : ev f x = u) : Ok E f G M ⟨some d, .makeInterface t x, ty, pos, aft, none⟩ (.iface t u) := fun w _ => by
 subst hx
 unfold plainT at hp
 split at hp
 ·cases hp
 ·rename_i dd hd hu
  have : (Instr.makeInterface t (ev f x)).run E.P w = .ok (.iface t (ev f x)) w := by
   simp only [Instr.makeInterface, Sem.run_bind, run_underlying hu, Result.andThen_ok]
   cases dd <;> first | exact absurd rfl (hd _) | rfl
  simp [execOp, this]
 ·cases hp
theorem ok_tyA {u : Value} {xt : TypeId} (hp : plainT E.P t = true) (hx : ev f x = .iface t u) : Ok E f G M ⟨some d, .typeAssert x xt t false, ty, pos, aft, none⟩ u := fun w _ => by
 unfold plainT at hp
 split at hp
 ·cases hp
 ·rename_i dd hd hu
  have : (Instr.typeAssert (.iface t u) xt t false).run E.P w = .ok u w := by
   simp only [Instr.typeAssert, Sem.run_bind, run_underlying hu, Result.andThen_ok]
   cases dd <;> first | exact absurd rfl (hd _) | simp
  simp [execOp, hx, this]
 ·cases hp
def ptrT (P : Program) (t : TypeId) : Bool := match P.underlying t with | some (.pointer _) => true | _ => false
theorem ok_eqlPN {t2 : TypeId} {a : Option Addr} (ht : ptrT E.P t = true) (hx : ev f x = .pointer a) (hy : ev f y = .pointer none) : Ok E f G M ⟨some d, .binOp .eql t x y t2, ty, pos, aft, none⟩ (.bool a.isNone) := fun w _ => by
 unfold ptrT at ht
 split at ht
 ·rename_i e hu
  have h : ∀ m, (Op.equalIn (m + 1) t (.pointer a) (.pointer none)).run E.P w = .ok a.isNone w := fun m => by
   cases a <;> simp [Op.equalIn, run_underlying hu]
  have h2 : (binOp .eql t (.pointer a) (.pointer none)).run E.P w = .ok (.bool a.isNone) w := by
   simp only [binOp]
   cases a <;> simp [Op.equal, Op.maxDepth, h 9999]
  simp [execOp, hx, hy, eqGuard, h2]
 ·cases ht
theorem ok_neqPN {t2 : TypeId} {a : Option Addr} (ht : ptrT E.P t = true) (hx : ev f x = .pointer a) (hy : ev f y = .pointer none) : Ok E f G M ⟨some d, .binOp .neq t x y t2, ty, pos, aft, none⟩ (.bool a.isSome) := fun w _ => by
 unfold ptrT at ht
 split at ht
 ·rename_i e hu
  have h : ∀ m, (Op.equalIn (m + 1) t (.pointer a) (.pointer none)).run E.P w = .ok a.isNone w := fun m => by
   cases a <;> simp [Op.equalIn, run_underlying hu]
  have h2 : (binOp .neq t (.pointer a) (.pointer none)).run E.P w = .ok (.bool a.isSome) w := by
   simp only [binOp]
   cases a <;> simp [Op.equal, Op.maxDepth, h 9999]
  simp [execOp, hx, hy, eqGuard, h2]
 ·cases ht
theorem OwnR.short {α : Type} {e : Enc α} {T : TypeId} {v : Value} {l : List α} {Ms : MH} (ho : OwnR e T G v l Ms) {n : Nat} (hn : n ≤ l.length) : OwnR e T G (sliceV v e.k 0 n) (l.take n) Ms := by
 obtain ⟨css, h1, ⟨h2, h3⟩, h4⟩ := ho
 have hw := e.wpos
 have h5 : (l.take n).length = n := by rw [List.length_take]; omega
 have hlen : css.length = l.length := h1.spec.1
 have hkl := h1.lens
 have hb : (l.take n).length * e.w ≤ 140737488355328 := by rw [h5]; exact Nat.le_trans (Nat.mul_le_mul_right _ hn) h4
 refine ⟨css.take n, h1.take_ n, ⟨?_, ?_⟩, hb⟩
 ·rw [flat_take n hkl, List.length_take, h2, h5]
  have : n * e.k ≤ l.length * e.k := Nat.mul_le_mul_right _ hn
  omega
 ·rcases h3 with ⟨rfl, hn0, rfl⟩ | ⟨b, cap, cur, rfl, h6, h7, h8, h9, rfl⟩
  ·left
   have : n = 0 := om9
   subst this
   exact ⟨rfl, by simp, rfl⟩
  ·right
   refine ⟨b, cap, cur, ?_, by rw [h5]; omega, h7, h8, ?_, rfl⟩
   ·rw [h5]; simp [sliceV]; intro _; rfl
   ·rw [h5, flat_take n hkl, ← h9, List.take_take]
    congr 1
    have : n * e.k ≤ l.length * e.k := Nat.mul_le_mul_right _ hn
    omega
theorem W.shortO {α : Type} {e : Enc α} {T : TypeId} {v : Value} {l : List α} {Ms : MH} {bb : Bool} {hi : Option Operand} (n : Nat) (ht : sliceK E.P t = some t') (hk : tyK E.P t' = some (bb, e.k)) (ho : OwnR e T G v l Ms) (hx : ev f x = v) (hhi : Bnd f l.length n hi) (hn : n ≤ l.length)
  (k : ∀ u, OwnR e T G u (l.take n) Ms → W E ops.toArray q rest (upd f d u) G M K) (hd : Nat.blt d E.n = true := by rfl) : W E ops.toArray q (⟨some d, .slice t x none hi none, ty, pos, aft, none⟩ :: rest) f G M K :=
 W.ok (ok_sliceO 0 n ht hk ho hx rfl hhi ⟨Nat.zero_le _, .inl hn⟩) (k _ (ho.short hn)) hd
theorem W.slR {α : Type} {e : Enc α} {l : List α} {v : Value} {bb : Bool} {lo hi : Option Operand} (a b : Nat) (ht : sliceK E.P t = some t') (hk : tyK E.P t' = some (bb, e.k)) (hs : SlR e G v l) (hx : ev f x = v) (hlo : Bnd f 0 a lo) (hhi : Bnd f l.length b hi) (h1 : a ≤ b) (h2 : b ≤ l.length)
  (k : ∀ u, SlR e G u ((l.take b).drop a) → W E ops.toArray q rest (upd f d u) G M K) (hd : Nat.blt d E.n = true := by rfl) : W E ops.toArray q (⟨some d, .slice t x lo hi none, ty, pos, aft, none⟩ :: rest) f G M K :=
 W.ok (ok_slice a b ht hk hs hx hlo hhi ⟨h1, h2⟩) (k _ (hs.slice h1 h2)) hd
theorem W.mkSl {α : Type} {e : Enc α} {bb : Bool} {z : List Value} {a0 : α} {n : Nat} (ht : sliceK E.P t = some t') (hk : tyK E.P t' = some (bb, e.k)) (hz : zeroK E.P t' = some z) (hzl : Nat.beq z.length e.k = true) (hb : bytesK E.P t' = some e.w)
  (hR : e.R G z a0) (hx : ev f x = .int .i64 (n : Int)) (hy : ev f y = .int .i64 (n : Int)) (hn : n * e.w ≤ 140737488355328) (hc : n * e.k ≤ 16777216)
  (k : ∀ v Ms, OwnR e t' G v (List.replicate n a0) Ms → W E ops.toArray false rest (upd f d v) G (Ms ++ M) K) (hd : Nat.blt d E.n = true := by rfl) :
  W E ops.toArray false (⟨some d, .makeSlice t x y, ty, pos, aft, none⟩ :: rest) f G M K := by
 intro a w Q hi hr hK
 have hund := sliceK_und ht
 have hinfo : ∃ info zv, E.P.info? t' = some info ∧ info.zero = some zv ∧ info.size = e.k ∧ info.bytes = e.w ∧ zv.cells.toList = z := by
  simp only [zeroK, Option.map_eq_some_iff, Option.bind_eq_some_iff] at hz
  obtain ⟨zv, ⟨info, h1, h2⟩, rfl⟩ := hz
  have h3 := tyK_size hk w
  simp [sizeOf, typeInfo, h1] at h3
  simp only [bytesK, h1, Option.map_some, Option.some.injEq] at hb
  exact ⟨info, zv, h1, h2, h3, hb, rfl⟩
 obtain ⟨info, zv, hi1, hi2, hi3, hi4, hi5⟩ := hinfo
 have hw0 := e.wpos
 have hle : n ≤ 140737488355328 := Nat.le_trans (Nat.le_mul_of_pos_right _ hw0) hn
 have hzs : zv.cells.size = e.k := by rw [← Array.length_toList, hi5]; exact Nat.eq_of_beq_eq_true hzl
 have hmk := run_makeSlice (P := E.P) w t t' info zv hund hi1 hi2 .i64 .i64 (n : Int) (n : Int) om9 om9 (by rw [hi3]; simpa using hc) (by
  rw [hi4]
  have : ((e.w : Nat) : Int) * (n : Int) = ((n * e.w : Nat) : Int) := by rw [Nat.mul_comm]; simp
  rw [this]; omega) om9
 have hmade : madeCells zv.cells ((n : Int).toNat * info.size) = (List.replicate n z).flatten.toArray := by
  apply Array.toList_inj.1
  rw [hi3, ← hzs, Int.toNat_natCast, made_flat, hi5]
 rw [hmade] at hmk
 have hrun : (execOp (ev f) ⟨some d, .makeSlice t x y, ty, pos, aft, none⟩).run E.P w = .ok (.value (.slice (some ⟨w.heap.size, 0, none⟩) n n)) (w.alloc (.cells (List.replicate n z).flatten.toArray t' (0, 0))) := by
  simp only [execOp, hx, hy, Sem.run_bind, hmk, Result.andThen_ok, Sem.run_pure, Int.toNat_natCast]
 refine wpList_plain rfl fun K' hK' => ?_
 unfold Oper.wp
 rw [hi.eval, hrun]
 have hAll : ∀ m, AllR e G (List.replicate m z) (List.replicate m a0) := by
  intro m
  induction m with
  | zero => exact trivial
  | succ m ih => exact ⟨hR, ih⟩
 have hzk : z.length = e.k := Nat.eq_of_beq_eq_true hzl
 have hfl : (List.replicate n z).flatten.length = n * e.k := by simp [hzk]
 refine hK' _ _ (k _ [(w.heap.size, .cells (List.replicate n z).flatten.toArray t' (0, 0))] ⟨List.replicate n z, hAll n, ⟨by rw [hfl]; simp, .inr ⟨_, n, _, by simp, by simp, by simp only [maxLen]; omega, by simp [hzk], ?_, rfl⟩⟩, by simpa using hn⟩ _ _ Q (hi.put hd _) ?_ hK)
 ·rw [List.length_replicate]
  exact List.take_of_length_le (by rw [List.toList_toArray, hfl]; exact Nat.le_refl _)
 ·exact hr.alloc _
end
end Go.Fw
