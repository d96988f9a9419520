/- Operations, answers, and rows of two maps side by side, as plain functions, with how they lie in memory. Plain Lean; nothing of the program is named here. No condition. -/
import Derived.Test.YtemoalimclnfkaaGreatQjNz
set_option linter.unusedVariables false
set_option linter.unusedSimpArgs false
set_option linter.unnecessarySimpa false

namespace Go.Fw
open Go Go.RowKit
structure Opr where
 kind : Int
 key : Str
 hi : Str
 opn : Bool
 val : Str
 lim : Int
 deriving DecidableEq
instance : Inhabited Opr := ⟨⟨0, Str.nil, Str.nil, false, Str.nil, 0⟩⟩
def Opr.Ok (o : Opr) : Prop := i64 o.kind ∧ i64 o.lim
def eOp : Enc Opr where
 k := 6
 w := 72
 R := fun _ cs o => cs = [.int .i64 o.kind, .string o.key.b, .string o.hi.b, .bool o.opn, .string o.val.b, .int .i64 o.lim] ∧ o.Ok
 mono := fun _ h => h
 len := fun h => by rw [h.1]; rfl
 one := fun h u hu => by rw [h.1] at hu; simp at hu; rcases hu with rfl | rfl | rfl | rfl | rfl | rfl <;> rfl
instance : EqP eOp (fun o => [.int .i64 o.kind, .string o.key.b, .string o.hi.b, .bool o.opn, .string o.val.b, .int .i64 o.lim]) Opr.Ok := ⟨fun _ _ _ h => h⟩
theorem dec_op {P : Program} {t i s b : TypeId} (ht : structK P t = some [(i, 0, 1), (s, 1, 1), (s, 2, 1), (b, 3, 1), (s, 4, 1), (i, 5, 1)]) (hi : P.underlying i = some (.int .i64)) (hs : P.underlying s = some .string) (hb : P.underlying b = some .bool) (hc : P.cellsOf t = 6) : Dec P t eOp := by
 intro H enc w fuel cs x h hw
 obtain ⟨hl, hf⟩ := trod_fld ht h hw
 obtain ⟨y0, n0, t0, w0⟩ := hf 0 _ _ _ rfl
 obtain ⟨y1, n1, t1, w1⟩ := hf 1 _ _ _ rfl
 obtain ⟨y2, n2, t2, w2⟩ := hf 2 _ _ _ rfl
 obtain ⟨y3, n3, t3, w3⟩ := hf 3 _ _ _ rfl
 obtain ⟨y4, n4, t4, w4⟩ := hf 4 _ _ _ rfl
 obtain ⟨y5, n5, t5, w5⟩ := hf 5 _ _ _ rfl
 obtain ⟨a0, e0, q0⟩ := fld_int hi t0 w0
 obtain ⟨a1, e1⟩ := fld_str hs t1 w1
 obtain ⟨a2, e2⟩ := fld_str hs t2 w2
 obtain ⟨a3, e3⟩ := fld_bool hb t3
 obtain ⟨a4, e4⟩ := fld_str hs t4 w4
 obtain ⟨a5, e5, q5⟩ := fld_int hi t5 w5
 rw [hc] at hl
 match cs, hl with
 | [_, _, _, _, _, _], _ =>
  simp at e0 e1 e2 e3 e4 e5
  subst e0 e1 e2 e3 e4 e5
  exact ⟨⟨a0, a1, a2, a3, a4, a5⟩, rfl, q0, q5⟩
def Opr.span (o : Opr) : Span := if o.kind = 4 ∨ o.kind = 6 then ⟨o.key, o.hi, o.opn⟩ else ⟨o.key, o.key.next, false⟩
def Opr.R (o : Opr) : Prop := (1 ≤ o.kind ∧ o.kind ≤ 6 ∧ o.key.b.size ≤ 16 ∧ o.hi.b.size ≤ 16 ∧ o.val.b.size ≤ 16) ∧
 (2 < o.kind → o.val = Str.nil) ∧ (o.kind ≠ 6 → o.lim = 0) ∧ (o.kind = 6 → 1 ≤ o.lim ∧ o.lim ≤ 64) ∧
 if o.kind = 4 ∨ o.kind = 6 then o.span.empty = false ∧ (o.opn = false ∨ o.hi = Str.nil) else o.hi = Str.nil ∧ o.opn = false
instance (o : Opr) : Decidable o.R := by unfold Opr.R; infer_instance
def Opr.msg (o : Opr) (s : Int) : Msg := ⟨s, o.kind, o.key, o.hi, o.opn, o.val⟩
theorem Opr.R.fit {o : Opr} (h : o.R) (s : Int) : (o.msg s).fit := fit_of ⟨h.1.2.2.1, h.1.2.2.2.2⟩
structure Ans where
 err : Int
 has : Bool
 val : Str
 rows : List Pair
 deriving DecidableEq
instance : Inhabited Ans := ⟨⟨0, false, Str.nil, []⟩⟩
def AnsC (G : GH) (cs : List Value) (a : Ans) : Prop :=
 ∃ p c, cs = [.int .i64 a.err, .bool a.has, .string a.val.b, .slice p a.rows.length c] ∧ SlR ePair G (.slice p a.rows.length c) a.rows ∧ i64 a.err
theorem AnsC.mono {G G' : GH} {cs a} (hl : Le G G') (h : AnsC G cs a) : AnsC G' cs a := by
 obtain ⟨p, c, h0, h1, h2⟩ := h
 exact ⟨p, c, h0, h1.mono hl, h2⟩
def eAns : Enc Ans where
 k := 4
 w := 56
 R := AnsC
 mono := fun hl h => h.mono hl
 len := fun h => by obtain ⟨p, c, h0, _⟩ := h; rw [h0]; rfl
 one := fun h u hu => by
  obtain ⟨p, c, h0, _⟩ := h
  rw [h0] at hu
  simp at hu
  rcases hu with rfl | rfl | rfl | rfl <;> rfl
structure Drow where
 key : Str
 a : Str
 b : Str
 inA : Bool
 inB : Bool
 deriving DecidableEq
instance : Inhabited Drow := ⟨⟨Str.nil, Str.nil, Str.nil, false, false⟩⟩
def eRow : Enc Drow where
 k := 5
 w := 56
 R := fun _ cs r => cs = [.string r.key.b, .string r.a.b, .string r.b.b, .bool r.inA, .bool r.inB]
 mono := fun _ h => h
 len := fun h => by rw [h]; rfl
 one := fun h u hu => by rw [h] at hu; simp at hu; rcases hu with rfl | rfl | rfl | rfl | rfl <;> rfl
def doN (l : List Pair) (o : Opr) : List Pair × Ans :=
 if ¬ o.R then (l, ⟨3, false, Str.nil, []⟩)
 else if o.kind = 5 then (l, ⟨0, (getN l o.key).isSome, (getN l o.key).getD Str.nil, []⟩)
 else if o.kind = 6 then (l, ⟨0, false, Str.nil, scanN l o.span o.lim⟩)
 else (takeN l (o.msg 1), ⟨0, false, Str.nil, []⟩)
theorem doN_0 {l : List Pair} {o : Opr} (h : ¬ o.R) : doN l o = (l, ⟨3, false, Str.nil, []⟩) := if_pos h
theorem doN_5 {l : List Pair} {o : Opr} (h : o.R) (h5 : o.kind = 5) : doN l o = (l, ⟨0, (getN l o.key).isSome, (getN l o.key).getD Str.nil, []⟩) := by rw [doN, if_neg (by simpa using h), if_pos h5]
theorem doN_6 {l : List Pair} {o : Opr} (h : o.R) (h6 : o.kind = 6) : doN l o = (l, ⟨0, false, Str.nil, scanN l o.span o.lim⟩) := by rw [doN, if_neg (by simpa using h), if_neg om9, if_pos h6]
theorem doN_t {l : List Pair} {o : Opr} (h : o.R) (h5 : ¬ o.kind = 5) (h6 : ¬ o.kind = 6) : doN l o = (takeN l (o.msg 1), ⟨0, false, Str.nil, []⟩) := by rw [doN, if_neg (by simpa using h), if_neg h5, if_neg h6]
theorem doN_R {l : List Pair} {o : Opr} (h : PairsR l) : PairsR (doN l o).1 ∧ (doN l o).1.length ≤ l.length + 1 := by
 unfold doN
 split
 ·exact ⟨h, by show l.length ≤ _; omega⟩
 ·split
  ·exact ⟨h, by show l.length ≤ _; omega⟩
  ·split
   ·exact ⟨h, by show l.length ≤ _; omega⟩
   ·rename_i h1 h2 h3
    have hR : o.R := by simpa using h1
    have := h.take_len (o.msg 1)
    exact ⟨h.takeF (hR.fit 1), this⟩
def opsN (l : List Pair) (ops : List Opr) : List Pair × List Ans := ops.foldl (fun s o => ((doN s.1 o).1, s.2 ++ [(doN s.1 o).2])) (l, [])
def allW (ops : List Opr) : Bool := ops.all fun o => decide o.R && decide (o.kind ≤ 4)
def applyN (l : List Pair) (ops : List Opr) : List Pair × Bool := if allW ops = true then ((opsN l ops).1, true) else ([], false)
def bothN : List Pair → List Pair → List Drow
 | [], [] => []
 | x :: a, [] => ⟨x.key, x.val, Str.nil, true, false⟩ :: bothN a []
 | [], y :: b => ⟨y.key, Str.nil, y.val, false, true⟩ :: bothN [] b
 | x :: a, y :: b =>
  if x.key.lt y.key = true then ⟨x.key, x.val, Str.nil, true, false⟩ :: bothN a (y :: b)
  else if y.key.lt x.key = true then ⟨y.key, Str.nil, y.val, false, true⟩ :: bothN (x :: a) b
  else ⟨x.key, x.val, y.val, true, true⟩ :: bothN a b
termination_by a b => a.length + b.length
def Drow.same (r : Drow) : Bool := r.inA && r.inB && decide (r.a = r.b)
def comN (a b : List Pair) : List Pair := ((bothN a b).filter Drow.same).map fun r => ⟨r.key, r.a⟩
end Go.Fw

namespace Go.Fw
def Rise (l : List Str) : Prop := l.Pairwise fun a b => a.lt b = true
def insU (k : Str) : List Str → List Str
 | [] => [k]
 | x :: xs => if k.lt x = true then k :: x :: xs else if x.lt k = true then x :: insU k xs else x :: xs
def sortU (l : List Str) : List Str := l.foldr insU []
theorem Rise.lt {l : List Str} (h : Rise l) {i j : Nat} (hij : i < j) (hj : j < l.length) : (l[i]'om9).lt l[j] = true := List.pairwise_iff_getElem.1 h i j om9 hj hij
def DRise (l : List Drow) : Prop := l.Pairwise fun r s => r.key.lt s.key = true
def Drow.of (a b : List Pair) (k : Str) : Drow := ⟨k, (getN a k).getD Str.nil, (getN b k).getD Str.nil, (getN a k).isSome, (getN b k).isSome⟩
def chg (r : Drow) : Option Opr :=
 if r.inB = false then some ⟨3, r.key, Str.nil, false, Str.nil, 0⟩
 else if r.inA = false ∨ r.a ≠ r.b then some ⟨1, r.key, Str.nil, false, r.b, 0⟩ else none
theorem Opr.eq_of {a b : Opr} (h : (!eqCells [.int .i64 a.kind, .string a.key.b, .string a.hi.b, .bool a.opn, .string a.val.b, .int .i64 a.lim] [.int .i64 b.kind, .string b.key.b, .string b.hi.b, .bool b.opn, .string b.val.b, .int .i64 b.lim]) = false) : a = b := by
 cases a; cases b
 simp [eqCells] at h
 simp_all [Str.b_inj]
theorem Opr.ne_of {a b : Opr} (h : (!eqCells [.int .i64 a.kind, .string a.key.b, .string a.hi.b, .bool a.opn, .string a.val.b, .int .i64 a.lim] [.int .i64 b.kind, .string b.key.b, .string b.hi.b, .bool b.opn, .string b.val.b, .int .i64 b.lim]) = true) : a ≠ b := by
 intro e; subst e; simp [eqCells] at h
def Opr.zero : Opr := ⟨0, Str.nil, Str.nil, false, Str.nil, 0⟩
def Opr.cells (o : Opr) : List Value := [.int .i64 o.kind, .string o.key.b, .string o.hi.b, .bool o.opn, .string o.val.b, .int .i64 o.lim]
def chgN (a b : List Pair) : List Opr := (bothN a b).filterMap chg
def keysN (a b : List Pair) : List Str := sortU (a.map (·.key) ++ b.map (·.key))
end Go.Fw
namespace Go.Fw
open Go Go.RowKit
def BT : Nat → Type
  | 0 => Int × List Pair
  | k + 1 => Int × List Str × List (BT k)
def BT.slot : {k : Nat} → BT k → Int
  | 0, y => Prod.fst (α := Int) (β := List Pair) y
  | k + 1, y => Prod.fst (α := Int) (β := List Str × List (BT k)) y
def lfR (y : BT 0) : List Pair := Prod.snd (α := Int) (β := List Pair) y
def ndP {k : Nat} (y : BT (k + 1)) : List Str := (Prod.snd (α := Int) (β := List Str × List (BT k)) y).1
def ndK {k : Nat} (y : BT (k + 1)) : List (BT k) := (Prod.snd (α := Int) (β := List Str × List (BT k)) y).2
def mkL (s : Int) (r : List Pair) : BT 0 := (s, r)
def mkN {k : Nat} (s : Int) (p : List Str) (c : List (BT k)) : BT (k + 1) := (s, p, c)
instance : (k : Nat) → Inhabited (BT k)
  | 0 => ⟨mkL 0 []⟩
  | k + 1 => ⟨mkN 0 [] []⟩
def BT.rows : (k : Nat) → BT k → List Pair
  | 0, y => lfR y
  | k + 1, y => (ndK y).flatMap (BT.rows k)
def BT.slots : (k : Nat) → BT k → List Int
  | 0, y => [y.slot]
  | k + 1, y => y.slot :: (ndK y).flatMap (BT.slots k)
def BT.cnt : (k : Nat) → BT k → Nat
  | 0, y => (lfR y).length
  | k + 1, y => (ndK y).length
def mnB (fan leaf : Int) (k : Nat) : Int := if k = 0 then leaf / 2 else fan / 2
def mxB (fan leaf : Int) (k : Nat) : Int := if k = 0 then leaf else fan
def BT.ok (fan leaf : Int) : (k : Nat) → Int → Int → Span → BT k → Prop
  | 0, lo, hi, s, y => (lo ≤ ((lfR y).length : Int) ∧ ((lfR y).length : Int) ≤ hi) ∧ PairsR (lfR y) ∧ ∀ p ∈ lfR y, s.has p.key = true
  | k + 1, lo, hi, s, y => (lo ≤ ((ndK y).length : Int) ∧ ((ndK y).length : Int) ≤ hi) ∧ Ch (BT.ok fan leaf k (mnB fan leaf k) (mxB fan leaf k)) s (ndP y) (ndK y)
section
variable {fan leaf : Int} {k : Nat} {lo hi : Int} {s : Span}
theorem srt_app {A B : List Pair} (hA : Srt A) (hB : Srt B) (h : ∀ a ∈ A, ∀ b ∈ B, a.key.lt b.key = true) : Srt (A ++ B) := List.pairwise_append.2 ⟨hA, hB, h⟩
theorem Ch.rows {α : Type} {P : Span → α → Prop} {f : α → List Pair} (hf : ∀ (u : Span) (c : α), u.norm = u → P u c → PairsR (f c) ∧ ∀ p ∈ f c, u.has p.key = true) :
    ∀ {ps : List Str} {s : Span} {cs : List α}, s.norm = s → Ch P s ps cs → PairsR (cs.flatMap f) ∧ ∀ p ∈ cs.flatMap f, s.has p.key = true
  | [], s, _, hs, ⟨c, rfl, h⟩ => by
    have := hf s c hs h
    rw [List.flatMap_cons, List.flatMap_nil, List.append_nil]
    exact this
  | p :: ps, s, _, hs, ⟨c, ds, rfl, h1, h2, h3, h⟩ => by
    obtain ⟨a1, a2⟩ := hf _ c (loS_norm s p) h3
    obtain ⟨b1, b2⟩ := Ch.rows hf (hiS_norm s p) h
    rw [List.flatMap_cons]
    have a3 : ∀ q ∈ f c, s.has q.key = true ∧ q.key.lt p = true := fun q hq => by have := a2 q hq; rw [loS_has, Bool.and_eq_true] at this; exact this
    have b3 : ∀ q ∈ ds.flatMap f, s.has q.key = true ∧ q.key.lt p = false := fun q hq => by have := b2 q hq; rw [hiS_has, Bool.and_eq_true, Bool.not_eq_true'] at this; exact this
    refine ⟨pairsR_iff.2 ⟨fun q hq => ?_, srt_app a1.srt b1.srt fun a ha b hb => Str.lt_of_lt_of_le (a3 a ha).2 (b3 b hb).2⟩, fun q hq => ?_⟩
    · rcases List.mem_append.1 hq with hq | hq
      · exact (pairsR_iff.1 a1).1 q hq
      · exact (pairsR_iff.1 b1).1 q hq
    · rcases List.mem_append.1 hq with hq | hq
      · exact (a3 q hq).1
      · exact (b3 q hq).1
theorem BT.ok.rows : ∀ {k : Nat} {lo hi : Int} {s : Span} {y : BT k}, s.norm = s → BT.ok fan leaf k lo hi s y → PairsR (BT.rows k y) ∧ ∀ p ∈ BT.rows k y, s.has p.key = true
  | 0, _, _, _, _, _, h => h.2
  | k + 1, _, _, _, _, hs, h => Ch.rows (fun u c hu hc => BT.ok.rows hu hc) hs h.2
theorem BT.ok.cnt : ∀ {k : Nat} {lo hi : Int} {s : Span} {y : BT k}, BT.ok fan leaf k lo hi s y → lo ≤ (BT.cnt k y : Int) ∧ (BT.cnt k y : Int) ≤ hi
  | 0, _, _, _, _, h => h.1
  | k + 1, _, _, _, _, h => h.1
theorem BT.ok.to : ∀ {k : Nat} {lo hi lo' hi' : Int} {s : Span} {y : BT k}, BT.ok fan leaf k lo hi s y → lo' ≤ (BT.cnt k y : Int) → (BT.cnt k y : Int) ≤ hi' → BT.ok fan leaf k lo' hi' s y
  | 0, _, _, _, _, _, _, h, h1, h2 => ⟨⟨h1, h2⟩, h.2⟩
  | k + 1, _, _, _, _, _, _, h, h1, h2 => ⟨⟨h1, h2⟩, h.2⟩
/-! ## Rows side by side -/
theorem getN_non9 {l : List Pair} {k : Str} (h : ∀ p ∈ l, p.key ≠ k) : getN l k = none := getN_no fun j hj => h _ (List.getElem_mem hj)
theorem getN_mid {A B C : List Pair} {k : Str} (hA : ∀ p ∈ A, p.key.lt k = true) (hC : ∀ p ∈ C, k.lt p.key = true) : getN (A ++ (B ++ C)) k = getN B k := by
  rw [getN_append, getN_append, getN_non9 fun p hp => lt_ne (hA p hp), getN_non9 (l := C) fun p hp e => lt_ne (hC p hp) e.symm]
  cases getN B k <;> rfl
theorem filt_all {l : List Pair} {q : Pair → Bool} (h : ∀ p ∈ l, q p = true) : l.filter q = l := List.filter_eq_self.2 h
theorem filt_none {l : List Pair} {q : Pair → Bool} (h : ∀ p ∈ l, q p = false) : l.filter q = [] := List.filter_eq_nil_iff.2 fun p hp => by rw [h p hp]; simp
theorem with_mid {A B C : List Pair} {k : Str} {e : Eff} (hA : ∀ p ∈ A, p.key.lt k = true) (hC : ∀ p ∈ C, k.lt p.key = true) : withN (A ++ (B ++ C)) k e = A ++ (withN B k e ++ C) := by
  rw [withN_mid, withN_mid, getN_mid hA hC, List.filter_append, List.filter_append, List.filter_append, List.filter_append]
  rw [filt_all hA, filt_none (l := C) fun p hp => Str.lt_asymm (hC p hp), filt_none (l := A) fun p hp => Str.lt_asymm (hA p hp), filt_all (l := C) hC]
  simp
theorem Ch.ahead {α : Type} {P : Span → α → Prop} {f : α → List Pair} (hf : ∀ (u : Span) (c : α), u.norm = u → P u c → PairsR (f c) ∧ ∀ p ∈ f c, u.has p.key = true)
    {ps : List Str} {s : Span} {cs : List α} (hs : s.norm = s) (h : Ch P s ps cs) {key : Str} (hk : s.has key = true) :
    (∀ p ∈ (cs.take (routeN ps key)).flatMap f, p.key.lt key = true) ∧ ∀ p ∈ (cs.drop (routeN ps key + 1)).flatMap f, key.lt p.key = true := by
  have hl := h.len
  have hr := (h.piv hs).1
  have hle : routeN ps key ≤ ps.length := List.length_filter_le _ _
  have key9 : ∀ j (hj : j < cs.length), ∀ p ∈ f cs[j], routeN ps p.key = j := fun j hj p hp => by
    obtain ⟨u, h', hu, hh, hP, _⟩ := h.at hs (i := j) (by omega)
    have := (hf u _ hu hP).2 p hp
    rw [hh, Bool.and_eq_true, decide_eq_true_eq] at this
    exact this.2.symm
  constructor
  · intro p hp
    obtain ⟨c, hc, hp⟩ := List.mem_flatMap.1 hp
    obtain ⟨j, hj, e⟩ := List.getElem_of_mem hc
    rw [List.length_take] at hj
    rw [List.getElem_take] at e
    have := key9 j (by omega) p (by rw [e]; exact hp)
    cases h1 : p.key.lt key
    · have := route_mono (P := ps) h1; omega
    · rfl
  · intro p hp
    obtain ⟨c, hc, hp⟩ := List.mem_flatMap.1 hp
    obtain ⟨j, hj, e⟩ := List.getElem_of_mem hc
    rw [List.length_drop] at hj
    rw [List.getElem_drop] at e
    have := key9 (routeN ps key + 1 + j) (by omega) p (by rw [e]; exact hp)
    cases h1 : key.lt p.key
    · have := route_mono (P := ps) h1; omega
    · rfl
theorem flat_at {α : Type} (f : α → List Pair) {cs : List α} {i : Nat} (hi : i < cs.length) : cs.flatMap f = (cs.take i).flatMap f ++ (f cs[i] ++ (cs.drop (i + 1)).flatMap f) := by
  conv => lhs; rw [← List.take_append_drop i cs, List.drop_eq_getElem_cons hi]
  rw [List.flatMap_append, List.flatMap_cons]
end
def rhA (l : List Pair) : List Pair := l.take ((l.length + 1) / 2)
def rhB (l : List Pair) : List Pair := l.drop ((l.length + 1) / 2)
def rhK (l : List Pair) : Str := (rowsN l).2.2.1
abbrev InsT (k : Nat) : Type := (BT k × Option (Str × BT k)) × List Bool
def splB {k : Nat} (fan : Int) (s : Int) (P : List Str) (K : List (BT k)) (u : List Bool) : InsT (k + 1) :=
  if (K.length : Int) ≤ fan then ((mkN s P K, none), u)
  else ((mkN s (P.take ((K.length + 1) / 2 - 1)) (K.take ((K.length + 1) / 2)), some (P.getD ((K.length + 1) / 2 - 1) Str.nil, mkN (firstN u : Int) (P.drop ((K.length + 1) / 2)) (K.drop ((K.length + 1) / 2)))), u.set (firstN u) true)
def upB {k : Nat} (fan : Int) (y : BT (k + 1)) (i : Nat) (r : InsT k) : InsT (k + 1) :=
  match r.1.2 with
  | none => ((mkN y.slot (ndP y) ((ndK y).set i r.1.1), none), r.2)
  | some w => splB fan y.slot ((ndP y).take i ++ ([w.1] ++ (ndP y).drop i)) ((ndK y).take i ++ ([r.1.1, w.2] ++ (ndK y).drop (i + 1))) r.2
def insB (fan leaf : Int) (key : Str) (e : Eff) : (k : Nat) → BT k → List Bool → InsT k
  | 0, y, u => if ((withN (lfR y) key e).length : Int) ≤ leaf then ((mkL y.slot (withN (lfR y) key e), none), u)
      else ((mkL y.slot (rhA (withN (lfR y) key e)), some (rhK (withN (lfR y) key e), mkL (firstN u : Int) (rhB (withN (lfR y) key e)))), u.set (firstN u) true)
  | k + 1, y, u => upB fan y (routeN (ndP y) key) (insB fan leaf key e k ((ndK y).getD (routeN (ndP y) key) default) u)
section
variable {fan leaf : Int} {key : Str} {e : Eff}
theorem insB_0t {y : BT 0} {u : List Bool} (h : ((withN (lfR y) key e).length : Int) ≤ leaf) : insB fan leaf key e 0 y u = ((mkL y.slot (withN (lfR y) key e), none), u) := if_pos h
theorem insB_0f {y : BT 0} {u : List Bool} (h : ¬ ((withN (lfR y) key e).length : Int) ≤ leaf) : insB fan leaf key e 0 y u = ((mkL y.slot (rhA (withN (lfR y) key e)), some (rhK (withN (lfR y) key e), mkL (firstN u : Int) (rhB (withN (lfR y) key e)))), u.set (firstN u) true) := if_neg h
def InsOk (fan leaf : Int) (k : Nat) (lo : Int) (s : Span) (rows : List Pair) (r : BT k × Option (Str × BT k)) : Prop :=
  match r.2 with
  | none => BT.ok fan leaf k lo (mxB fan leaf k) s r.1 ∧ BT.rows k r.1 = rows
  | some w => s.has w.1 = true ∧ w.1 ≠ s.lo ∧ BT.ok fan leaf k (mnB fan leaf k) (mxB fan leaf k) (loS s w.1) r.1 ∧ BT.ok fan leaf k (mnB fan leaf k) (mxB fan leaf k) (hiS s w.1) w.2 ∧ BT.rows k r.1 ++ BT.rows k w.2 = rows
theorem with_mem {l : List Pair} {k : Str} {e : Eff} {p : Pair} (h : p ∈ withN l k e) : p ∈ l ∨ p.key = k := by
  rw [withN_mid] at h
  rcases List.mem_append.1 h with h | h
  · rcases List.mem_append.1 h with h | h
    · exact .inl (List.mem_filter.1 h).1
    · right
      unfold midN at h
      split at h
      · simp at h; rw [h]
      · cases h
  · exact .inl (List.mem_filter.1 h).1
def Grows (e : Eff) : Prop := ∀ o : Option Str, o.isSome = true → (e.apply o).isSome = true
theorem with_ge {l : List Pair} (h : Srt l) {k : Str} {e : Eff} (he : Grows e) : l.length ≤ (withN l k e).length := by
  rw [withN_mid, h.front, List.length_append, List.length_append]
  cases hs : (getN l k).isSome
  · rw [h.back_no hs]
    simp [List.length_take, List.length_drop]
    have := fndN_le l k
    omega
  · have hh := h.has k
    rw [hs] at hh
    obtain ⟨q1, q2⟩ := of_decide_eq_true hh.symm
    rw [h.back_yes q1 q2, midN_some (he _ hs)]
    simp [List.length_take, List.length_drop]
    omega
theorem rh_rows {l : List Pair} (h : PairsR l) (hl : 2 ≤ l.length) {s : Span} (hs : ∀ p ∈ l, s.has p.key = true) :
    s.has (rhK l) = true ∧ rhK l ≠ s.lo ∧ PairsR (rhA l) ∧ PairsR (rhB l) ∧ (∀ p ∈ rhA l, (loS s (rhK l)).has p.key = true) ∧ (∀ p ∈ rhB l, (hiS s (rhK l)).has p.key = true) ∧ rhA l ++ rhB l = l ∧ (rhK l).b.size ≤ 16 := by
  have hsr := h.srt
  have hm1 : (l.length + 1) / 2 - 1 < l.length := by omega
  have hm2 : (l.length + 1) / 2 < l.length := by omega
  have e : rhK l = (betweenN l[(l.length + 1) / 2 - 1].key l[(l.length + 1) / 2].key).1 := by unfold rhK; rw [rowsN_t (by omega)]
  have hlt := hsr.lt (i := (l.length + 1) / 2 - 1) (j := (l.length + 1) / 2) (by omega) hm2
  obtain ⟨b1, b2, b3, b4⟩ := between_props hlt ((pairsR_iff.1 h).1 _ (List.getElem_mem hm2)).1
  rw [← e] at b2 b3 b4
  have hA : ∀ p ∈ rhA l, p.key.lt (rhK l) = true := fun p hp => by
    obtain ⟨j, hj, rfl⟩ := List.getElem_of_mem hp
    unfold rhA at hj ⊢
    rw [List.length_take] at hj
    rw [List.getElem_take]
    by_cases h9 : j = (l.length + 1) / 2 - 1
    · simp only [h9]; exact b3
    · have := hsr.lt (i := j) (j := (l.length + 1) / 2 - 1) (by omega) hm1
      exact Str.lt_of_lt_of_le this (Str.lt_asymm b3)
  have hB : ∀ p ∈ rhB l, p.key.lt (rhK l) = false := fun p hp => by
    obtain ⟨j, hj, rfl⟩ := List.getElem_of_mem hp
    unfold rhB at hj ⊢
    rw [List.length_drop] at hj
    rw [List.getElem_drop]
    by_cases h9 : j = 0
    · simp only [h9, Nat.add_zero]; exact b4
    · have := hsr.lt (i := (l.length + 1) / 2) (j := (l.length + 1) / 2 + j) (by omega) (by omega)
      exact Str.le_trans b4 (Str.lt_asymm this)
  have hin : ∀ p ∈ rhA l, p ∈ l := fun p hp => List.mem_of_mem_take hp
  have hin2 : ∀ p ∈ rhB l, p ∈ l := fun p hp => List.mem_of_mem_drop hp
  have x1 := hs _ (List.getElem_mem hm1)
  have x2 := hs _ (List.getElem_mem hm2)
  refine ⟨?_, ?_, ?_, ?_, fun p hp => ?_, fun p hp => ?_, List.take_append_drop _ _, b2⟩
  · refine span_has.2 ⟨Str.le_trans (lo_le x1) (Str.lt_asymm b3), ?_⟩
    rcases (span_has.1 x2).2 with h9 | h9
    · exact .inl h9
    · exact .inr (Str.lt_of_le_of_lt b4 h9)
  · intro h9
    have := lo_le x1
    rw [← h9, b3] at this; cases this
  · exact pairsR_iff.2 ⟨fun p hp => (pairsR_iff.1 h).1 p (hin p hp), List.Pairwise.sublist (List.take_sublist _ _) hsr⟩
  · exact pairsR_iff.2 ⟨fun p hp => (pairsR_iff.1 h).1 p (hin2 p hp), List.Pairwise.sublist (List.drop_sublist _ _) hsr⟩
  · rw [loS_has, hs p (hin p hp), hA p hp]; rfl
  · rw [hiS_has, hs p (hin2 p hp), hB p hp]; rfl
theorem getD_lt {α : Type} {d : α} {l : List α} {i : Nat} (h : i < l.length) : l.getD i d = l[i] := by rw [List.getD_eq_getElem?_getD, List.getElem?_eq_getElem h]; rfl
theorem spl_ok {k : Nat} (hf : 4 ≤ fan) {lo : Int} {s : Span} (hs : s.norm = s) {sl : Int} {P : List Str} {K : List (BT k)} {u : List Bool} (hl : lo ≤ (K.length : Int)) (hK : (K.length : Int) ≤ fan + 1) (h : Ch (BT.ok fan leaf k (mnB fan leaf k) (mxB fan leaf k)) s P K) :
    InsOk fan leaf (k + 1) lo s (K.flatMap (BT.rows k)) (splB fan sl P K u).1 := by
  have hlen := h.len
  unfold splB
  by_cases h1 : (K.length : Int) ≤ fan
  · rw [if_pos h1]
    exact ⟨⟨⟨hl, h1⟩, h⟩, rfl⟩
  · rw [if_neg h1]
    have hm : (K.length + 1) / 2 - 1 < P.length := by omega
    have e1 : P.take ((K.length + 1) / 2 - 1) ++ P[(K.length + 1) / 2 - 1] :: P.drop ((K.length + 1) / 2) = P := by
      have := List.drop_eq_getElem_cons hm
      rw [show (K.length + 1) / 2 - 1 + 1 = (K.length + 1) / 2 by omega] at this
      rw [← this, List.take_append_drop]
    have e2 : K.take ((K.length + 1) / 2) ++ K.drop ((K.length + 1) / 2) = K := List.take_append_drop _ _
    have h2 : Ch (BT.ok fan leaf k (mnB fan leaf k) (mxB fan leaf k)) s (P.take ((K.length + 1) / 2 - 1) ++ P[(K.length + 1) / 2 - 1] :: P.drop ((K.length + 1) / 2)) (K.take ((K.length + 1) / 2) ++ K.drop ((K.length + 1) / 2)) := by rw [e1, e2]; exact h
    rw [ch_app hs (by rw [List.length_take, List.length_take]; omega)] at h2
    obtain ⟨a1, a2, a3, a4⟩ := h2
    show s.has (P.getD ((K.length + 1) / 2 - 1) Str.nil) = true ∧ _
    rw [getD_lt hm]
    refine ⟨a1, a2, ⟨⟨?_, ?_⟩, a3⟩, ⟨⟨?_, ?_⟩, a4⟩, ?_⟩
    · show fan / 2 ≤ ((K.take ((K.length + 1) / 2)).length : Int)
      rw [List.length_take]; omega
    · show ((K.take ((K.length + 1) / 2)).length : Int) ≤ fan
      rw [List.length_take]; omega
    · show fan / 2 ≤ ((K.drop ((K.length + 1) / 2)).length : Int)
      rw [List.length_drop]; omega
    · show ((K.drop ((K.length + 1) / 2)).length : Int) ≤ fan
      rw [List.length_drop]; omega
    · show (K.take ((K.length + 1) / 2)).flatMap _ ++ (K.drop ((K.length + 1) / 2)).flatMap _ = _
      rw [← List.flatMap_append, e2]
theorem ins_ok (hf : 4 ≤ fan) (hlf : 2 ≤ leaf) (he : Grows e) (hk16 : key.b.size ≤ 16) (he16 : e.val.b.size ≤ 16) :
    ∀ (k : Nat) {lo : Int} {s : Span} {y : BT k} (u : List Bool), s.norm = s → s.has key = true → BT.ok fan leaf k lo (mxB fan leaf k) s y → InsOk fan leaf k lo s (withN (BT.rows k y) key e) (insB fan leaf key e k y u).1 ∧ (insB fan leaf key e k y u).1.1.slot = y.slot
  | 0, lo, s, y, u, hs, hk, h => by
    obtain ⟨⟨h1, h2⟩, h3, h4⟩ := h
    have hge := with_ge h3.srt (k := key) he
    have hle := h3.srt.with_len key e
    have hP := h3.with (k := key) (e := e) hk16 he16
    have hin : ∀ p ∈ withN (lfR y) key e, s.has p.key = true := fun p hp => by
      rcases with_mem hp with h | h
      · exact h4 p h
      · rw [h]; exact hk
    have h2 : ((lfR y).length : Int) ≤ leaf := h2
    by_cases h5 : ((withN (lfR y) key e).length : Int) ≤ leaf
    · rw [insB_0t h5]
      exact ⟨⟨⟨⟨by show lo ≤ ((withN (lfR y) key e).length : Int); omega, h5⟩, hP, hin⟩, rfl⟩, rfl⟩
    · rw [insB_0f h5]
      obtain ⟨r1, r2, r3, r4, r5, r6, r7, _⟩ := rh_rows hP (by omega) hin
      refine ⟨⟨r1, r2, ⟨⟨?_, ?_⟩, r3, r5⟩, ⟨⟨?_, ?_⟩, r4, r6⟩, r7⟩, rfl⟩
      · show leaf / 2 ≤ ((rhA (withN (lfR y) key e)).length : Int)
        unfold rhA; rw [List.length_take]; omega
      · show ((rhA (withN (lfR y) key e)).length : Int) ≤ leaf
        unfold rhA; rw [List.length_take]; omega
      · show leaf / 2 ≤ ((rhB (withN (lfR y) key e)).length : Int)
        unfold rhB; rw [List.length_drop]; omega
      · show ((rhB (withN (lfR y) key e)).length : Int) ≤ leaf
        unfold rhB; rw [List.length_drop]; omega
  | k + 1, lo, s, y, u, hs, hk, h => by
    obtain ⟨⟨h1, h2⟩, h3⟩ := h
    have hlen := h3.len
    have hi : routeN (ndP y) key ≤ (ndP y).length := List.length_filter_le _ _
    obtain ⟨v, hi2, v1, v2, v3, v4⟩ := h3.at hs hi
    have hv : v.has key = true := by rw [v2, hk, decide_eq_true rfl]; rfl
    obtain ⟨g1, g2⟩ := ins_ok hf hlf he hk16 he16 k u v1 hv v3
    obtain ⟨ha, hc⟩ := Ch.ahead (f := BT.rows k) (fun u c hu hc => BT.ok.rows hu hc) hs h3 hk
    have hrows : withN (BT.rows (k + 1) y) key e = ((ndK y).take (routeN (ndP y) key)).flatMap (BT.rows k) ++ (withN (BT.rows k (ndK y)[routeN (ndP y) key]) key e ++ ((ndK y).drop (routeN (ndP y) key + 1)).flatMap (BT.rows k)) := by
      show withN ((ndK y).flatMap (BT.rows k)) key e = _
      rw [flat_at (BT.rows k) hi2, with_mid ha hc]
    have h2 : ((ndK y).length : Int) ≤ fan := h2
    have hI : insB fan leaf key e (k + 1) y u = upB fan y (routeN (ndP y) key) (insB fan leaf key e k (ndK y)[routeN (ndP y) key] u) := by
      show upB _ _ _ (insB fan leaf key e k ((ndK y).getD _ _) u) = _
      rw [getD_lt hi2]
    rw [hI, hrows]
    generalize insB fan leaf key e k (ndK y)[routeN (ndP y) key] u = r at *
    generalize routeN (ndP y) key = i at *
    unfold upB
    unfold InsOk at g1
    cases hr : r.1.2 with
    | none =>
      rw [hr] at g1
      dsimp only at g1
      obtain ⟨g3, g4⟩ := g1
      have hch := v4 [] [r.1.1] (ch_one.2 g3)
      rw [List.nil_append, List.take_append_drop, List.singleton_append] at hch
      have e1 : (ndK y).take i ++ r.1.1 :: (ndK y).drop (i + 1) = (ndK y).set i r.1.1 := (List.set_eq_take_append_cons_drop ..).trans (by rw [if_pos hi2]) |>.symm
      rw [e1] at hch
      refine ⟨⟨⟨⟨?_, ?_⟩, hch⟩, ?_⟩, rfl⟩
      · show lo ≤ (((ndK y).set i r.1.1).length : Int)
        rw [List.length_set]; exact h1
      · show (((ndK y).set i r.1.1).length : Int) ≤ fan
        rw [List.length_set]; exact h2
      · show ((ndK y).set i r.1.1).flatMap _ = _
        rw [← e1, List.flatMap_append, List.flatMap_cons, g4]
    | some w =>
      rw [hr] at g1
      dsimp only at g1
      obtain ⟨g3, g4, g5, g6, g7⟩ := g1
      have hch := v4 [w.1] [r.1.1, w.2] (ch_cons.2 ⟨g3, g4, g5, ch_one.2 g6⟩)
      have hsp := spl_ok (leaf := leaf) hf hs (lo := lo) (sl := y.slot) (u := r.2) (by simp [List.length_take, List.length_drop]; omega) (by simp [List.length_take, List.length_drop]; omega) hch
      have e2 : ((ndK y).take i ++ ([r.1.1, w.2] ++ (ndK y).drop (i + 1))).flatMap (BT.rows k) = ((ndK y).take i).flatMap (BT.rows k) ++ (withN (BT.rows k (ndK y)[i]) key e ++ ((ndK y).drop (i + 1)).flatMap (BT.rows k)) := by
        rw [List.flatMap_append, List.flatMap_append, List.flatMap_cons, List.flatMap_cons, List.flatMap_nil, List.append_nil, ← g7]
      rw [e2] at hsp
      refine ⟨hsp, ?_⟩
      show (splB fan y.slot _ _ _).1.1.slot = _
      unfold splB
      split <;> rfl
end
end Go.Fw
