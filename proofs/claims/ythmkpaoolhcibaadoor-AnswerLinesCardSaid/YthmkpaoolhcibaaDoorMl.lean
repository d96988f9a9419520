/- Operations, answers, and rows of two maps side by side, as plain functions, with how they lie in memory. Plain Lean; nothing of the program is named here. No condition. -/
import Derived.Test.YthmkpaoolhcibaaDoorMi
set_option linter.unusedVariables false
set_option linter.unusedSimpArgs false
set_option linter.unnecessarySimpa false
namespace Go.Fw
open Go Go.RowKit
structure Opr where
  kind : Int
  key : Str
  hi : Str
  opn : Bool
  val : Str
  lim : Int
  deriving DecidableEq
instance : Inhabited Opr := ⟨⟨0, Str.nil, Str.nil, false, Str.nil, 0⟩⟩
def Opr.Ok (o : Opr) : Prop := i64 o.kind ∧ i64 o.lim
def eOp : Enc Opr where
  k := 6
  w := 72
  R := fun _ cs o => cs = [.int .i64 o.kind, .string o.key.b, .string o.hi.b, .bool o.opn, .string o.val.b, .int .i64 o.lim] ∧ o.Ok
  mono := fun _ h => h
  len := fun h => by rw [h.1]; rfl
  one := fun h u hu => by rw [h.1] at hu; simp at hu; rcases hu with rfl | rfl | rfl | rfl | rfl | rfl <;> rfl
theorem dec_op {P : Program} {t i s b : TypeId} (ht : structK P t = some [(i, 0, 1), (s, 1, 1), (s, 2, 1), (b, 3, 1), (s, 4, 1), (i, 5, 1)]) (hi : P.underlying i = some (.int .i64)) (hs : P.underlying s = some .string) (hb : P.underlying b = some .bool) (hc : P.cellsOf t = 6) : Dec P t eOp := by
  intro H enc w fuel cs x h hw
  obtain ⟨hl, hf⟩ := trod_fld ht h hw
  obtain ⟨y0, n0, t0, w0⟩ := hf 0 _ _ _ rfl
  obtain ⟨y1, n1, t1, w1⟩ := hf 1 _ _ _ rfl
  obtain ⟨y2, n2, t2, w2⟩ := hf 2 _ _ _ rfl
  obtain ⟨y3, n3, t3, w3⟩ := hf 3 _ _ _ rfl
  obtain ⟨y4, n4, t4, w4⟩ := hf 4 _ _ _ rfl
  obtain ⟨y5, n5, t5, w5⟩ := hf 5 _ _ _ rfl
  obtain ⟨a0, e0, q0⟩ := fld_int hi t0 w0
  obtain ⟨a1, e1⟩ := fld_str hs t1 w1
  obtain ⟨a2, e2⟩ := fld_str hs t2 w2
  obtain ⟨a3, e3⟩ := fld_bool hb t3
  obtain ⟨a4, e4⟩ := fld_str hs t4 w4
  obtain ⟨a5, e5, q5⟩ := fld_int hi t5 w5
  rw [hc] at hl
  match cs, hl with
  | [_, _, _, _, _, _], _ =>
    simp at e0 e1 e2 e3 e4 e5
    subst e0 e1 e2 e3 e4 e5
    exact ⟨⟨a0, a1, a2, a3, a4, a5⟩, rfl, q0, q5⟩
/-- The keys of an operation. -/
def Opr.span (o : Opr) : Span := if o.kind = 4 ∨ o.kind = 6 then ⟨o.key, o.hi, o.opn⟩ else ⟨o.key, o.key.next, false⟩
/-- An operation that may be. -/
def Opr.R (o : Opr) : Prop := (1 ≤ o.kind ∧ o.kind ≤ 6 ∧ o.key.b.size ≤ 16 ∧ o.hi.b.size ≤ 16 ∧ o.val.b.size ≤ 16) ∧
  (2 < o.kind → o.val = Str.nil) ∧ (o.kind ≠ 6 → o.lim = 0) ∧ (o.kind = 6 → 1 ≤ o.lim ∧ o.lim ≤ 64) ∧
  if o.kind = 4 ∨ o.kind = 6 then o.span.empty = false ∧ (o.opn = false ∨ o.hi = Str.nil) else o.hi = Str.nil ∧ o.opn = false
instance (o : Opr) : Decidable o.R := by unfold Opr.R; infer_instance
def Opr.msg (o : Opr) (s : Int) : Msg := ⟨s, o.kind, o.key, o.hi, o.opn, o.val⟩
theorem Opr.R.fit {o : Opr} (h : o.R) (s : Int) : (o.msg s).fit := fit_of ⟨h.1.2.2.1, h.1.2.2.2.2⟩
structure Ans where
  err : Int
  has : Bool
  val : Str
  rows : List Pair
  deriving DecidableEq
instance : Inhabited Ans := ⟨⟨0, false, Str.nil, []⟩⟩
def AnsC (G : GH) (cs : List Value) (a : Ans) : Prop :=
  ∃ p c, cs = [.int .i64 a.err, .bool a.has, .string a.val.b, .slice p a.rows.length c] ∧ SlR ePair G (.slice p a.rows.length c) a.rows ∧ i64 a.err
theorem AnsC.mono {G G' : GH} {cs a} (hl : Le G G') (h : AnsC G cs a) : AnsC G' cs a := by
  obtain ⟨p, c, h0, h1, h2⟩ := h
  exact ⟨p, c, h0, h1.mono hl, h2⟩
def eAns : Enc Ans where
  k := 4
  w := 56
  R := AnsC
  mono := fun hl h => h.mono hl
  len := fun h => by obtain ⟨p, c, h0, _⟩ := h; rw [h0]; rfl
  one := fun h u hu => by
    obtain ⟨p, c, h0, _⟩ := h
    rw [h0] at hu
    simp at hu
    rcases hu with rfl | rfl | rfl | rfl <;> rfl
structure Drow where
  key : Str
  a : Str
  b : Str
  inA : Bool
  inB : Bool
  deriving DecidableEq
instance : Inhabited Drow := ⟨⟨Str.nil, Str.nil, Str.nil, false, false⟩⟩
def eRow : Enc Drow where
  k := 5
  w := 56
  R := fun _ cs r => cs = [.string r.key.b, .string r.a.b, .string r.b.b, .bool r.inA, .bool r.inB]
  mono := fun _ h => h
  len := fun h => by rw [h]; rfl
  one := fun h u hu => by rw [h] at hu; simp at hu; rcases hu with rfl | rfl | rfl | rfl | rfl <;> rfl
/-- One operation on rows. -/
def doN (l : List Pair) (o : Opr) : List Pair × Ans :=
  if ¬ o.R then (l, ⟨3, false, Str.nil, []⟩)
  else if o.kind = 5 then (l, ⟨0, (getN l o.key).isSome, (getN l o.key).getD Str.nil, []⟩)
  else if o.kind = 6 then (l, ⟨0, false, Str.nil, scanN l o.span o.lim⟩)
  else (takeN l (o.msg 1), ⟨0, false, Str.nil, []⟩)
theorem doN_0 {l : List Pair} {o : Opr} (h : ¬ o.R) : doN l o = (l, ⟨3, false, Str.nil, []⟩) := if_pos h
theorem doN_5 {l : List Pair} {o : Opr} (h : o.R) (h5 : o.kind = 5) : doN l o = (l, ⟨0, (getN l o.key).isSome, (getN l o.key).getD Str.nil, []⟩) := by rw [doN, if_neg (by simpa using h), if_pos h5]
theorem doN_6 {l : List Pair} {o : Opr} (h : o.R) (h6 : o.kind = 6) : doN l o = (l, ⟨0, false, Str.nil, scanN l o.span o.lim⟩) := by rw [doN, if_neg (by simpa using h), if_neg (by omega), if_pos h6]
theorem doN_t {l : List Pair} {o : Opr} (h : o.R) (h5 : ¬ o.kind = 5) (h6 : ¬ o.kind = 6) : doN l o = (takeN l (o.msg 1), ⟨0, false, Str.nil, []⟩) := by rw [doN, if_neg (by simpa using h), if_neg h5, if_neg h6]
theorem doN_R {l : List Pair} {o : Opr} (h : PairsR l) : PairsR (doN l o).1 ∧ (doN l o).1.length ≤ l.length + 1 := by
  unfold doN
  split
  · exact ⟨h, by show l.length ≤ _; omega⟩
  · split
    · exact ⟨h, by show l.length ≤ _; omega⟩
    · split
      · exact ⟨h, by show l.length ≤ _; omega⟩
      · rename_i h1 h2 h3
        have hR : o.R := by simpa using h1
        have := h.take_len (o.msg 1)
        exact ⟨h.takeF (hR.fit 1), this⟩
/-- Operations, one behind the other. -/
def opsN (l : List Pair) (ops : List Opr) : List Pair × List Ans := ops.foldl (fun s o => ((doN s.1 o).1, s.2 ++ [(doN s.1 o).2])) (l, [])
theorem opsN_succ {l : List Pair} {ops : List Opr} {k : Nat} (h : k < ops.length) : opsN l (ops.take (k + 1)) = ((doN (opsN l (ops.take k)).1 ops[k]).1, (opsN l (ops.take k)).2 ++ [(doN (opsN l (ops.take k)).1 ops[k]).2]) := by
  unfold opsN
  rw [List.take_succ_eq_append_getElem h, List.foldl_append]; rfl
theorem opsN_R {l : List Pair} {ops : List Opr} (h : PairsR l) : ∀ k, k ≤ ops.length → PairsR (opsN l (ops.take k)).1 ∧ (opsN l (ops.take k)).1.length ≤ l.length + k ∧ (opsN l (ops.take k)).2.length = k := by
  intro k
  induction k with
  | zero => intro _; exact ⟨by simpa [opsN] using h, by simp [opsN], by simp [opsN]⟩
  | succ k ih =>
    intro hk
    obtain ⟨h1, h2, h3⟩ := ih (by omega)
    have h4 := doN_R (o := ops[k]) h1
    rw [opsN_succ (by omega)]
    refine ⟨h4.1, ?_, ?_⟩
    · have := h4.2; dsimp only; omega
    · simp [h3]
def allW (ops : List Opr) : Bool := ops.all fun o => decide o.R && decide (o.kind ≤ 4)
theorem allW_succ {ops : List Opr} {k : Nat} (h : k < ops.length) : allW (ops.take (k + 1)) = (allW (ops.take k) && (decide ops[k].R && decide (ops[k].kind ≤ 4))) := by
  unfold allW; rw [List.take_succ_eq_append_getElem h, List.all_append]; simp
theorem allW_false {ops : List Opr} {k : Nat} (h : k < ops.length) (hn : (decide ops[k].R && decide (ops[k].kind ≤ 4)) = false) : allW ops = false := by
  unfold allW; rw [List.all_eq_false]
  exact ⟨ops[k], List.getElem_mem h, by simp [hn]⟩
def applyN (l : List Pair) (ops : List Opr) : List Pair × Bool := if allW ops = true then ((opsN l ops).1, true) else ([], false)
theorem applyN_t {l : List Pair} {ops : List Opr} (h : allW ops = true) : applyN l ops = ((opsN l ops).1, true) := if_pos h
theorem applyN_f {l : List Pair} {ops : List Opr} (h : allW ops = false) : applyN l ops = ([], false) := if_neg (by simp [h])
/-- Two maps side by side. -/
def bothN : List Pair → List Pair → List Drow
  | [], [] => []
  | x :: a, [] => ⟨x.key, x.val, Str.nil, true, false⟩ :: bothN a []
  | [], y :: b => ⟨y.key, Str.nil, y.val, false, true⟩ :: bothN [] b
  | x :: a, y :: b =>
    if x.key.lt y.key = true then ⟨x.key, x.val, Str.nil, true, false⟩ :: bothN a (y :: b)
    else if y.key.lt x.key = true then ⟨y.key, Str.nil, y.val, false, true⟩ :: bothN (x :: a) b
    else ⟨x.key, x.val, y.val, true, true⟩ :: bothN a b
termination_by a b => a.length + b.length
theorem both_len : ∀ (a b : List Pair), (bothN a b).length ≤ a.length + b.length
  | [], [] => by simp [bothN]
  | x :: a, [] => by rw [bothN]; have := both_len a []; simp at this ⊢; omega
  | [], y :: b => by rw [bothN]; have := both_len [] b; simp at this ⊢; omega
  | x :: a, y :: b => by
    rw [bothN]
    split
    · have := both_len a (y :: b); simp at this ⊢; omega
    · split
      · have := both_len (x :: a) b; simp at this ⊢; omega
      · have := both_len a b; simp at this ⊢; omega
termination_by a b => a.length + b.length
theorem both_ff {a b : List Pair} {i j : Nat} (hi : i < a.length) (hj : ¬ j < b.length) : bothN (a.drop i) (b.drop j) = ⟨a[i].key, a[i].val, Str.nil, true, false⟩ :: bothN (a.drop (i + 1)) (b.drop j) := by
  rw [List.drop_eq_getElem_cons hi, List.drop_eq_nil_of_le (by omega : b.length ≤ j), bothN]
theorem both_fr {a b : List Pair} {i j : Nat} (hi : ¬ i < a.length) (hj : j < b.length) : bothN (a.drop i) (b.drop j) = ⟨b[j].key, Str.nil, b[j].val, false, true⟩ :: bothN (a.drop i) (b.drop (j + 1)) := by
  rw [List.drop_eq_getElem_cons hj, List.drop_eq_nil_of_le (by omega : a.length ≤ i), bothN]
theorem both_l {a b : List Pair} {i j : Nat} (hi : i < a.length) (hj : j < b.length) (h : a[i].key.lt b[j].key = true) : bothN (a.drop i) (b.drop j) = ⟨a[i].key, a[i].val, Str.nil, true, false⟩ :: bothN (a.drop (i + 1)) (b.drop j) := by
  rw [List.drop_eq_getElem_cons hi, List.drop_eq_getElem_cons hj, bothN, if_pos h]
theorem both_r {a b : List Pair} {i j : Nat} (hi : i < a.length) (hj : j < b.length) (h0 : a[i].key.lt b[j].key = false) (h : b[j].key.lt a[i].key = true) : bothN (a.drop i) (b.drop j) = ⟨b[j].key, Str.nil, b[j].val, false, true⟩ :: bothN (a.drop i) (b.drop (j + 1)) := by
  rw [List.drop_eq_getElem_cons hi, List.drop_eq_getElem_cons hj, bothN, if_neg (by simp [h0]), if_pos h]
theorem both_e {a b : List Pair} {i j : Nat} (hi : i < a.length) (hj : j < b.length) (h0 : a[i].key.lt b[j].key = false) (h : b[j].key.lt a[i].key = false) : bothN (a.drop i) (b.drop j) = ⟨a[i].key, a[i].val, b[j].val, true, true⟩ :: bothN (a.drop (i + 1)) (b.drop (j + 1)) := by
  rw [List.drop_eq_getElem_cons hi, List.drop_eq_getElem_cons hj, bothN, if_neg (by simp [h0]), if_neg (by simp [h])]
theorem both_0 {a b : List Pair} {i j : Nat} (hi : ¬ i < a.length) (hj : ¬ j < b.length) : bothN (a.drop i) (b.drop j) = [] := by
  rw [List.drop_eq_nil_of_le (by omega : a.length ≤ i), List.drop_eq_nil_of_le (by omega : b.length ≤ j), bothN]
def Drow.same (r : Drow) : Bool := r.inA && r.inB && decide (r.a = r.b)
def comN (a b : List Pair) : List Pair := ((bothN a b).filter Drow.same).map fun r => ⟨r.key, r.a⟩
theorem getN_none {l : List Pair} {k : Str} (h : ∀ p ∈ l, p.key ≠ k) : getN l k = none := by
  induction l with
  | nil => rfl
  | cons p l ih => rw [getN_cons, if_neg (h p (by simp))]; exact ih fun p hp => h p (by simp [hp])
theorem com_filter : ∀ (a b : List Pair), Srt a → Srt b → comN a b = a.filter fun p => (getN b p.key).isSome && decide ((getN b p.key).getD Str.nil = p.val)
  | [], [], _, _ => by simp [comN, bothN]
  | x :: a, [], ha, hb => by
    have ih := com_filter a [] (List.pairwise_cons.1 ha).2 hb
    have e : getN [] x.key = none := rfl
    rw [List.filter_cons_of_neg (by simp [e]), ← ih]
    simp [comN, bothN, Drow.same]
  | [], y :: b, ha, hb => by
    have ih := com_filter [] b ha (List.pairwise_cons.1 hb).2
    simp only [List.filter_nil] at ih ⊢
    have e : comN [] (y :: b) = comN [] b := by simp [comN, bothN, Drow.same]
    rw [e]; exact ih
  | x :: a, y :: b, ha, hb => by
    obtain ⟨ha1, ha2⟩ := List.pairwise_cons.1 ha
    obtain ⟨hb1, hb2⟩ := List.pairwise_cons.1 hb
    have step : ∀ (p : Pair), y.key.lt p.key = true → getN (y :: b) p.key = getN b p.key := fun p hp => by
      rw [getN_cons, if_neg (fun e => by rw [e, Str.lt_irrefl] at hp; cases hp)]
    by_cases h1 : x.key.lt y.key = true
    · have ih := com_filter a (y :: b) ha2 hb
      have e : getN (y :: b) x.key = none := getN_none fun p hp e => by
        rcases List.mem_cons.1 hp with rfl | hp
        · rw [e, Str.lt_irrefl] at h1; cases h1
        · have := Str.lt_trans h1 (hb1 p hp); rw [e, Str.lt_irrefl] at this; cases this
      rw [List.filter_cons_of_neg (by simp [e]), ← ih]
      unfold comN
      rw [bothN, if_pos h1]; simp [Drow.same]
    · by_cases h2 : y.key.lt x.key = true
      · have ih := com_filter (x :: a) b ha hb2
        have e : ((x :: a).filter fun p => (getN (y :: b) p.key).isSome && decide ((getN (y :: b) p.key).getD Str.nil = p.val)) = (x :: a).filter fun p => (getN b p.key).isSome && decide ((getN b p.key).getD Str.nil = p.val) := by
          refine List.filter_congr fun p hp => ?_
          rw [step p ?_]
          rcases List.mem_cons.1 hp with rfl | hp
          · exact h2
          · exact Str.lt_trans h2 (ha1 p hp)
        rw [e, ← ih]
        unfold comN
        rw [bothN, if_neg h1, if_pos h2]; simp [Drow.same]
      · have hk : x.key = y.key := Str.lt_total (by simpa using h1) (by simpa using h2)
        have ih := com_filter a b ha2 hb2
        have e : (a.filter fun p => (getN (y :: b) p.key).isSome && decide ((getN (y :: b) p.key).getD Str.nil = p.val)) = a.filter fun p => (getN b p.key).isSome && decide ((getN b p.key).getD Str.nil = p.val) := by
          refine List.filter_congr fun p hp => ?_
          rw [step p (by rw [← hk]; exact ha1 p hp)]
        have e0 : getN (y :: b) x.key = some y.val := by rw [getN_cons, if_pos hk.symm]
        unfold comN
        rw [bothN, if_neg h1, if_neg h2, List.filter_cons, List.filter_cons, e, e0]
        unfold comN at ih
        by_cases hv : x.val = y.val
        · rw [if_pos (by simp [Drow.same, hv]), if_pos (by simp [hv]), List.map_cons, ih]
        · rw [if_neg (by simp [Drow.same, hv]), if_neg (by simp; exact fun h => hv h.symm), ih]
termination_by a b => a.length + b.length
end Go.Fw
