/- Operations, answers, and rows of two maps side by side, as plain functions, with how they lie in memory. Plain Lean; nothing of the program is named here. No condition. -/
import Derived.Test.YtebkfinhhpelbaaGreatQxMh
import Derived.Test.YtebkfinhhpelbaaGreatQxWd
import Derived.Test.YtebkfinhhpelbaaGreatQxW5
set_option linter.unusedVariables false
set_option linter.unusedSimpArgs false
set_option linter.unnecessarySimpa false
namespace Go.Fw
open Go Go.RowKit
structure Opr where
  kind : Int
  key : Str
  hi : Str
  opn : Bool
  val : Str
  lim : Int
  deriving DecidableEq
instance : Inhabited Opr := ⟨⟨0, Str.nil, Str.nil, false, Str.nil, 0⟩⟩
def Opr.Ok (o : Opr) : Prop := i64 o.kind ∧ i64 o.lim
def eOp : Enc Opr where
  k := 6
  w := 72
  R := fun _ cs o => cs = [.int .i64 o.kind, .string o.key.b, .string o.hi.b, .bool o.opn, .string o.val.b, .int .i64 o.lim] ∧ o.Ok
  mono := fun _ h => h
  len := fun h => by rw [h.1]; rfl
  one := fun h u hu => by rw [h.1] at hu; simp at hu; rcases hu with rfl | rfl | rfl | rfl | rfl | rfl <;> rfl
def Opr.span (o : Opr) : Span := if o.kind = 4 ∨ o.kind = 6 then ⟨o.key, o.hi, o.opn⟩ else ⟨o.key, o.key.next, false⟩
def Opr.R (o : Opr) : Prop := (1 ≤ o.kind ∧ o.kind ≤ 6 ∧ o.key.b.size ≤ 16 ∧ o.hi.b.size ≤ 16 ∧ o.val.b.size ≤ 16) ∧
  (2 < o.kind → o.val = Str.nil) ∧ (o.kind ≠ 6 → o.lim = 0) ∧ (o.kind = 6 → 1 ≤ o.lim ∧ o.lim ≤ 64) ∧
  if o.kind = 4 ∨ o.kind = 6 then o.span.empty = false ∧ (o.opn = false ∨ o.hi = Str.nil) else o.hi = Str.nil ∧ o.opn = false
instance (o : Opr) : Decidable o.R := by unfold Opr.R; infer_instance
def Opr.msg (o : Opr) (s : Int) : Msg := ⟨s, o.kind, o.key, o.hi, o.opn, o.val⟩
theorem Opr.R.fit {o : Opr} (h : o.R) (s : Int) : (o.msg s).fit := fit_of ⟨h.1.2.2.1, h.1.2.2.2.2⟩
structure Ans where
  err : Int
  has : Bool
  val : Str
  rows : List Pair
  deriving DecidableEq
instance : Inhabited Ans := ⟨⟨0, false, Str.nil, []⟩⟩
def AnsC (G : GH) (cs : List Value) (a : Ans) : Prop :=
  ∃ p c, cs = [.int .i64 a.err, .bool a.has, .string a.val.b, .slice p a.rows.length c] ∧ SlR ePair G (.slice p a.rows.length c) a.rows ∧ i64 a.err
theorem AnsC.mono {G G' : GH} {cs a} (hl : Le G G') (h : AnsC G cs a) : AnsC G' cs a := by
  obtain ⟨p, c, h0, h1, h2⟩ := h
  exact ⟨p, c, h0, h1.mono hl, h2⟩
def eAns : Enc Ans where
  k := 4
  w := 56
  R := AnsC
  mono := fun hl h => h.mono hl
  len := fun h => by obtain ⟨p, c, h0, _⟩ := h; rw [h0]; rfl
  one := fun h u hu => by
    obtain ⟨p, c, h0, _⟩ := h
    rw [h0] at hu
    simp at hu
    rcases hu with rfl | rfl | rfl | rfl <;> rfl
structure Drow where
  key : Str
  a : Str
  b : Str
  inA : Bool
  inB : Bool
  deriving DecidableEq
instance : Inhabited Drow := ⟨⟨Str.nil, Str.nil, Str.nil, false, false⟩⟩
def eRow : Enc Drow where
  k := 5
  w := 56
  R := fun _ cs r => cs = [.string r.key.b, .string r.a.b, .string r.b.b, .bool r.inA, .bool r.inB]
  mono := fun _ h => h
  len := fun h => by rw [h]; rfl
  one := fun h u hu => by rw [h] at hu; simp at hu; rcases hu with rfl | rfl | rfl | rfl | rfl <;> rfl
def doN (l : List Pair) (o : Opr) : List Pair × Ans :=
  if ¬ o.R then (l, ⟨3, false, Str.nil, []⟩)
  else if o.kind = 5 then (l, ⟨0, (getN l o.key).isSome, (getN l o.key).getD Str.nil, []⟩)
  else if o.kind = 6 then (l, ⟨0, false, Str.nil, scanN l o.span o.lim⟩)
  else (takeN l (o.msg 1), ⟨0, false, Str.nil, []⟩)
theorem doN_0 {l : List Pair} {o : Opr} (h : ¬ o.R) : doN l o = (l, ⟨3, false, Str.nil, []⟩) := if_pos h
theorem doN_5 {l : List Pair} {o : Opr} (h : o.R) (h5 : o.kind = 5) : doN l o = (l, ⟨0, (getN l o.key).isSome, (getN l o.key).getD Str.nil, []⟩) := by rw [doN, if_neg (by simpa using h), if_pos h5]
theorem doN_6 {l : List Pair} {o : Opr} (h : o.R) (h6 : o.kind = 6) : doN l o = (l, ⟨0, false, Str.nil, scanN l o.span o.lim⟩) := by rw [doN, if_neg (by simpa using h), if_neg (by omega), if_pos h6]
theorem doN_t {l : List Pair} {o : Opr} (h : o.R) (h5 : ¬ o.kind = 5) (h6 : ¬ o.kind = 6) : doN l o = (takeN l (o.msg 1), ⟨0, false, Str.nil, []⟩) := by rw [doN, if_neg (by simpa using h), if_neg h5, if_neg h6]
theorem doN_R {l : List Pair} {o : Opr} (h : PairsR l) : PairsR (doN l o).1 ∧ (doN l o).1.length ≤ l.length + 1 := by
  unfold doN
  split
  · exact ⟨h, by show l.length ≤ _; omega⟩
  · split
    · exact ⟨h, by show l.length ≤ _; omega⟩
    · split
      · exact ⟨h, by show l.length ≤ _; omega⟩
      · rename_i h1 h2 h3
        have hR : o.R := by simpa using h1
        have := h.take_len (o.msg 1)
        exact ⟨h.takeF (hR.fit 1), this⟩
def opsN (l : List Pair) (ops : List Opr) : List Pair × List Ans := ops.foldl (fun s o => ((doN s.1 o).1, s.2 ++ [(doN s.1 o).2])) (l, [])
theorem opsN_succ {l : List Pair} {ops : List Opr} {k : Nat} (h : k < ops.length) : opsN l (ops.take (k + 1)) = ((doN (opsN l (ops.take k)).1 ops[k]).1, (opsN l (ops.take k)).2 ++ [(doN (opsN l (ops.take k)).1 ops[k]).2]) := by
  unfold opsN
  rw [List.take_succ_eq_append_getElem h, List.foldl_append]; rfl
theorem opsN_R {l : List Pair} {ops : List Opr} (h : PairsR l) : ∀ k, k ≤ ops.length → PairsR (opsN l (ops.take k)).1 ∧ (opsN l (ops.take k)).1.length ≤ l.length + k ∧ (opsN l (ops.take k)).2.length = k := by
  intro k
  induction k with
  | zero => intro _; exact ⟨by simpa [opsN] using h, by simp [opsN], by simp [opsN]⟩
  | succ k ih =>
    intro hk
    obtain ⟨h1, h2, h3⟩ := ih (by omega)
    have h4 := doN_R (o := ops[k]) h1
    rw [opsN_succ (by omega)]
    refine ⟨h4.1, ?_, ?_⟩
    · have := h4.2; dsimp only; omega
    · simp [h3]
def allW (ops : List Opr) : Bool := ops.all fun o => decide o.R && decide (o.kind ≤ 4)
theorem allW_succ {ops : List Opr} {k : Nat} (h : k < ops.length) : allW (ops.take (k + 1)) = (allW (ops.take k) && (decide ops[k].R && decide (ops[k].kind ≤ 4))) := by
  unfold allW; rw [List.take_succ_eq_append_getElem h, List.all_append]; simp
theorem allW_false {ops : List Opr} {k : Nat} (h : k < ops.length) (hn : (decide ops[k].R && decide (ops[k].kind ≤ 4)) = false) : allW ops = false := by
  unfold allW; rw [List.all_eq_false]
  exact ⟨ops[k], List.getElem_mem h, by simp [hn]⟩
def applyN (l : List Pair) (ops : List Opr) : List Pair × Bool := if allW ops = true then ((opsN l ops).1, true) else ([], false)
theorem applyN_t {l : List Pair} {ops : List Opr} (h : allW ops = true) : applyN l ops = ((opsN l ops).1, true) := if_pos h
theorem applyN_f {l : List Pair} {ops : List Opr} (h : allW ops = false) : applyN l ops = ([], false) := if_neg (by simp [h])
def bothN : List Pair → List Pair → List Drow
  | [], [] => []
  | x :: a, [] => ⟨x.key, x.val, Str.nil, true, false⟩ :: bothN a []
  | [], y :: b => ⟨y.key, Str.nil, y.val, false, true⟩ :: bothN [] b
  | x :: a, y :: b =>
    if x.key.lt y.key = true then ⟨x.key, x.val, Str.nil, true, false⟩ :: bothN a (y :: b)
    else if y.key.lt x.key = true then ⟨y.key, Str.nil, y.val, false, true⟩ :: bothN (x :: a) b
    else ⟨x.key, x.val, y.val, true, true⟩ :: bothN a b
termination_by a b => a.length + b.length
theorem both_len : ∀ (a b : List Pair), (bothN a b).length ≤ a.length + b.length
  | [], [] => by simp [bothN]
  | x :: a, [] => by rw [bothN]; have := both_len a []; simp at this ⊢; omega
  | [], y :: b => by rw [bothN]; have := both_len [] b; simp at this ⊢; omega
  | x :: a, y :: b => by
    rw [bothN]
    split
    · have := both_len a (y :: b); simp at this ⊢; omega
    · split
      · have := both_len (x :: a) b; simp at this ⊢; omega
      · have := both_len a b; simp at this ⊢; omega
termination_by a b => a.length + b.length
theorem both_ff {a b : List Pair} {i j : Nat} (hi : i < a.length) (hj : ¬ j < b.length) : bothN (a.drop i) (b.drop j) = ⟨a[i].key, a[i].val, Str.nil, true, false⟩ :: bothN (a.drop (i + 1)) (b.drop j) := by
  rw [List.drop_eq_getElem_cons hi, List.drop_eq_nil_of_le (by omega : b.length ≤ j), bothN]
theorem both_fr {a b : List Pair} {i j : Nat} (hi : ¬ i < a.length) (hj : j < b.length) : bothN (a.drop i) (b.drop j) = ⟨b[j].key, Str.nil, b[j].val, false, true⟩ :: bothN (a.drop i) (b.drop (j + 1)) := by
  rw [List.drop_eq_getElem_cons hj, List.drop_eq_nil_of_le (by omega : a.length ≤ i), bothN]
theorem both_l {a b : List Pair} {i j : Nat} (hi : i < a.length) (hj : j < b.length) (h : a[i].key.lt b[j].key = true) : bothN (a.drop i) (b.drop j) = ⟨a[i].key, a[i].val, Str.nil, true, false⟩ :: bothN (a.drop (i + 1)) (b.drop j) := by
  rw [List.drop_eq_getElem_cons hi, List.drop_eq_getElem_cons hj, bothN, if_pos h]
theorem both_r {a b : List Pair} {i j : Nat} (hi : i < a.length) (hj : j < b.length) (h0 : a[i].key.lt b[j].key = false) (h : b[j].key.lt a[i].key = true) : bothN (a.drop i) (b.drop j) = ⟨b[j].key, Str.nil, b[j].val, false, true⟩ :: bothN (a.drop i) (b.drop (j + 1)) := by
  rw [List.drop_eq_getElem_cons hi, List.drop_eq_getElem_cons hj, bothN, if_neg (by simp [h0]), if_pos h]
theorem both_e {a b : List Pair} {i j : Nat} (hi : i < a.length) (hj : j < b.length) (h0 : a[i].key.lt b[j].key = false) (h : b[j].key.lt a[i].key = false) : bothN (a.drop i) (b.drop j) = ⟨a[i].key, a[i].val, b[j].val, true, true⟩ :: bothN (a.drop (i + 1)) (b.drop (j + 1)) := by
  rw [List.drop_eq_getElem_cons hi, List.drop_eq_getElem_cons hj, bothN, if_neg (by simp [h0]), if_neg (by simp [h])]
theorem both_0 {a b : List Pair} {i j : Nat} (hi : ¬ i < a.length) (hj : ¬ j < b.length) : bothN (a.drop i) (b.drop j) = [] := by
  rw [List.drop_eq_nil_of_le (by omega : a.length ≤ i), List.drop_eq_nil_of_le (by omega : b.length ≤ j), bothN]
def Drow.same (r : Drow) : Bool := r.inA && r.inB && decide (r.a = r.b)
def comN (a b : List Pair) : List Pair := ((bothN a b).filter Drow.same).map fun r => ⟨r.key, r.a⟩
theorem getN_none {l : List Pair} {k : Str} (h : ∀ p ∈ l, p.key ≠ k) : getN l k = none := by
  induction l with
  | nil => rfl
  | cons p l ih => rw [getN_cons, if_neg (h p (by simp))]; exact ih fun p hp => h p (by simp [hp])
end Go.Fw
/- Walks of functions on operations. -/
namespace Go.Proofs.YtebkfinhhpelbaaGreat
open Go Go.Fw Go.RowKit
set_option maxRecDepth 100000
set_option maxHeartbeats 1600000
set_option linter.unusedVariables false
set_option linter.unusedSimpArgs false
set_option linter.unnecessarySimpa false
theorem valued_fc {G : GH} (pk : Int) (pkey : Str) (phi : Str) (po : Bool) (pv : Str) (pl : Int) :
    Fc Tryz.prog 164 [.agg #[.int .i64 pk, .string pkey.b, .string phi.b, .bool po, .string pv.b, .int .i64 pl]] G [] (fun v _ _ => v = .bool (decide (pk = 1 ∨ pk = 2))) := by
 refine Fc.intro (rs := [.tmp 2]) cl164 Tryz.func164 rfl Tryz.ntmps164 rfl rfl (fun w0 => ?_)
 refine WC.seq (WC.region (W.box (L := [.int .i64 _, .string _, .string _, .bool _, .string _, .int .i64 _]) rfl rfl (fun b1 => (W.as (W.nil (thn_n (WC.seq (WC.region (W.ok (ok_fieldB fd155_0 rfl) ?_)))))))))
 refine W.ok (ok_loadB (i := 0) (vs := [.int .i64 _]) ty3 rfl rfl rfl rfl (by simp)) (W.ok (ok_eql rfl rfl) (W.mv ?_))
 refine W.sp 6 rfl (fun h5 => ?_) (fun h5 => ?_)
 ·have p5 := of_decide_eq_true h5
  refine W.no (dj := 6) rfl rfl h5 (W.no (dj := 6) rfl rfl h5 (W.no (dj := 6) rfl rfl h5 (W.ok (ok_pick_t rfl h5) (W.as (W.nil (thn_n (WC.ret ?_)))))))
  refine ⟨.inr rfl, [_], ⟨rfl, trivial⟩, [], List.nil_sublist _, ?_⟩
  refine congrArg Value.bool ?_
  simp_all
 ·have p5 := of_decide_eq_false h5
  refine W.yes (dj := 6) rfl rfl h5 (W.ok (ok_fieldB fd155_0 rfl) (W.yes (dj := 6) rfl rfl h5 (W.ok (ok_loadB (i := 0) (vs := [.int .i64 _]) ty3 rfl rfl rfl rfl (by simp)) (W.yes (dj := 6) rfl rfl h5 (W.ok (ok_eql rfl rfl) (W.ok (ok_pick_f rfl h5) (W.as ?_)))))))
  refine W.nil (thn_n (WC.ret ?_))
  refine ⟨.inr rfl, [_], ⟨rfl, trivial⟩, [], List.nil_sublist _, ?_⟩
  refine congrArg Value.bool ?_
  simp_all

theorem ranged_fc {G : GH} (pk : Int) (pkey : Str) (phi : Str) (po : Bool) (pv : Str) (pl : Int) :
    Fc Tryz.prog 165 [.agg #[.int .i64 pk, .string pkey.b, .string phi.b, .bool po, .string pv.b, .int .i64 pl]] G [] (fun v _ _ => v = .bool (decide (pk = 4 ∨ pk = 6))) := by
 refine Fc.intro (rs := [.tmp 2]) cl165 Tryz.func165 rfl Tryz.ntmps165 rfl rfl (fun w0 => ?_)
 refine WC.seq (WC.region (W.box (L := [.int .i64 _, .string _, .string _, .bool _, .string _, .int .i64 _]) rfl rfl (fun b2 => (W.as (W.nil (thn_n (WC.seq (WC.region (W.ok (ok_fieldB fd155_0 rfl) ?_)))))))))
 refine W.ok (ok_loadB (i := 0) (vs := [.int .i64 _]) ty3 rfl rfl rfl rfl (by simp)) (W.ok (ok_eql rfl rfl) (W.mv ?_))
 refine W.sp 6 rfl (fun h5 => ?_) (fun h5 => ?_)
 ·have p5 := of_decide_eq_true h5
  refine W.no (dj := 6) rfl rfl h5 (W.no (dj := 6) rfl rfl h5 (W.no (dj := 6) rfl rfl h5 (W.ok (ok_pick_t rfl h5) (W.as (W.nil (thn_n (WC.ret ?_)))))))
  refine ⟨.inr rfl, [_], ⟨rfl, trivial⟩, [], List.nil_sublist _, ?_⟩
  refine congrArg Value.bool ?_
  simp_all
 ·have p5 := of_decide_eq_false h5
  refine W.yes (dj := 6) rfl rfl h5 (W.ok (ok_fieldB fd155_0 rfl) (W.yes (dj := 6) rfl rfl h5 (W.ok (ok_loadB (i := 0) (vs := [.int .i64 _]) ty3 rfl rfl rfl rfl (by simp)) (W.yes (dj := 6) rfl rfl h5 (W.ok (ok_eql rfl rfl) (W.ok (ok_pick_f rfl h5) (W.as ?_)))))))
  refine W.nil (thn_n (WC.ret ?_))
  refine ⟨.inr rfl, [_], ⟨rfl, trivial⟩, [], List.nil_sublist _, ?_⟩
  refine congrArg Value.bool ?_
  simp_all

theorem writes_fc {G : GH} (pk : Int) (pkey : Str) (phi : Str) (po : Bool) (pv : Str) (pl : Int) :
    Fc Tryz.prog 102 [.agg #[.int .i64 pk, .string pkey.b, .string phi.b, .bool po, .string pv.b, .int .i64 pl]] G [] (fun v _ _ => v = .bool (decide (1 ≤ pk ∧ pk ≤ 4))) := by
 refine Fc.intro (rs := [.tmp 2]) cl102 Tryz.func102 rfl Tryz.ntmps102 rfl rfl (fun w0 => ?_)
 refine WC.seq (WC.region (W.box (L := [.int .i64 _, .string _, .string _, .bool _, .string _, .int .i64 _]) rfl rfl (fun b3 => (W.as (W.nil (thn_n (WC.seq (WC.region (W.ok (ok_fieldB fd155_0 rfl) ?_)))))))))
 refine W.ok (ok_loadB (i := 0) (vs := [.int .i64 _]) ty3 rfl rfl rfl rfl (by simp)) (W.ok (ok_geq rfl rfl) (W.mv ?_))
 refine W.sp 6 rfl (fun h5 => ?_) (fun h5 => ?_)
 ·have p5 := of_decide_eq_true h5
  refine W.yes (dj := 6) rfl rfl h5 (W.ok (ok_fieldB fd155_0 rfl) (W.yes (dj := 6) rfl rfl h5 (W.ok (ok_loadB (i := 0) (vs := [.int .i64 _]) ty3 rfl rfl rfl rfl (by simp)) (W.yes (dj := 6) rfl rfl h5 (W.ok (ok_leq rfl rfl) (W.ok (ok_pick_t rfl h5) (W.as ?_)))))))
  refine W.nil (thn_n (WC.ret ?_))
  refine ⟨.inr rfl, [_], ⟨rfl, trivial⟩, [], List.nil_sublist _, ?_⟩
  refine congrArg Value.bool ?_
  first | (simp_all; done) | (simp_all; omega)
 ·have p5 := of_decide_eq_false h5
  refine W.no (dj := 6) rfl rfl h5 (W.no (dj := 6) rfl rfl h5 (W.no (dj := 6) rfl rfl h5 (W.ok (ok_pick_f rfl h5) (W.as (W.nil (thn_n (WC.ret ?_)))))))
  refine ⟨.inr rfl, [_], ⟨rfl, trivial⟩, [], List.nil_sublist _, ?_⟩
  refine congrArg Value.bool ?_
  first | (simp_all; done) | (simp_all; omega)

theorem opspan_fc {G : GH} (pk : Int) (pkey : Str) (phi : Str) (po : Bool) (pv : Str) (pl : Int) (hk : pkey.b.size < 140737488355328) :
    Fc Tryz.prog 166 [.agg #[.int .i64 pk, .string pkey.b, .string phi.b, .bool po, .string pv.b, .int .i64 pl]] G [] (fun v _ _ => v = .agg (List.toArray ((Opr.span (⟨pk, pkey, phi, po, pv, pl⟩ : Opr)).cells))) := by
 refine Fc.intro (rs := [.cell 2 52]) cl166 Tryz.func166 rfl Tryz.ntmps166 rfl rfl (fun w0 => ?_)
 refine WC.seq (WC.region (W.box (L := [.int .i64 _, .string _, .string _, .bool _, .string _, .int .i64 _]) rfl rfl (fun b4 => (W.alloc zr52 (fun b5 => (W.nil (thn_n (WC.seq (WC.seq (WC.region ?_))))))))))
 refine W.ok (ok_loadB (i := 1) (vs := [.int .i64 _, .string _, .string _, .bool _, .string _, .int .i64 _]) ty155 rfl rfl rfl rfl (by simp)) (W.qcall (ranged_fc _ _ _ _ _ _) rfl (W.nil (thn_n ?_)))
 refine WC.cond (b := _) rfl (fun h4 => ?_) (fun h4 => ?_)
 ·refine WC.seq (WC.region (W.ok (ok_fieldB fd155_1 rfl) (W.ok (ok_loadB (i := 1) (vs := [.string _]) ty9 rfl rfl rfl rfl (by simp)) (W.ok (ok_fieldB fd155_2 rfl) (W.ok (ok_loadB (i := 1) (vs := [.string _]) ty9 rfl rfl rfl rfl (by simp)) (W.ok (ok_fieldB fd155_3 rfl) (W.ok (ok_loadB (i := 1) (vs := [.bool _]) ty4 rfl rfl rfl rfl (by simp)) ?_)))))))
  refine W.ok (ok_build (L := [.string _, .string _, .bool _]) pl52 zr52 rfl rfl rfl) (W.store (i := 0) (vs := [.string _, .string _, .bool _]) (L' := [.string _, .string _, .bool _]) ty52 rfl rfl rfl rfl rfl rfl rfl rfl (W.nil (thn_n (WC.ret (thn_r ?_)))))
  refine ⟨.inr rfl, [_], ⟨⟨_, _, _, _, _, rfl, nthM_mem (i := 0) rfl, ty52, (by simp), rfl, rfl⟩, trivial⟩, [], List.nil_sublist _, ?_⟩
  refine congrArg (fun l => Value.agg (List.toArray l)) ?_
  rw [Opr.span, if_pos (of_decide_eq_true h4)]; rfl
 ·refine WC.skip (thn_n (WC.seq (WC.region (W.ok (ok_fieldB fd155_1 rfl) (W.ok (ok_loadB (i := 1) (vs := [.string _]) ty9 rfl rfl rfl rfl (by simp)) (W.qcall (point_fc _ (by first | assumption | omega | (dsimp only; omega))) rfl (W.store (i := 0) (vs := [.string _, .string _, .bool _]) (L' := [.string _, .string _, .bool _]) ty52 rfl rfl rfl rfl rfl rfl rfl rfl (W.nil (thn_n ?_)))))))))
  refine WC.ret ?_
  refine ⟨.inr rfl, [_], ⟨⟨_, _, _, _, _, rfl, nthM_mem (i := 0) rfl, ty52, (by simp), rfl, rfl⟩, trivial⟩, [], List.nil_sublist _, ?_⟩
  refine congrArg (fun l => Value.agg (List.toArray l)) ?_
  rw [Opr.span, if_neg (of_decide_eq_false h4)]; rfl

end Go.Proofs.YtebkfinhhpelbaaGreat
