/- Operations, answers, and rows of two maps side by side, as plain functions, with how they lie in memory. Plain Lean; nothing of the program is named here. No condition. -/
import Derived.Test.YtcngningbcaggaaQkOm
set_option linter.unusedVariables false
set_option linter.unusedSimpArgs false
set_option linter.unnecessarySimpa false

namespace Go.Fw
open Go Go.RowKit
structure Opr where
 kind : Int
 key : Str
 hi : Str
 opn : Bool
 val : Str
 lim : Int
 deriving DecidableEq
instance : Inhabited Opr := ⟨⟨0, Str.nil, Str.nil, false, Str.nil, 0⟩⟩
def Opr.Ok (o : Opr) : Prop := i64 o.kind ∧ i64 o.lim
def eOp : Enc Opr where
 k := 6
 w := 72
 R := fun _ cs o => cs = [.int .i64 o.kind, .string o.key.b, .string o.hi.b, .bool o.opn, .string o.val.b, .int .i64 o.lim] ∧ o.Ok
 mono := fun _ h => h
 len := fun h => by rw [h.1]; rfl
 one := fun h u hu => by rw [h.1] at hu; simp at hu; rcases hu with rfl | rfl | rfl | rfl | rfl | rfl <;> rfl
def Opr.span (o : Opr) : Span := if o.kind = 4 ∨ o.kind = 6 then ⟨o.key, o.hi, o.opn⟩ else ⟨o.key, o.key.next, false⟩
def Opr.R (o : Opr) : Prop := (1 ≤ o.kind ∧ o.kind ≤ 6 ∧ o.key.b.size ≤ 16 ∧ o.hi.b.size ≤ 16 ∧ o.val.b.size ≤ 16) ∧
 (2 < o.kind → o.val = Str.nil) ∧ (o.kind ≠ 6 → o.lim = 0) ∧ (o.kind = 6 → 1 ≤ o.lim ∧ o.lim ≤ 64) ∧
 if o.kind = 4 ∨ o.kind = 6 then o.span.empty = false ∧ (o.opn = false ∨ o.hi = Str.nil) else o.hi = Str.nil ∧ o.opn = false
instance (o : Opr) : Decidable o.R := by unfold Opr.R; infer_instance
def Opr.msg (o : Opr) (s : Int) : Msg := ⟨s, o.kind, o.key, o.hi, o.opn, o.val⟩
theorem Opr.R.fit {o : Opr} (h : o.R) (s : Int) : (o.msg s).fit := fit_of ⟨h.1.2.2.1, h.1.2.2.2.2⟩
structure Ans where
 err : Int
 has : Bool
 val : Str
 rows : List Pair
 deriving DecidableEq
instance : Inhabited Ans := ⟨⟨0, false, Str.nil, []⟩⟩
def AnsC (G : GH) (cs : List Value) (a : Ans) : Prop :=
 ∃ p c, cs = [.int .i64 a.err, .bool a.has, .string a.val.b, .slice p a.rows.length c] ∧ SlR ePair G (.slice p a.rows.length c) a.rows ∧ i64 a.err
theorem AnsC.mono {G G' : GH} {cs a} (hl : Le G G') (h : AnsC G cs a) : AnsC G' cs a := by
 obtain ⟨p, c, h0, h1, h2⟩ := h
 exact ⟨p, c, h0, h1.mono hl, h2⟩
def eAns : Enc Ans where
 k := 4
 w := 56
 R := AnsC
 mono := fun hl h => h.mono hl
 len := fun h => by obtain ⟨p, c, h0, _⟩ := h; rw [h0]; rfl
 one := fun h u hu => by
  obtain ⟨p, c, h0, _⟩ := h
  rw [h0] at hu
  simp at hu
  rcases hu with rfl | rfl | rfl | rfl <;> rfl
structure Drow where
 key : Str
 a : Str
 b : Str
 inA : Bool
 inB : Bool
 deriving DecidableEq
instance : Inhabited Drow := ⟨⟨Str.nil, Str.nil, Str.nil, false, false⟩⟩
def eRow : Enc Drow where
 k := 5
 w := 56
 R := fun _ cs r => cs = [.string r.key.b, .string r.a.b, .string r.b.b, .bool r.inA, .bool r.inB]
 mono := fun _ h => h
 len := fun h => by rw [h]; rfl
 one := fun h u hu => by rw [h] at hu; simp at hu; rcases hu with rfl | rfl | rfl | rfl | rfl <;> rfl
def doN (l : List Pair) (o : Opr) : List Pair × Ans :=
 if ¬ o.R then (l, ⟨3, false, Str.nil, []⟩)
 else if o.kind = 5 then (l, ⟨0, (getN l o.key).isSome, (getN l o.key).getD Str.nil, []⟩)
 else if o.kind = 6 then (l, ⟨0, false, Str.nil, scanN l o.span o.lim⟩)
 else (takeN l (o.msg 1), ⟨0, false, Str.nil, []⟩)
theorem doN_5 {l : List Pair} {o : Opr} (h : o.R) (h5 : o.kind = 5) : doN l o = (l, ⟨0, (getN l o.key).isSome, (getN l o.key).getD Str.nil, []⟩) := by rw [doN, if_neg (by simpa using h), if_pos h5]
def opsN (l : List Pair) (ops : List Opr) : List Pair × List Ans := ops.foldl (fun s o => ((doN s.1 o).1, s.2 ++ [(doN s.1 o).2])) (l, [])
def allW (ops : List Opr) : Bool := ops.all fun o => decide o.R && decide (o.kind ≤ 4)
def applyN (l : List Pair) (ops : List Opr) : List Pair × Bool := if allW ops = true then ((opsN l ops).1, true) else ([], false)
def bothN : List Pair → List Pair → List Drow
 | [], [] => []
 | x :: a, [] => ⟨x.key, x.val, Str.nil, true, false⟩ :: bothN a []
 | [], y :: b => ⟨y.key, Str.nil, y.val, false, true⟩ :: bothN [] b
 | x :: a, y :: b =>
  if x.key.lt y.key = true then ⟨x.key, x.val, Str.nil, true, false⟩ :: bothN a (y :: b)
  else if y.key.lt x.key = true then ⟨y.key, Str.nil, y.val, false, true⟩ :: bothN (x :: a) b
  else ⟨x.key, x.val, y.val, true, true⟩ :: bothN a b
termination_by a b => a.length + b.length
def Drow.same (r : Drow) : Bool := r.inA && r.inB && decide (r.a = r.b)
def comN (a b : List Pair) : List Pair := ((bothN a b).filter Drow.same).map fun r => ⟨r.key, r.a⟩
theorem getN_none {l : List Pair} {k : Str} (h : ∀ p ∈ l, p.key ≠ k) : getN l k = none := by
 induction l with
 | nil => rfl
 | cons p l ih => rw [getN_cons, if_neg (h p (by simp))]; exact ih fun p hp => h p (by simp [hp])
end Go.Fw

namespace Go.Fw
def Rise (l : List Str) : Prop := l.Pairwise fun a b => a.lt b = true
theorem Rise.ext : ∀ {a b : List Str}, Rise a → Rise b → (∀ k, k ∈ a ↔ k ∈ b) → a = b
 | [], [], _, _, _ => rfl
 | [], y :: b, _, _, h => by have := (h y).2 (by simp); cases this
 | x :: a, [], _, _, h => by have := (h x).1 (by simp); cases this
 | x :: a, y :: b, ha, hb, h => by
  obtain ⟨ha1, ha2⟩ := List.pairwise_cons.1 ha
  obtain ⟨hb1, hb2⟩ := List.pairwise_cons.1 hb
  have hxy : x = y := by
   rcases List.mem_cons.1 ((h x).1 (by simp)) with e | hx
   ·exact e
   ·rcases List.mem_cons.1 ((h y).2 (by simp)) with e | hy
    ·exact e.symm
    ·have := Str.lt_trans (hb1 x hx) (ha1 y hy); rw [Str.lt_irrefl] at this; cases this
  subst hxy
  refine congrArg (x :: ·) (Rise.ext ha2 hb2 fun k => ⟨fun hk => ?_, fun hk => ?_⟩)
  ·rcases List.mem_cons.1 ((h k).1 (by simp [hk])) with e | hk2
   ·subst e; have := ha1 k hk; rw [Str.lt_irrefl] at this; cases this
   ·exact hk2
  ·rcases List.mem_cons.1 ((h k).2 (by simp [hk])) with e | hk2
   ·subst e; have := hb1 k hk; rw [Str.lt_irrefl] at this; cases this
   ·exact hk2
def insU (k : Str) : List Str → List Str
 | [] => [k]
 | x :: xs => if k.lt x = true then k :: x :: xs else if x.lt k = true then x :: insU k xs else x :: xs
def sortU (l : List Str) : List Str := l.foldr insU []
theorem Rise.lt {l : List Str} (h : Rise l) {i j : Nat} (hij : i < j) (hj : j < l.length) : (l[i]'om9).lt l[j] = true := List.pairwise_iff_getElem.1 h i j om9 hj hij
def DRise (l : List Drow) : Prop := l.Pairwise fun r s => r.key.lt s.key = true
def Drow.of (a b : List Pair) (k : Str) : Drow := ⟨k, (getN a k).getD Str.nil, (getN b k).getD Str.nil, (getN a k).isSome, (getN b k).isSome⟩
def chg (r : Drow) : Option Opr :=
 if r.inB = false then some ⟨3, r.key, Str.nil, false, Str.nil, 0⟩
 else if r.inA = false ∨ r.a ≠ r.b then some ⟨1, r.key, Str.nil, false, r.b, 0⟩ else none
theorem Opr.eq_of {a b : Opr} (h : (!eqCells [.int .i64 a.kind, .string a.key.b, .string a.hi.b, .bool a.opn, .string a.val.b, .int .i64 a.lim] [.int .i64 b.kind, .string b.key.b, .string b.hi.b, .bool b.opn, .string b.val.b, .int .i64 b.lim]) = false) : a = b := by
 cases a; cases b
 simp [eqCells] at h
 simp_all [Str.b_inj]
theorem Opr.ne_of {a b : Opr} (h : (!eqCells [.int .i64 a.kind, .string a.key.b, .string a.hi.b, .bool a.opn, .string a.val.b, .int .i64 a.lim] [.int .i64 b.kind, .string b.key.b, .string b.hi.b, .bool b.opn, .string b.val.b, .int .i64 b.lim]) = true) : a ≠ b := by
 intro e; subst e; simp [eqCells] at h
def Opr.zero : Opr := ⟨0, Str.nil, Str.nil, false, Str.nil, 0⟩
def Opr.cells (o : Opr) : List Value := [.int .i64 o.kind, .string o.key.b, .string o.hi.b, .bool o.opn, .string o.val.b, .int .i64 o.lim]
def chgN (a b : List Pair) : List Opr := (bothN a b).filterMap chg
def keysN (a b : List Pair) : List Str := sortU (a.map (·.key) ++ b.map (·.key))
end Go.Fw

namespace Go.Fw
theorem getN_mem_iff {l : List Pair} {k : Str} : (getN l k).isSome = true ↔ k ∈ l.map (·.key) := by
 induction l with
 | nil => simp [getN]
 | cons p l ih =>
  rw [getN_cons]
  by_cases h : p.key = k
  ·rw [if_pos h]; simp [h]
  ·rw [if_neg h, ih]; simp [Ne.symm h]
theorem srt_ext : ∀ {a b : List Pair}, Srt a → Srt b → (∀ k, getN a k = getN b k) → a = b
 | [], [], _, _, _ => rfl
 | [], y :: b, _, _, h => by have := h y.key; rw [getN_cons, if_pos rfl] at this; cases this
 | x :: a, [], _, _, h => by have := h x.key; rw [getN_cons, if_pos rfl] at this; cases this
 | x :: a, y :: b, ha, hb, h => by
  obtain ⟨ha1, ha2⟩ := List.pairwise_cons.1 ha
  obtain ⟨hb1, hb2⟩ := List.pairwise_cons.1 hb
  have mx : y.key ∈ (x :: a).map (·.key) := getN_mem_iff.1 (by rw [h, getN_cons, if_pos rfl]; rfl)
  have my : x.key ∈ (y :: b).map (·.key) := getN_mem_iff.1 (by rw [← h, getN_cons, if_pos rfl]; rfl)
  have hk : x.key = y.key := by
   rw [List.map_cons] at mx my
   rcases List.mem_cons.1 mx with e | mx
   ·exact e.symm
   ·rcases List.mem_cons.1 my with e | my
    ·exact e
    ·obtain ⟨p, hp, ep⟩ := List.mem_map.1 mx
     obtain ⟨q, hq, eq⟩ := List.mem_map.1 my
     have h1 := ha1 p hp
     have h2 := hb1 q hq
     rw [ep] at h1; rw [eq] at h2
     have := Str.lt_trans h1 h2
     rw [Str.lt_irrefl] at this; cases this
  have hv : x.val = y.val := by
   have := h x.key
   rw [getN_cons, if_pos rfl, getN_cons, if_pos hk.symm] at this
   exact Option.some.inj this
  have hxy : x = y := by cases x; cases y; simp_all
  subst hxy
  refine congrArg (x :: ·) (srt_ext ha2 hb2 fun k => ?_)
  have h3 := h k
  rw [getN_cons, getN_cons] at h3
  by_cases hkx : x.key = k
  ·rw [getN_none fun p hp e => ?_, getN_none fun p hp e => ?_]
   ·have := hb1 p hp; rw [hkx, e, Str.lt_irrefl] at this; cases this
   ·have := ha1 p hp; rw [hkx, e, Str.lt_irrefl] at this; cases this
  ·rwa [if_neg hkx, if_neg hkx] at h3
end Go.Fw
namespace Go.Fw
open Go Go.RowKit
def injR (n : Nd) (m : Msg) : Nd := { n with msgs := n.msgs ++ [m], seen := m.stamp }
structure InjOf (c : Cfg) (l : List Nd) (ss : List Seat) (m : Msg) : Prop where
  t : Tree c l ss
  h0 : ¬ (getL l 0).level = 0
  mR : m.R
  st : m.stamp = (getL l 0).seen + 1
  le : m.stamp ≤ 1099511627776
  sn : ∀ n ∈ l, n.seen ≤ (getL l 0).seen
  fit : m.size ≤ c.bud - sizesN (getL l 0).msgs
def injL (l : List Nd) (r : Nd) : List Nd := l.set 0 r
namespace InjOf
variable {c : Cfg} {l : List Nd} {ss : List Seat} {m : Msg}
theorem pos (p : InjOf c l ss m) : 0 < l.length := p.t.pos
theorem gx (p : InjOf c l ss m) : (rootS l 0).n = getL l 0 := p.t.rootn
theorem rsl (p : InjOf c l ss m) : (getL l 0).slot = 0 ∧ getL l 0 ∈ l := getL_slot p.t.slot ⟨Int.le_refl _, by have := p.pos; omega⟩
theorem rseat (p : InjOf c l ss m) : SeatP c (rootS l 0) := p.t.seat p.t.root
theorem rR (p : InjOf c l ss m) : (getL l 0).R c.fan c.leaf c.bud := by have := p.rseat.1; rwa [p.gx] at this
theorem rin (p : InjOf c l ss m) : (getL l 0).innerR c.fan c.bud := by have h := p.rR.2.2.2; rwa [if_neg p.h0] at h
theorem rtop (p : InjOf c l ss m) : (getL l 0).top = true := by
  have := p.rseat.2.1.1.1
  rw [p.gx] at this
  exact this
theorem old (p : InjOf c l ss m) : ∀ x ∈ ss, ∀ y ∈ x.ms, y.stamp < m.stamp := by
  have hroot : ∀ y ∈ (getL l 0).msgs, y.stamp < m.stamp := fun y hy => by
    obtain ⟨j, hj, rfl⟩ := List.getElem_of_mem hy
    have := (p.rin.2.2.2.2.2.2 j hj).1
    have := p.st
    omega
  have key : ∀ x ∈ ss, (∀ y ∈ x.ms, y.stamp < m.stamp) ∧ ∀ y ∈ x.n.msgs, y.stamp < m.stamp := by
    refine p.t.ind ⟨fun y hy => (by cases hy), fun y hy => hroot y (by rw [p.gx] at hy; exact hy)⟩ fun x hx h0 ⟨h1, h2⟩ j hj => ?_
    have hk := p.t.kid_ms hx (p.t.rst x hx) j
    have hms : ∀ y ∈ (kidSt l x j).ms, y.stamp < m.stamp := fun y hy => by
      rw [hk.1] at hy
      rcases List.mem_append.1 hy with hy | hy
      · obtain ⟨z, hz, e⟩ := clips_stamp hy; rw [e]; exact h2 z hz
      · obtain ⟨z, hz, e⟩ := clips_stamp hy; rw [e]; exact h1 z hz
    refine ⟨hms, fun y hy => ?_⟩
    have hK := p.t.at hx h0 hj
    by_cases hl : (kidSt l x j).n.level = 0
    · rw [p.t.nomsgs hK.1 hl] at hy; cases hy
    · have hI := (p.t.msgs hK.1).2.2 y hy
      have hs := p.sn _ (p.t.nd hK.1).2.2
      have := p.st
      omega
  exact fun x hx => (key x hx).1
noncomputable def gI (l : List Nd) (m : Msg) (x : Seat) : Seat := if x.n.slot = 0 then ⟨injR (getL l 0) m, Span.all, []⟩ else ⟨x.n, x.s, x.ms ++ clips x.s [m]⟩
theorem root_of (p : InjOf c l ss m) {x : Seat} (hx : x ∈ ss) (e : x.n.slot = 0) : x = rootS l 0 := p.t.uniq hx p.t.root (by rw [e]; exact p.t.root0.symm)
theorem g_r (p : InjOf c l ss m) : gI l m (rootS l 0) = ⟨injR (getL l 0) m, Span.all, []⟩ := if_pos p.t.root0
theorem g_x {x : Seat} (h : x.n.slot ≠ 0) : gI l m x = ⟨x.n, x.s, x.ms ++ clips x.s [m]⟩ := if_neg h
theorem two (p : InjOf c l ss m) {Q : Seat → Prop} (hr : Q (rootS l 0)) (hx : ∀ x ∈ ss, x.n.slot ≠ 0 → Q x) : ∀ x ∈ ss, Q x := fun x hm => by
  by_cases e : x.n.slot = 0
  · rw [p.root_of hm e]; exact hr
  · exact hx x hm e
theorem g_same (p : InjOf c l ss m) : ∀ x ∈ ss, (gI l m x).n.slot = x.n.slot ∧ (gI l m x).n.level = x.n.level ∧ (gI l m x).n.right = x.n.right ∧ (gI l m x).n.pivots = x.n.pivots ∧ (gI l m x).n.kids = x.n.kids ∧ (gI l m x).s = x.s ∧ (gI l m x).n.rows = x.n.rows := by
  refine p.two ?_ fun x hx h => ?_
  · rw [p.g_r, p.gx]; exact ⟨rfl, rfl, rfl, rfl, rfl, rfl, rfl⟩
  · rw [g_x h]; exact ⟨rfl, rfl, rfl, rfl, rfl, rfl, rfl⟩
theorem slots (p : InjOf c l ss m) : SlotsP (injL l (injR (getL l 0) m)) := by
  have h := slots_set p.t.slot (x := injR (getL l 0) m) (by show 0 ≤ (getL l 0).slot ∧ (getL l 0).slot < _; rw [p.rsl.1]; have := p.pos; omega) p.le
  have e : (injR (getL l 0) m).slot.toNat = 0 := by show (getL l 0).slot.toNat = 0; rw [p.rsl.1]; rfl
  rw [e] at h; exact h
theorem len (p : InjOf c l ss m) : (injL l (injR (getL l 0) m)).length = l.length := by unfold injL; rw [List.length_set]
theorem find (p : InjOf c l ss m) (s : Int) : findN (injL l (injR (getL l 0) m)) s = (if s = 0 then injR (getL l 0) m else getL l s, decide (0 ≤ s ∧ s < (l.length : Int))) := by
  rw [find_eq p.slots, p.len]
  congr 1
  have e : (injR (getL l 0) m).slot = 0 := p.rsl.1
  have h := getL_set (l := l) (x := injR (getL l 0) m) (by rw [e]; have := p.pos; omega) (i := s)
  rw [e] at h
  exact h
theorem find_g (p : InjOf c l ss m) {x : Seat} (hx : x ∈ ss) : findN (injL l (injR (getL l 0) m)) x.n.slot = ((gI l m x).n, true) := by
  have hs := (p.t.nd hx).1
  rw [p.find, decide_eq_true ⟨hs.1, hs.2⟩]
  congr 1
  revert hs
  refine p.two (Q := fun x => 0 ≤ x.n.slot ∧ x.n.slot < (l.length : Int) → (if x.n.slot = 0 then injR (getL l 0) m else getL l x.n.slot) = (gI l m x).n) (fun hs => ?_) (fun x hx h hs => ?_) x hx
  · rw [if_pos p.t.root0, p.g_r]
  · rw [if_neg h, g_x h]; exact (p.t.nd hx).2.1.symm
theorem slot_at (p : InjOf c l ss m) {x : Seat} (hx : x ∈ ss) (h0 : ¬ x.n.level = 0) {j : Nat} (hj : j < x.n.kids.length) : x.n.kids.getD j 0 = (kidSt l x j).n.slot := by
  have e := (p.t.at hx h0 hj)
  rw [List.getD_eq_getElem?_getD, List.getElem?_eq_getElem hj, e.2.2.1, (getL_slot p.t.slot e.2.1).1]; rfl
theorem kid_ne (p : InjOf c l ss m) {x : Seat} (hx : x ∈ ss) (h0 : ¬ x.n.level = 0) {j : Nat} (hj : j < x.n.kids.length) : (kidSt l x j).n.slot ≠ 0 := by
  have hin : kidSt l x j ∈ kidsD l x := by rw [(kids_all (p.t.kids hx) h0).1]; exact List.mem_map.2 ⟨j, List.mem_range.2 hj, rfl⟩
  have := p.t.root_kid hx hin
  rwa [p.t.root0] at this
theorem rst9 (p : InjOf c l ss m) {x : Seat} (hx : x ∈ ss) (s : Span) : Rst (x.ms ++ clips s [m]) := by
  refine List.pairwise_append.2 ⟨p.t.rst x hx, clips_rst (by simp [Rst]), fun a ha b hb => ?_⟩
  obtain ⟨z, hz, e⟩ := clips_stamp hb
  simp at hz
  subst hz
  rw [e]; exact p.old x hx a ha
theorem kid_g (p : InjOf c l ss m) {x : Seat} (hx : x ∈ ss) (h0 : ¬ x.n.level = 0) {j : Nat} (hj : j < x.n.kids.length) : kidSt (injL l (injR (getL l 0) m)) (gI l m x) j = gI l m (kidSt l x j) := by
  have hy := (p.t.at hx h0 hj).1
  have hn0 := p.kid_ne hx h0 hj
  obtain ⟨s1, s2, s3, s4, s5, s6, s7⟩ := p.g_same x hx
  have en : (kidSt (injL l (injR (getL l 0) m)) (gI l m x) j).n = (kidSt l x j).n := by
    show (findN _ ((gI l m x).n.kids.getD j 0)).1 = _
    rw [s5, p.slot_at hx h0 hj, p.find_g hy, g_x hn0]
  have es : (kidSt (injL l (injR (getL l 0) m)) (gI l m x) j).s = (kidSt l x j).s := by
    show (gI l m x).s.meet (rangeN (gI l m x).n.pivots (j : Int)) = _
    rw [s4, s6]; rfl
  have hr := p.rst9 hy (kidSt l x j).s
  have em : mergeN [clips (kidSt l x j).s (gI l m x).n.msgs, clips (kidSt l x j).s (gI l m x).ms] = (kidSt l x j).ms ++ clips (kidSt l x j).s [m] := by
    have hk := (p.t.kid_ms hx (p.t.rst x hx) j).1
    by_cases e : x.n.slot = 0
    · obtain rfl := p.root_of hx e
      rw [p.g_r]
      show mergeN [clips _ ((getL l 0).msgs ++ [m]), clips _ []] = _
      have e0 : clips (kidSt l (rootS l 0) j).s (rootS l 0).ms = [] := rfl
      rw [e0, List.append_nil, p.gx] at hk
      rw [clips_append, ← hk]
      exact (merge_two hr List.Pairwise.nil fun a ha b hb => by cases hb).1.trans (List.append_nil _)
    · rw [g_x e]
      show mergeN [clips _ x.n.msgs, clips _ (x.ms ++ clips x.s [m])] = _
      rw [clips_append, clips_clips fun k hk => kid_sub k hk]
      rw [hk] at hr ⊢
      rw [List.append_assoc] at hr ⊢
      obtain ⟨r1, r2, r3⟩ := rst_app hr
      exact (merge_two r1 r2 r3).1
  have e3 : (kidSt (injL l (injR (getL l 0) m)) (gI l m x) j).ms = mergeN [clips (kidSt (injL l (injR (getL l 0) m)) (gI l m x) j).s (gI l m x).n.msgs, clips (kidSt (injL l (injR (getL l 0) m)) (gI l m x) j).s (gI l m x).ms] := rfl
  rw [es, em] at e3
  rw [g_x hn0]
  cases hA : kidSt (injL l (injR (getL l 0) m)) (gI l m x) j
  rw [hA] at en es e3
  simp only at en es e3
  rw [en, es, e3]
theorem each (p : InjOf c l ss m) {x : Seat} (hx : x ∈ ss) : (kidsO (injL l (injR (getL l 0) m)) (gI l m x)).isSome = true ∧ kidsD (injL l (injR (getL l 0) m)) (gI l m x) = (kidsD l x).map (gI l m) := by
  obtain ⟨s1, s2, s3, s4, s5, s6, s7⟩ := p.g_same x hx
  by_cases h0 : x.n.level = 0
  · rw [kidsO_0 (by rw [s2]; exact h0), kids_leaf (by rw [s2]; exact h0), kids_leaf h0]; exact ⟨rfl, rfl⟩
  · obtain ⟨h1, h2, h3, h4⟩ := kids_all (p.t.kids hx) h0
    obtain ⟨g1, g2⟩ := kids_mk (l := injL l (injR (getL l 0) m)) (x := gI l m x) (by rw [s2]; exact h2) (by rw [s4, s5]; exact h3) fun j hj => by
      rw [s5] at hj
      have e := p.t.at hx h0 hj
      unfold kidOk
      rw [s5, p.slot_at hx h0 hj, p.find_g e.1]
      simp only [Bool.true_and, decide_eq_true_eq]
      rw [(p.g_same _ e.1).2.1, s2]; exact e.2.2.2
    refine ⟨g1, ?_⟩
    rw [g2, h1, s5]
    unfold kidsF
    rw [List.map_map]
    exact List.map_congr_left fun j hj => p.kid_g hx h0 (List.mem_range.1 hj)
theorem froot (p : InjOf c l ss m) : gI l m (rootS l 0) = rootS (injL l (injR (getL l 0) m)) 0 := by
  have hf := p.find_g p.t.root
  rw [p.t.root0, p.g_r] at hf
  rw [p.g_r]
  unfold rootS
  rw [hf]
theorem fix (p : InjOf c l ss m) : ss.map (gI l m) = rootS (injL l (injR (getL l 0) m)) 0 :: (ss.map (gI l m)).flatMap (kidsD (injL l (injR (getL l 0) m))) := by
  rw [PourOf.flat_map fun x hx => (p.each hx).2]
  conv => lhs; rw [p.t.fix]
  rw [List.map_cons, p.froot]
theorem keys (p : InjOf c l ss m) : (ss.map (gI l m)).map Seat.key = ss.map Seat.key := by
  rw [List.map_map]
  refine List.map_congr_left fun x hx => ?_
  obtain ⟨s1, s2, s3, _⟩ := p.g_same x hx
  show ((gI l m x).n.slot, (gI l m x).n.level, (gI l m x).n.right) = _
  rw [s1, s2, s3]; rfl
theorem perm (p : InjOf c l ss m) : ((ss.map (gI l m)).map fun x : Seat => x.n.slot).Perm ((injL l (injR (getL l 0) m)).map fun n : Nd => n.slot) := by
  have h1 : (ss.map (gI l m)).map (fun x : Seat => x.n.slot) = ss.map (fun x : Seat => x.n.slot) := by
    rw [List.map_map]
    exact List.map_congr_left fun x hx => (p.g_same x hx).1
  rw [h1]
  have h4 : ((injL l (injR (getL l 0) m)).map fun n : Nd => n.slot) = (l.map fun n : Nd => n.slot) := by rw [slots_range p.slots, slots_range p.t.slot, p.len]
  rw [h4]; exact p.t.perm_s
theorem nR (p : InjOf c l ss m) : (injR (getL l 0) m).R c.fan c.leaf c.bud := by
  obtain ⟨⟨r1, r2, r3⟩, r4, r5, _⟩ := p.rR
  obtain ⟨i1, i2, i3, i4, i5, i6, i7⟩ := p.rin
  have hst := p.st
  have hfit := p.fit
  refine ⟨⟨r1, r2, by show 0 ≤ m.stamp; omega⟩, r4, r5, ?_⟩
  rw [if_neg (show ¬ (injR (getL l 0) m).level = 0 from p.h0)]
  refine ⟨i1, i2, ?_, ?_, i5, i6, fun j hj => ?_⟩
  · refine MsgsR.iff.2 ⟨fun x hx => ?_, ?_⟩
    · rcases List.mem_append.1 hx with hx | hx
      · exact (MsgsR.iff.1 i3).1 x hx
      · simp at hx; subst hx; exact p.mR
    · refine List.pairwise_append.2 ⟨(MsgsR.iff.1 i3).2, by simp, fun a ha b hb => ?_⟩
      simp at hb; subst hb
      obtain ⟨q, hq, rfl⟩ := List.getElem_of_mem ha
      have := (i7 q hq).1
      omega
  · show sizesN ((getL l 0).msgs ++ [m]) ≤ _
    rw [sizes_app]
    have : sizesN [m] = m.size := by simp [sizesN]
    omega
  · refine ⟨?_, .inl p.rtop⟩
    have hj2 : j < ((getL l 0).msgs ++ [m]).length := hj
    show (((getL l 0).msgs ++ [m])[j]).stamp ≤ m.stamp
    rw [List.getElem_append]
    split
    · rename_i h
      have := (i7 j h).1
      omega
    · simp
theorem seats9 (p : InjOf c l ss m) : ∀ x ∈ ss, SeatP c (gI l m x) := by
  refine p.two ?_ fun x hx h => ?_
  · rw [p.g_r]
    have sR := p.rseat
    have e := p.gx
    obtain ⟨q1, ⟨⟨q2, q3⟩, q4, q5, q6⟩, q7, q8⟩ := sR
    rw [e] at q2 q3 q7
    refine ⟨p.nR, ⟨⟨q2, q3⟩, fun j hj => (all_has _), fun j hj => ?_, fun j hj => ?_⟩, q7, fun j hj => absurd hj (Nat.not_lt_zero j)⟩
    · have := q5 j (by rw [e]; exact hj)
      simp only [e] at this
      exact this
    · refine PourOf.norm_of fun q _ => all_has q
  · rw [g_x h]
    obtain ⟨q1, q2, q7, q8⟩ := p.t.seat hx
    refine ⟨q1, q2, q7, fun j hj => ?_⟩
    have hmem : (x.ms ++ clips x.s [m])[j] ∈ x.ms ++ clips x.s [m] := List.getElem_mem hj
    show x.n.seen < ((x.ms ++ clips x.s [m])[j]).stamp
    rcases List.mem_append.1 hmem with hm | hm
    · obtain ⟨q, hq, e⟩ := List.getElem_of_mem hm
      rw [← e]; exact q8 q hq
    · obtain ⟨z, hz, e⟩ := clips_stamp hm
      simp at hz; subst hz
      rw [e]
      have := p.sn _ (p.t.nd hx).2.2
      have := p.st
      omega
theorem tree (p : InjOf c l ss m) : Tree c (injL l (injR (getL l 0) m)) (ss.map (gI l m)) := by
  have hsm := p.t.sml
  refine tree_mk p.t.cfg (by rw [p.len]; exact p.t.pos) (sml_R p.t.cfg (by rw [p.len]; exact hsm.1) fun n hn => ?_) p.slots p.fix (fun z hz => ?_) p.perm ?_ (by rw [p.len]; exact p.t.q.1.2.2) fun z hz => ?_
  · have old : ∀ n ∈ l, n.R c.fan c.leaf c.bud := fun n hn => by
      have := (p.t.perm.mem_iff).2 hn
      obtain ⟨x, hx, rfl⟩ := List.mem_map.1 this
      exact (p.t.seat hx).1
    rcases List.mem_or_eq_of_mem_set hn with hn | rfl
    · exact old n hn
    · exact p.nR
  · obtain ⟨x, hx, rfl⟩ := List.mem_map.1 hz
    exact (p.each hx).1
  · rw [p.keys]; exact (linked_iff ss).1 p.t.q.1.2.1
  · obtain ⟨x, hx, rfl⟩ := List.mem_map.1 hz
    exact p.seats9 x hx
theorem map (p : InjOf c l ss m) : mapN (injL l (injR (getL l 0) m)) = takeN (mapN l) m := by
  have t' := p.tree
  have hk : m.key.b.size < 140737488355328 := by have := p.mR.1.2.1; omega
  have hkd : 1 ≤ m.kind ∧ m.kind ≤ 4 := by
    have h := p.mR.2
    split at h
    · omega
    · rcases h.2.2 with h | h | h <;> omega
  refine srt_ext t'.srt (pairsR_iff.1 (p.t.mapFits.takeM p.mR.1.2.1 p.mR.1.2.2.1)).2 fun k => ?_
  rw [getN_take hk hkd.1 hkd.2, ← p.t.lookup k, ← t'.lookup k]
  have hL := p.t.leafOk k
  have hne : (leafS l k).n.slot ≠ 0 := fun e => p.h0 (by rw [← p.gx, ← p.root_of hL.mem e]; exact hL.lvl)
  have e : gI l m (leafS l k) = leafS (injL l (injR (getL l 0) m)) k := by
    refine t'.leaf_eq (List.mem_map.2 ⟨_, hL.mem, rfl⟩) ?_ ?_
    · rw [(p.g_same _ hL.mem).2.2.2.2.2.1]; exact hL.has
    · rw [(p.g_same _ hL.mem).2.1]; exact hL.lvl
  rw [← e, g_x hne]
  show Eff.apply (onsN ((leafS l k).ms ++ clips (leafS l k).s [m]) k) _ = _
  rw [onsN_apply, onsN_apply, List.foldl_append, ons_clips hL.has]
  rfl
end InjOf
theorem front_mem {l : List Msg} {m : Msg} (h : m ∈ frontN l) : m ∈ l := by
 unfold frontN at h
 split at h
 ·exact h
 ·split at h
  ·exact List.mem_of_mem_take h
  ·exact List.mem_of_mem_take h
def addN (bud : Int) (ms : List Msg) (m : Msg) : List Msg × Bool := if roomB bud ms m = true then (ms ++ [m], true) else ([], false)
theorem adds_stop {bud : Int} {ms l : List Msg} {k : Nat} (hk : k < l.length) (h : roomB bud ms l[k] = false) : addsN bud ms (l.drop k) = 0 := by
 rw [List.drop_eq_getElem_cons hk]
 unfold addsN
 rw [if_neg (by simp [h])]
theorem adds_next {bud : Int} {ms l : List Msg} {k : Nat} (hk : k < l.length) (h : roomB bud ms l[k] = true) : addsN bud ms (l.drop k) = addsN bud (ms ++ [l[k]]) (l.drop (k + 1)) + 1 := by
 rw [List.drop_eq_getElem_cons hk]
 conv => lhs; unfold addsN
 rw [if_pos h]
def AddsAt (bud : Int) (ms l : List Msg) (k : Nat) : Prop := addsN bud ms l = k + addsN bud (ms ++ l.take k) (l.drop k)
theorem AddsAt.zero (bud : Int) (ms l : List Msg) : AddsAt bud ms l 0 := by unfold AddsAt; simp
theorem AddsAt.succ {bud : Int} {ms l : List Msg} {k : Nat} (h : AddsAt bud ms l k) (hk : k < l.length) (hr : roomB bud (ms ++ l.take k) l[k] = true) : AddsAt bud ms l (k + 1) := by
 unfold AddsAt at h ⊢
 rw [h, adds_next hk hr, List.take_succ_eq_append_getElem hk, List.append_assoc]
 omega
theorem AddsAt.stop {bud : Int} {ms l : List Msg} {k : Nat} (h : AddsAt bud ms l k) (hk : k < l.length) (hr : roomB bud (ms ++ l.take k) l[k] = false) : addsN bud ms l = k := by
 unfold AddsAt at h
 rw [h, adds_stop hk hr]
 omega
theorem AddsAt.all {bud : Int} {ms l : List Msg} {k : Nat} (h : AddsAt bud ms l k) (hk : l.length ≤ k) : addsN bud ms l = k := by
 unfold AddsAt at h
 rw [h, List.drop_eq_nil_of_le hk]
 rfl
theorem moved_0 {leaf bud : Int} {k : Nd} {l : List Msg} (h : k.level = 0) : movedN leaf bud k l = ({ k with rows := (drainN leaf k.rows l).1 }, (drainN leaf k.rows l).2) := if_pos h
theorem moved_n {leaf bud : Int} {k : Nd} {l : List Msg} {j : Nat} (h : ¬ k.level = 0) (hj : addsN bud k.msgs l = j) : movedN leaf bud k l = ({ k with msgs := k.msgs ++ l.take j }, j) := by unfold movedN; rw [if_neg h, hj]
theorem count_t {leaf bud : Int} {p k : Nd} {i : Int} (h : KidOf p k i) : countN leaf bud p k i = (movedN leaf bud k (forN p.pivots p.msgs i)).2 := if_pos h
def goneN (T : List Msg) : List (Int × Bool) := T.foldl (fun m x => putM m x.stamp true) []
def someN (l : List Str) : List Str := Str.nil :: l.flatMap fun a => [a, a.next]
theorem for_R {P : List Str} {l : List Msg} {i : Int} (hP : ∀ k ∈ P, k.b.size ≤ 16) (hl : ∀ m ∈ l, m.R) : ∀ m ∈ forN P l i, m.R := fun m hm => by
 obtain ⟨a, ha, h2, rfl⟩ := for_mem hm
 have hr := range_sizes (p := P) (i := i) (n := 16) hP
 exact clip_R (hl a ha) hr.1 hr.2 h2
def Eff.D (e : Eff) : Prop := e.kind = 3 → e.val = Str.nil
def NmR (TN tm : TypeId) (b : Nat) (G : GH) (n : Nd) (M : MH) : Prop :=
 ∃ (pa : Option Addr) (pc : Nat) (ka : Option Addr) (kc : Nat) (vm : Value) (ra : Option Addr) (rc : Nat) (Mm : MH),
  M = (b, .cells (List.toArray [.int .i64 n.slot, .int .i64 n.level, .slice pa n.pivots.length pc, .slice ka n.kids.length kc, .string n.high.b, .bool n.top, .int .i64 n.right, .int .i64 n.seen, vm, .slice ra n.rows.length rc]) TN (0, 0)) :: Mm ∧
  SlR eStr G (.slice pa n.pivots.length pc) n.pivots ∧ SlR eInt G (.slice ka n.kids.length kc) n.kids ∧ OwnR eMsg tm G vm n.msgs Mm ∧ SlR ePair G (.slice ra n.rows.length rc) n.rows ∧ n.Ok
theorem NmR.mono {TN tm : TypeId} {b : Nat} {G G' : GH} {n : Nd} {M : MH} (hl : Le G G') (h : NmR TN tm b G n M) : NmR TN tm b G' n M := by
 obtain ⟨pa, pc, ka, kc, vm, ra, rc, Mm, h1, h2, h3, h4, h5, h6⟩ := h
 exact ⟨pa, pc, ka, kc, vm, ra, rc, Mm, h1, h2.mono hl, h3.mono hl, h4.mono hl, h5.mono hl, h6⟩
theorem NmR.cast {TN tm : TypeId} {b : Nat} {G : GH} {n n' : Nd} {M : MH} (h : NmR TN tm b G n M) (e : n = n') : NmR TN tm b G n' M := e ▸ h
structure PourPre (cb : Int) (p k : Nd) : Prop where
 hb : 0 ≤ cb ∧ cb ≤ 9223372036854775807
 hr : rising p.pivots = true
 hpv : ∀ q ∈ p.pivots, q.b.size ≤ 16
 hpm : ∀ m ∈ p.msgs, m.R
 hkm : ∀ m ∈ k.msgs, m.key.b.size ≤ 16 ∧ m.val.b.size ≤ 16
 hkr : PairsR k.rows
 hsz : k.msgs.length + p.msgs.length ≤ 100000 ∧ k.rows.length ≤ 100000
end Go.Fw
