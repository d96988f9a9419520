/- What container/heap asks of a heap, and what it does with it. Nothing of the program is named here. No condition. -/
import Derived.RangeFuncRecord
import Derived.Test.YtcngningbcaggaaQkX3
import Derived.Test.YtcngningbcaggaaQkGa
set_option linter.unusedVariables false
set_option linter.unusedSimpArgs false
set_option linter.unnecessarySimpa false

namespace Go.Fw
open Go Go.RowKit
structure HeapK (P : Program) {α : Type} [Inhabited α] (lt : α → α → Bool) (x : Value) (Rep : GH → List α → MH → Prop) (EV : GH → Value → α → Prop) (pu : Prop := True) : Prop where
 mono : ∀ {G G' l M}, Le G G' → Rep G l M → Rep G' l M
 bound : ∀ {G l M}, Rep G l M → l.length ≤ 140737488355328
 len : ∀ {G l M}, Rep G l M → Inv P x "Len" [] G M (fun v G' M' => v = .int .i64 (l.length : Int) ∧ M' = M)
 less : ∀ {G l M} {i j : Nat}, Rep G l M → i < l.length → j < l.length → Inv P x "Less" [.int .i64 (i : Int), .int .i64 (j : Int)] G M (fun v G' M' => v = .bool (lt (nth l i) (nth l j)) ∧ M' = M)
 swap : ∀ {G l M} {i j : Nat}, Rep G l M → i < l.length → j < l.length → Inv P x "Swap" [.int .i64 (i : Int), .int .i64 (j : Int)] G M (fun v G' M' => v = .tuple #[] ∧ Rep G' (swapL l i j) M')
 push : pu → ∀ {G l M u a}, Rep G l M → l.length < 1000000 → EV G u a → Inv P x "Push" [u] G M (fun v G' M' => v = .tuple #[] ∧ Rep G' (l ++ [a]) M')
 pop : ∀ {G l M}, Rep G l M → 0 < l.length → Inv P x "Pop" [] G M (fun v G' M' => EV G' v (nth l (l.length - 1)) ∧ Rep G' (l.take (l.length - 1)) M')
section
variable {α : Type} [Inhabited α] {lt : α → α → Bool}
end
abbrev Hd := List Msg × Int
def Hd.st (a : Hd) : Int := match a.1 with | [] => 0 | m :: _ => m.stamp
def Hd.lt (a b : Hd) : Bool := decide (a.st < b.st) || (decide (a.st = b.st) && decide (a.2 < b.2))
theorem Hd.st_at {a : Hd} (h : 0 < a.1.length) : a.st = a.1[0].stamp := by
 obtain ⟨l, n⟩ := a
 cases l with
 | nil => simp at h
 | cons m l => rfl
theorem Hd.lo : LO Hd.lt where
 asymm := fun {a b} h => by
  simp only [Hd.lt, Bool.or_eq_true, Bool.and_eq_true, decide_eq_true_eq] at h
  simp only [Hd.lt, Bool.or_eq_false_iff, Bool.and_eq_false_iff, decide_eq_false_iff_not]
  omega
 trans := fun {a b c} h1 h2 => by
  simp only [Hd.lt, Bool.or_eq_false_iff, Bool.and_eq_false_iff, decide_eq_false_iff_not] at h1 h2 ⊢
  omega
def HdC (G : GH) (cs : List Value) (a : Hd) : Prop := ∃ p c, cs = [.slice p a.1.length c, .int .i64 a.2] ∧ SlR eMsg G (.slice p a.1.length c) a.1 ∧ i64 a.2
theorem HdC.mono {G G' : GH} {cs a} (hl : Le G G') (h : HdC G cs a) : HdC G' cs a := by
 obtain ⟨p, c, h1, h2, h3⟩ := h; exact ⟨p, c, h1, h2.mono hl, h3⟩
def eHead : Enc Hd where
 k := 2
 w := 32
 R := HdC
 mono := fun hl h => h.mono hl
 len := fun h => by obtain ⟨p, c, h0, _⟩ := h; rw [h0]; rfl
 one := fun h u hu => by
  obtain ⟨p, c, h0, _⟩ := h
  rw [h0] at hu
  simp at hu
  rcases hu with rfl | rfl <;> rfl
def eBool : Enc Bool where
 k := 1
 w := 1
 R := fun _ cs b => cs = [.bool b]
 mono := fun _ h => h
 len := fun h => by rw [h]; rfl
 one := fun h u hu => by rw [h] at hu; simp at hu; subst hu; rfl
instance : EqE eBool (fun b => [.bool b]) := ⟨fun _ _ _ h => h⟩
instance : EqE eSpan (fun s => [.string s.lo.b, .string s.hi.b, .bool s.opn]) := ⟨fun _ _ _ h => h⟩
instance : EqP eEff (fun e => [.int .i64 e.kind, .string e.val.b]) (fun e => i64 e.kind) := ⟨fun _ _ _ h => h⟩
abbrev ltI : Int → Int → Bool := fun a b => decide (a < b)
def hasN (u : List Bool) (i : Int) : Bool := decide (0 ≤ i) && (decide (i < u.length) && u.getD i.toNat false)
def freeN (u : List Bool) : List Int := ((List.range u.length).filter fun i => !u.getD i true).map fun i : Nat => (i : Int)
def usedN (u : List Bool) : List Int := ((List.range u.length).filter fun i => u.getD i true).map fun i : Nat => (i : Int)
def firstN : List Bool → Nat
 | [] => 0
 | true :: l => firstN l + 1
 | false :: _ => 0
def iotaN (n : Nat) : List Int := (List.range n).map fun i : Nat => (i : Int)
def nextA {α : Type} (st : List α × List Bool) (x : α) : (Int × Int) × (List α × List Bool) :=
 if firstN st.2 < st.2.length then ((firstN st.2, 0), (st.1.set (firstN st.2) x, st.2.set (firstN st.2) true)) else ((0, 4), st)
def freeA {α : Type} (st : List α × List Bool) (i : Int) (z : α) : Int × (List α × List Bool) := if hasN st.2 i = true then (0, (st.1.set i.toNat z, st.2.set i.toNat false)) else (8, st)
def layA {α : Type} (st : List α × List Bool) (i : Int) (x : α) : Int × (List α × List Bool) := if hasN st.2 i = true then (0, (st.1.set i.toNat x, st.2)) else (8, st)
def getA {α : Type} (st : List α × List Bool) (i : Int) (z : α) : α := if hasN st.2 i = true then st.1.getD i.toNat z else z
def ArP {α : Type} (e : Enc α) (Te TB TI Tb : TypeId) (b : Nat) (G : GH) (st : List α × List Bool × List Int) (M : MH) : Prop :=
 ∃ vc vu vf Mc Mu Mf, M = (b, .cells (List.toArray [vc, vu, vf]) Tb (0, 0)) :: (Mc ++ (Mu ++ Mf)) ∧ OwnR e Te G vc st.1 Mc ∧ OwnR eBool TB G vu st.2.1 Mu ∧ OwnR eInt TI G vf st.2.2 Mf
theorem ArP.mono {α : Type} {e : Enc α} {Te TB TI Tb : TypeId} {b : Nat} {G G' : GH} {st : List α × List Bool × List Int} {M : MH} (hl : Le G G') (h : ArP e Te TB TI Tb b G st M) : ArP e Te TB TI Tb b G' st M := by
 obtain ⟨vc, vu, vf, Mc, Mu, Mf, h1, h2, h3, h4⟩ := h
 exact ⟨vc, vu, vf, Mc, Mu, Mf, h1, h2.mono hl, h3.mono hl, h4.mono hl⟩
def ArR {α : Type} (e : Enc α) (Te TB TI Tb : TypeId) (b : Nat) (G : GH) (st : List α × List Bool) (M : MH) : Prop :=
 ∃ f, ArP e Te TB TI Tb b G (st.1, st.2, f) M ∧ st.1.length = st.2.length ∧ st.2.length ≤ 4096 ∧ Heap ltI f ∧ f.Perm (freeN st.2)
theorem ArR.mono {α : Type} {e : Enc α} {Te TB TI Tb : TypeId} {b : Nat} {G G' : GH} {st : List α × List Bool} {M : MH} (hl : Le G G') (h : ArR e Te TB TI Tb b G st M) : ArR e Te TB TI Tb b G' st M := by
 obtain ⟨f, h1, h2⟩ := h
 exact ⟨f, h1.mono hl, h2⟩
theorem ArR.cast {α : Type} {e : Enc α} {Te TB TI Tb : TypeId} {b : Nat} {G : GH} {st st' : List α × List Bool} {M M' : MH} (h : ArR e Te TB TI Tb b G st M) (e1 : st = st') (e2 : M = M') : ArR e Te TB TI Tb b G st' M' := by subst e1 e2; exact h
theorem NodeC.cast {G : GH} {cs : List Value} {n m : Nd} (h : NodeC G cs n) (e : n = m) : NodeC G cs m := e ▸ h
def usedK (u : List Bool) (k : Nat) : List Int := ((List.range k).filter fun i => u.getD i true).map fun i : Nat => (i : Int)
def CfgR (c : Cfg) : Prop := (4 ≤ c.fan ∧ c.fan ≤ 64) ∧ (2 ≤ c.leaf ∧ c.leaf ≤ 64) ∧ (36 ≤ c.bud ∧ c.bud ≤ 4096) ∧ (1 ≤ c.slots ∧ c.slots ≤ 4096) ∧ (0 ≤ c.rest ∧ c.rest ≤ 100)
instance (c : Cfg) : Decidable (CfgR c) := by unfold CfgR; infer_instance
def arOf (n : Nat) (l : List Nd) : List Nd × List Bool := (l ++ List.replicate (n - l.length) Nd.zero, List.replicate l.length true ++ List.replicate (n - l.length) false)
def putL (l : List Nd) (x : Nd) : Int × List Nd := if 0 ≤ x.slot ∧ x.slot < l.length then (0, l.set x.slot.toNat x) else (8, l)
def takeL (n : Nat) (l : List Nd) (x : Nd) : (Int × Int) × List Nd := if l.length < n then ((l.length, 0), l ++ [{ x with slot := l.length }]) else ((0, 4), l)
def getL (l : List Nd) (i : Int) : Nd := if 0 ≤ i then l.getD i.toNat Nd.zero else Nd.zero
theorem getL_at {l : List Nd} {k : Nat} (h : k < l.length) : getL l k = l[k] := by
 unfold getL; rw [if_pos om9, Int.toNat_natCast, List.getD_eq_getElem?_getD, List.getElem?_eq_getElem h]; rfl
def takeA (a : List Nd × List Bool) (x : Nd) : (Int × Int) × (List Nd × List Bool) :=
 if (nextA a Nd.zero).1.2 = 0 then (((nextA a Nd.zero).1.1, (layA (nextA a Nd.zero).2 (nextA a Nd.zero).1.1 { x with slot := (nextA a Nd.zero).1.1 }).1), (layA (nextA a Nd.zero).2 (nextA a Nd.zero).1.1 { x with slot := (nextA a Nd.zero).1.1 }).2)
 else ((0, (nextA a Nd.zero).1.2), (nextA a Nd.zero).2)
def StA (te tB ti tb TS b : Nat) (G : GH) (c : Cfg) (a : List Nd × List Bool) (M : MH) : Prop :=
 ∃ b2 Ma, M = (b, .cells (List.toArray [.int .i64 c.fan, .int .i64 c.leaf, .int .i64 c.bud, .int .i64 c.slots, .int .i64 c.rest, .pointer (some ⟨b2, 0, none⟩)]) TS (0, 0)) :: Ma ∧ ArR eNode te tB ti tb b2 G a Ma
theorem StA.mono {te tB ti tb TS b : Nat} {G G' : GH} {c : Cfg} {a : List Nd × List Bool} {M : MH} (hl : Le G G') (h : StA te tB ti tb TS b G c a M) : StA te tB ti tb TS b G' c a M := by
 obtain ⟨b2, Ma, h1, h2⟩ := h; exact ⟨b2, Ma, h1, h2.mono hl⟩
def StR (te tB ti tb TS b : Nat) (c : Cfg) (G : GH) (l : List Nd) (M : MH) : Prop := CfgR c ∧ l.length ≤ c.slots.toNat ∧ StA te tB ti tb TS b G c (arOf c.slots.toNat l) M
theorem StR.mono {te tB ti tb TS b : Nat} {G G' : GH} {c : Cfg} {l : List Nd} {M : MH} (hl : Le G G') (h : StR te tB ti tb TS b c G l M) : StR te tB ti tb TS b c G' l M := ⟨h.1, h.2.1, h.2.2.mono hl⟩
theorem StA.cast {te tB ti tb TS b : Nat} {G : GH} {c : Cfg} {a a' : List Nd × List Bool} {M : MH} (h : StA te tB ti tb TS b G c a M) (e : a = a') : StA te tB ti tb TS b G c a' M := e ▸ h
def leafN (slot : Int) : Nd := ⟨slot, 0, [], [], Str.nil, true, -1, 0, [], []⟩
theorem NodeC.of {G : GH} {cs : List Value} {n m : Nd} (h : NodeC G cs n) (e : n = m) : NodeC G cs m := e ▸ h
abbrev fcr (ro : Option Nat) : Fence := { Fence.wide with round := ro }
section
variable {P : Program} {ro : Option Nat} {n : Nat} {ops : Array Oper}
theorem steps_in {m m' : Machine} (h : Steps P m m') : StepsIn (Machine.fenced P (fcr ro)) P m m' := (stepsIn_wide (P := P)).2 h
theorem upon_in {o : Oper} {a : Act} {next next' : Act → World → Prop} {Q Q' : Exit → Act → World → Prop} (hn : ∀ a w, next a w → next' a w) (hq : ∀ e a w, Q e a w → Q' e a w) :
    ∀ {res : Result Next}, o.upon P a next Q res → o.uponIn (fcr ro) n P a next' Q' res
  | .ok (.value v) w', h => hn _ _ h
  | .ok .skip w', h => hn _ _ h
  | .ok (.defer d) w', h => hn _ _ h
  | .ok (.enter f args) w', h => ⟨fun e => by simp [Fence.wide] at e, (callsIn_wide (n := n - 1)).2 (Calls.mono h fun e w'' hr => by
      cases e with
      | returned v => exact hn _ _ hr
      | panicked chain => exact hq _ _ _ hr
      | outgrown => exact let ⟨a, w, h⟩ := hr; ⟨a, w, hq _ _ _ h⟩)⟩
  | .ok (.row row args) w', h => ⟨fun e => by simp [Fence.wide] at e, fun c cs _ => let ⟨v, w'', hr, hs⟩ := h c cs; ⟨v, w'', hn _ _ hr, steps_in hs⟩⟩
  | .ok (.round ..) w', h => h.elim
  | .halt (.panic v) w', h => hq _ _ _ h
  | .halt (.exit _) w', h => h.elim
  | .halt (.stuck _) w', h => h.elim
def NoDefer (l : List Oper) : Prop := ∀ o ∈ l, ∀ c, o.op ≠ .defer c
def noDeferB (l : List Oper) : Bool := l.all fun o => match o.op with | .defer _ => false | _ => true
theorem noDefer_of {l : List Oper} (h : noDeferB l = true) : NoDefer l := fun o ho c e => by
  have := List.all_eq_true.1 h o ho
  rw [e] at this; cases this
theorem list_in {Q1 Q : Exit → Act → World → Prop} {l2 : List Oper} (hQ : ∀ e a w, Q1 e a w → e = .normal ∧ wpListIn (fcr ro) n P ops Q l2 a w) :
    ∀ {l1 : List Oper} {a : Act} {w : World}, NoDefer l1 → wpList P ops Q1 l1 a w → wpListIn (fcr ro) n P ops Q (l1 ++ l2) a w
  | [], a, w, _, h => (hQ _ _ _ h).2
  | o :: l1, a, w, hd, h => by
    have ih : ∀ a w, wpList P ops Q1 l1 a w → wpListIn (fcr ro) n P ops Q (l1 ++ l2) a w := fun a w h => list_in hQ (fun o ho => hd o (List.mem_cons_of_mem _ ho)) h
    have hq : ∀ e a w, Q1 e a w → e = .normal ∧ wpListIn (fcr ro) n P ops Q l2 a w := hQ
    unfold wpList at h
    rw [List.cons_append]
    unfold wpListIn
    by_cases hw : Region.wanted o (yielded ops a.tmps) = true
    · rw [if_pos hw] at h ⊢
      rcases h with h | ⟨_, a, w, h⟩
      · refine ⟨fun _ _ => trivial, ?_⟩
        rw [Oper.semAt_eq _ _ _ (hd o (by simp))]
        have h1 := upon_in (ro := ro) (n := n) (P := P) (o := o) (a := a) (next := wpList P ops Q1 l1) (next' := wpListIn (fcr ro) n P ops Q (l1 ++ l2)) (Q := Q1) (Q' := Q1) ih (fun _ _ _ h => h) h
        revert h1
        cases (execOp a.eval o).run P w with
        | halt x w' =>
          cases x <;> intro h1 <;> first | exact h1.elim | exact absurd (hQ _ _ _ h1).1 (by simp)
        | ok x w' =>
          cases x with
          | enter f args =>
            rintro ⟨h2, h3⟩
            refine ⟨h2, h3.1, fun cs hr => ?_⟩
            obtain ⟨e, w'', fr, h4, h5⟩ := h3.2 cs hr
            refine ⟨e, w'', fr, ?_, h5⟩
            cases e with
            | returned v => exact h4
            | panicked chain => exact absurd (hQ _ _ _ h4).1 (by simp)
            | outgrown => obtain ⟨a, w, h6⟩ := h4; exact absurd (hQ _ _ _ h6).1 (by simp)
          | round l f tmps assign body =>
            rintro ⟨h2, h3⟩
            refine ⟨h2, h3.1, fun c cs hr => ?_⟩
            obtain ⟨e, w'', h4, h5⟩ := h3.2 c cs hr
            refine ⟨e, w'', ?_, h5⟩
            cases e with
            | returned v => exact h4
            | panicked chain => exact absurd (hQ _ _ _ h4).1 (by simp)
            | outgrown => obtain ⟨a, w, h6⟩ := h4; exact absurd (hQ _ _ _ h6).1 (by simp)
          | _ => intro h1; exact h1
      · exact absurd (hQ _ _ _ h).1 (by simp)
    · rw [if_neg hw] at h ⊢
      exact ⟨fun _ _ => trivial, ih _ _ h⟩
end
/-! ## Regions that call yield -/
def WI (E : Env) (ops : Array Oper) (l : List Oper) (f : Fr) (G : GH) (M : MH) (K : Kt) : Prop :=
  ∀ a w (Q : Exit → Act → World → Prop), Is E.n a f → E.real G M w → (∀ f G M a w, Is E.n a f → E.real G M w → K f G M → Q .normal a w) → wpListIn (fcr none) 0 E.P ops Q l a w
def Yn (P : Program) (l : Nat) (args : List Value) (G : GH) (M : MH) (Q : Value → GH → MH → Prop) : Prop :=
  ∀ w, Real w (fun b => b ∈ M.map (·.1)) G M w → ∃ fn tmps assign body, (Instr.yield l args.toArray).run P w = .ok (.round l fn tmps assign body) w ∧
    RoundIn (fcr none) 0 P l fn tmps assign body w fun e w' => ∃ v G' M', e = .returned v ∧ Real w (fun b => b ∈ M.map (·.1)) G' M' w' ∧ Le G G' ∧ Newer w.heap.size M G G' ∧ Q v G' M'
theorem Yn.mono {P : Program} {l : Nat} {args : List Value} {G : GH} {M : MH} {Q Q' : Value → GH → MH → Prop} (h : Yn P l args G M Q) (hq : ∀ v G' M', Le G G' → Q v G' M' → Q' v G' M') : Yn P l args G M Q' := fun w hw => by
  obtain ⟨fn, tmps, assign, body, h1, h2⟩ := h w hw
  exact ⟨fn, tmps, assign, body, h1, h2.mono fun e w' ⟨v, G', M', a, b, c, d, e⟩ => ⟨v, G', M', a, b, c, d, hq _ _ _ c e⟩⟩
section
variable {E : Env} {f : Fr} {G : GH} {M : MH} {K : Kt} {ops rest : List Oper} {d : Nat} {ty : TypeId} {pos : String} {aft : Array Edge}
theorem WI.w {l : List Oper} (h : W E ops.toArray false l f G M K) (hd : NoDefer l) : WI E ops.toArray l f G M K := fun a w Q hi hr hK => by
  have h1 := h a w (fun e a w => e = .normal ∧ Q .normal a w) hi hr fun f G M a w h1 h2 h3 => ⟨rfl, hK f G M a w h1 h2 h3⟩
  have := list_in (ro := none) (n := 0) (Q := Q) (l2 := []) (fun e a w h => ⟨h.1, h.2⟩) hd h1
  rwa [List.append_nil] at this
theorem WC.regionY {id : Nat} {Q : Exit → Kt} (i : Nat) (hd : noDeferB (ops.take i) = true) (h : W E ops.toArray false (ops.take i) f G M (fun f G M => WI E ops.toArray (ops.drop i) f G M (Q .normal))) : WC E (.region id ops.toArray false) Q f G M := fun a w hi hr => by
  refine (wpIn_wide (n := 0)).1 (wpIn_mono (Q := fun e a w => e = .normal ∧ lift E Q .normal a w) (wpIn_region_lit ?_) fun e a w h => by obtain ⟨rfl, h⟩ := h; exact h)
  have h1 := h a w (fun e a w => e = .normal ∧ wpListIn (fcr none) 0 E.P ops.toArray (fun e a w => e = .normal ∧ lift E Q .normal a w) (ops.drop i) a w) hi hr fun f G M a w h1 h2 h3 =>
    ⟨rfl, h3 a w _ h1 h2 fun f G M a w h4 h5 h6 => ⟨rfl, f, G, M, h4, h5, h6⟩⟩
  have h2 := list_in (ro := none) (n := 0) (Q := fun e a w => e = .normal ∧ lift E Q .normal a w) (l2 := ops.drop i) (fun e a w h => h) (noDefer_of hd) h1
  rw [List.take_append_drop] at h2
  exact h2
theorem WI.yield {l j dj : Nat} {want b : Bool} {x : Operand} {args : List Operand} {at' : Array TypeId} {vs : List Value} {Mp Mr : MH} {Qy : Value → GH → MH → Prop} (hy : Yn E.P l vs G Mp Qy)
    (hj : (ops.toArray[j]?).bind (·.dst) = some dj) (hb : f dj = .bool b) (hn' : b = want) (hx : ev f x = .func (.yield l) #[] #[]) (ha : args.map (ev f) = vs) (hM : (Mp ++ Mr).Perm M)
    (k : ∀ v G' M', Le G G' → Qy v G' M' → WI E ops.toArray rest (upd f d v) G' (M' ++ Mr) K) (hd : Nat.blt d E.n = true := by rfl) (hdj : Nat.blt dj E.n = true := by rfl) :
    WI E ops.toArray (⟨some d, .call { callee := .value x, args := args.toArray, argTypes := at' }, ty, pos, aft, some (j, want)⟩ :: rest) f G M K := by
  intro a w Q hi hr hK
  have key : Region.wanted ⟨some d, .call { callee := .value x, args := args.toArray, argTypes := at' }, ty, pos, aft, some (j, want)⟩ (yielded ops.toArray a.tmps) = true := by
    have hn : (b == want) = true := by rw [hn']; cases want <;> rfl
    clear hn'
    have hl : dj < a.tmps.size := by rw [hi.size]; have h1 := hdj; simp [Nat.blt] at h1; omega
    have := hi.get dj
    rw [Array.getD_eq_getD_getElem?, hb, Array.getElem?_eq_getElem hl] at this
    simp at this
    simp only [Region.wanted, yielded, hj, Option.bind_some, Array.getElem?_eq_getElem hl, this]
    cases b <;> cases want <;> simp_all
  have hr' := hr.r.perm hM
  have hw : Real w (fun b => b ∈ (Mp.map (·.1))) G Mp w := by
    have hs := hr'.sub (M' := Mp) (List.sublist_append_left _ _)
    exact ⟨rfl, rfl, rfl, Nat.le_refl _, fun _ _ _ => rfl, hr.r.ro, hs.mu, hs.dis, hs.nd, fun p hp => .inr (List.mem_map_of_mem hp)⟩
  obtain ⟨fn, tmps, assign, body, h1, h2⟩ := hy w hw
  have hrun : (execOp (ev f) ⟨some d, .call { callee := .value x, args := args.toArray, argTypes := at' }, ty, pos, aft, some (j, want)⟩).run E.P w = .ok (.round l fn tmps assign body) w := by
    have ha' : (args.toArray.map (ev f)) = vs.toArray := by rw [List.map_toArray, ha]
    simp [execOp, resolve, hx, invoke, Deferred.ofValue, ha', h1, ha]
  unfold wpListIn
  rw [if_pos key]
  refine ⟨fun _ _ => trivial, ?_⟩
  rw [Oper.semAt_none, hi.eval, hrun, Oper.uponIn_round]
  refine ⟨fun e => by simp [Fence.wide] at e, h2.mono ?_⟩
  rintro e w' ⟨v', G', M', rfl, h3, h4, h5, h6⟩
  have h7 := Real.call hr' h3 h5
  refine k v' G' M' h4 h6 _ w' Q (hi.put hd v') ⟨h7, hr.le.trans h4, ?_⟩ hK
  intro b hb hb'
  cases hg : G b with
  | none =>
    rcases h5 b hg hb' with h8 | h8
    · exact .inl (Nat.le_trans hr.r.size h8)
    · obtain ⟨p, hp, e⟩ := List.mem_map.1 h8
      rcases hr'.lo p (by simp [hp]) with h9 | h9
      · exact .inl (e ▸ h9)
      · exact .inr (e ▸ h9)
  | some o => exact hr.nw b hb (by simp [hg])
end
def recO (fn : FuncId) (tmps : Array Value) (tp : Tmp) (assign body : Code) (D : Nat) (st : LoopState) : Obj := .loop { state := st, pending := none, fn, tmps, params := #[tp], assign, body, defers := D }
section
variable {P : Program} {n : Nat}
theorem reg_in {ro : Option Nat} {E : Env} {id : Nat} {o : List Oper} {f : Fr} {G : GH} {M : MH} {K : Kt} {Q : Exit → Act → World → Prop} {a : Act} {w : World} (h : W E o.toArray false o f G M K) (hd : noDeferB o = true) (hi : Is E.n a f) (hr : E.real G M w)
    (k : ∀ f G M a w, Is E.n a f → E.real G M w → K f G M → Q .normal a w) : (Code.region id o.toArray false).wpIn (fcr ro) 0 E.P Q a w := by
  refine wpIn_region_lit ?_
  have h1 := h a w (fun e a w => e = .normal ∧ Q .normal a w) hi hr fun f G M a w h1 h2 h3 => ⟨rfl, k f G M a w h1 h2 h3⟩
  have := list_in (ro := ro) (n := 0) (Q := Q) (l2 := []) (fun e a w h => ⟨h.1, h.2⟩) (noDefer_of hd) h1
  rwa [List.append_nil] at this
theorem real_put {E : Env} {G : GH} {M : MH} {w : World} {b : Nat} {o o' : Obj} (h : E.real G ((b, o) :: M) w) : E.real G ((b, o') :: M) (w.putObj b o') := ⟨Real.set (M₁ := []) h.r, h.le, h.nw⟩
theorem Yn.of {fn : FuncId} {tmps : Array Value} {f0 : Fr} {tp : Tmp} {o3 o4 : List Oper} {i3 i4 b1 D l : Nat} {vx : Value} {G : GH} {M : MH} {Qy : GH → MH → Prop} (hi : Is n ⟨tmps, []⟩ f0) (htp : Nat.blt tp n = true) (hd3 : noDeferB o3 = true) (hd4 : noDeferB o4 = true)
    (h : ∀ (w0 : World) (own : Nat → Prop), W ⟨P, n, w0, own, G⟩ o3.toArray false o3 (upd f0 tp vx) G ((l, recO fn tmps tp (.region i3 o3.toArray false) (.block b1 (.region i4 o4.toArray false)) D .ready) :: M) (fun f1 G1 M1 => ∃ R1, ((l, recO fn tmps tp (.region i3 o3.toArray false) (.block b1 (.region i4 o4.toArray false)) D .ready) :: R1).Perm M1 ∧
      W ⟨P, n, w0, own, G⟩ o4.toArray false o4 f1 G1 ((l, recO fn tmps tp (.region i3 o3.toArray false) (.block b1 (.region i4 o4.toArray false)) D .busy) :: R1) (fun f2 G2 M2 => ∃ R2 R3, ((l, recO fn tmps tp (.region i3 o3.toArray false) (.block b1 (.region i4 o4.toArray false)) D .busy) :: R2).Perm M2 ∧ R3.Sublist R2 ∧ Qy G2 R3))) :
    Yn P l [vx] G ((l, recO fn tmps tp (.region i3 o3.toArray false) (.block b1 (.region i4 o4.toArray false)) D .ready) :: M) (fun v G' M' => v = .bool true ∧ ∃ R, M' = (l, recO fn tmps tp (.region i3 o3.toArray false) (.block b1 (.region i4 o4.toArray false)) D .ready) :: R ∧ Qy G' R) := by
  intro w hw
  have hl := hw.mu _ List.mem_cons_self
  refine ⟨fn, _, .region i3 o3.toArray false, .block b1 (.region i4 o4.toArray false), run_yield hl rfl, roundIn_of_wpIn (F := fcr none) trivial ?_⟩
  have hi' : Is n { tmps := ((#[tp] : Array Tmp).zip [vx].toArray).foldl (fun tmps (t, a) => tmps.setIfInBounds t a) tmps, defers := [] } (upd f0 tp vx) := by
    have h9 := hi.put htp vx
    have e : ((#[tp] : Array Tmp).zip [vx].toArray).foldl (fun tmps (t, a) => tmps.setIfInBounds t a) tmps = tmps.setIfInBounds tp vx := by simp [List.zip_toArray]
    rw [e]; exact h9
  refine reg_in (ro := some l) (h w (fun b => b ∈ ((l, recO fn tmps tp (.region i3 o3.toArray false) (.block b1 (.region i4 o4.toArray false)) D .ready) :: M).map (·.1))) hd3 hi' ⟨hw, Le.rfl, fun b h1 h2 => absurd h1 h2⟩ ?_
  rintro f1 G1 M1 a1 w1 hi1 hr1 ⟨R1, hp1, hW4⟩
  have hr2 := hr1.perm hp1
  have hl2 := hr2.r.mu _ List.mem_cons_self
  refine ⟨_, run_beginRound hl2 rfl, ?_⟩
  have hr3 : Env.real ⟨P, n, w, _, G⟩ G1 ((l, recO fn tmps tp (.region i3 o3.toArray false) (.block b1 (.region i4 o4.toArray false)) D .busy) :: R1) _ := real_put hr2
  refine wpIn_block (F := fcr (some l)) (reg_in (ro := some l) hW4 hd4 hi1 hr3 ?_)
  rintro f2 G2 M2 a2 w3 hi2 hr4 ⟨R2, R3, hp2, hsub, hq⟩
  have hr5 := hr4.perm hp2
  have hl3 := hr5.r.mu _ List.mem_cons_self
  refine ⟨_, _, run_endRound none hl3, .bool true, G2, (l, recO fn tmps tp (.region i3 o3.toArray false) (.block b1 (.region i4 o4.toArray false)) D .ready) :: R3, rfl, ?_, hr4.le, hr4.nw, rfl, R3, rfl, hq⟩
  have hr6 : Env.real ⟨P, n, w, _, G⟩ G2 ((l, recO fn tmps tp (.region i3 o3.toArray false) (.block b1 (.region i4 o4.toArray false)) D .ready) :: R2) _ := real_put hr5
  exact hr6.r.sub (hsub.cons_cons _)
/-! ## Behind the statement: an activation with a mark -/
def addD (ds : List Deferred) (a : Act) : Act := { a with defers := a.defers ++ ds }
theorem put_addD {ds : List Deferred} {a : Act} {d : Option Tmp} {v : Value} : addD ds (a.put d v) = (addD ds a).put d v := by cases d <;> rfl
theorem upon_D {ds : List Deferred} {o : Oper} {a : Act} {next next' : Act → World → Prop} {Q Q' : Exit → Act → World → Prop} (hn : ∀ a w, next a w → next' (addD ds a) w) (hq : ∀ e a w, Q e a w → e = .normal) :
    ∀ {res : Result Next}, o.upon P a next Q res → o.uponIn (fcr none) 0 P (addD ds a) next' Q' res
  | .ok (.value v) w', h => by have := hn _ _ h; rw [put_addD] at this; exact this
  | .ok .skip w', h => by have := hn _ _ h; rw [put_addD] at this; exact this
  | .ok (.defer d) w', h => by have := hn _ _ h; rw [put_addD] at this; exact this
  | .ok (.enter f args) w', h => ⟨fun e => by simp [Fence.wide] at e, (callsIn_wide (n := 0 - 1)).2 (Calls.mono h fun e w'' hr => by
      cases e with
      | returned v => have := hn _ _ hr; rw [put_addD] at this; exact this
      | panicked chain => exact absurd (hq _ _ _ hr) (by simp)
      | outgrown => obtain ⟨a, w, h⟩ := hr; exact absurd (hq _ _ _ h) (by simp))⟩
  | .ok (.row row args) w', h => ⟨fun e => by simp [Fence.wide] at e, fun c cs _ => let ⟨v, w'', hr, hs⟩ := h c cs; ⟨v, w'', by have := hn _ _ hr; rw [put_addD] at this; exact this, steps_in hs⟩⟩
  | .ok (.round ..) w', h => h.elim
  | .halt (.panic v) w', h => absurd (hq _ _ _ h) (by simp)
  | .halt (.exit _) w', h => h.elim
  | .halt (.stuck _) w', h => h.elim
theorem list_D {ds : List Deferred} {ops : Array Oper} {Q1 Q : Exit → Act → World → Prop} (hQ : ∀ e a w, Q1 e a w → e = .normal ∧ Q .normal (addD ds a) w) :
    ∀ {l : List Oper} {a : Act} {w : World}, NoDefer l → wpList P ops Q1 l a w → wpListIn (fcr none) 0 P ops Q l (addD ds a) w
  | [], a, w, _, h => (hQ _ _ _ h).2
  | o :: l1, a, w, hd, h => by
    have ih : ∀ a w, wpList P ops Q1 l1 a w → wpListIn (fcr none) 0 P ops Q l1 (addD ds a) w := fun a w h => list_D hQ (fun o ho => hd o (List.mem_cons_of_mem _ ho)) h
    unfold wpList at h
    unfold wpListIn
    have he : (addD ds a).eval = a.eval := by funext x; cases x <;> rfl
    by_cases hw : Region.wanted o (yielded ops a.tmps) = true
    · rw [if_pos hw] at h
      rw [if_pos (show Region.wanted o (yielded ops (addD ds a).tmps) = true from hw)]
      rcases h with h | ⟨_, a, w, h⟩
      · refine ⟨fun _ _ => trivial, ?_⟩
        rw [Oper.semAt_none, he]
        exact upon_D ih (fun e a w h => (hQ _ _ _ h).1) h
      · exact absurd (hQ _ _ _ h).1 (by simp)
    · rw [if_neg hw] at h
      rw [if_neg (show ¬ Region.wanted o (yielded ops (addD ds a).tmps) = true from hw)]
      refine ⟨fun _ _ => trivial, ?_⟩
      have := ih _ _ h
      rw [put_addD] at this; exact this
theorem reg_D {ds : List Deferred} {E : Env} {id : Nat} {o : List Oper} {f : Fr} {G : GH} {M : MH} {K : Kt} {Q : Exit → Act → World → Prop} {a : Act} {w : World} (h : W E o.toArray false o f G M K) (hd : noDeferB o = true) (hi : Is E.n a f) (hr : E.real G M w)
    (k : ∀ f G M a w, Is E.n a f → E.real G M w → K f G M → Q .normal (addD ds a) w) : (Code.region id o.toArray false).wpIn (fcr none) 0 E.P Q (addD ds a) w := by
  refine wpIn_region_lit ?_
  have h1 := h a w (fun e a w => e = .normal ∧ Q .normal (addD ds a) w) hi hr fun f G M a w h1 h2 h3 => ⟨rfl, k f G M a w h1 h2 h3⟩
  exact list_D (fun e a w h => h) (noDefer_of hd) h1
end
end Go.Fw
