/- The evaluator itself, and that what it says of a call holds in the model. Nothing of the program is named here. No condition. -/
import Derived.Test.YtipdjeemjiimbaaEi
set_option linter.unusedVariables false
set_option linter.unusedSimpArgs false
set_option linter.unnecessarySimpa false
namespace Go.Fw
open Go Go.RowKit

inductive Ex where
  | nor | ret
  | exit (id : Nat)
def ExR : Ex → Exit → Prop
  | .nor, e => e = .normal
  | .ret, e => e = .ret
  | .exit id, e => e = .exit id
abbrev DL := List (FuncId × List AV)
structure Rs where
  e : Ex
  f : Tr AV
  d : DL
  s : St
  v : AV
/-- In which order the operations of a region are looked at. -/
inductive Plan where
  | done
  /-- operation i first -/
  | step (i : Nat) (p : Plan)
  /-- whichever of these comes up -/
  | alts (rs : List Nat) (p : Plan)
  /-- operation i; 'an': operations that it waits for, directly or through others -/
  | alt (i : Nat) (an : List Nat) (p q : Plan)
  | stop
/-- A load that was taken first: the operation, the block, the offset, the cells. -/
abbrev Fact := Nat × Nat × Nat × List AV
inductive Task where
  | code (g nt : Nat) (c : Code)
  | ops (g nt : Nat) (arr : Array Oper) (l : List Oper)
  | call (g : FuncId) (args : List AV)
  | callD (g : FuncId) (args : List AV)
  | draw (nt : Nat) (arr : Array Oper) (n0 : Nat) (p : Plan) (L : List Fact)
structure Ctx where
  P : Program
  fn : Nat → Option Func
  plan : Nat → Nat → Option Plan
  prim : Nat → Option (List AV → St → Option (AV × St))

def primA (C : Ctx) (g : Nat) (args : List AV) (s : St) : Option (AV × St) :=
  match C.prim g with
  | some p => p args s
  | none => none
def initF : Nat → List AV → Tr AV → Tr AV
  | _, [], t => t
  | i, x :: l, t => initF (i + 1) l (t.set i (some x))
def putF (f : Tr AV) (dst : Option Nat) (v : AV) : Tr AV :=
  match dst with
  | some d => f.set d (some v)
  | none => f
def dstOk (nt : Nat) : Option Nat → Bool
  | some d => Nat.blt d nt
  | none => true
def isChain : Plan → Bool
  | .alt _ _ _ _ => true
  | .stop => true
  | _ => false
/-- Does operation j wait directly for i? -/
def waitsB (arr : Array Oper) (j i : Nat) : Bool :=
  match arr[j]? with
  | some o => o.after.any fun e => Region.binds .any e && Nat.beq e.on i
  | none => false
/-- Does 'j' wait for all of these, directly or through one of 'seen', or an earlier one? -/
def ancOk (arr : Array Oper) (j : Nat) : List Nat → List Nat → Bool
  | _, [] => true
  | seen, i :: l => (waitsB arr j i || seen.any (fun k => waitsB arr k i)) && ancOk arr j (i :: seen) l
def planOk (arr : Array Oper) : Plan → Array Bool → List Nat → Nat → Bool
  | .done, listed, _, _ => (Region.ready .any arr listed).isEmpty
  | .step i p, listed, _, d + 1 => Region.free .any arr listed i && (Region.ready .any arr listed).contains i && planOk arr p (listed.setIfInBounds i true) [] d
  | .alts rs p, listed, _, d => (Region.ready .any arr listed == rs) && !rs.isEmpty && planOk arr p listed rs d
  | .alt i an p q, listed, j :: rs, d + 1 => Nat.beq i j && ancOk arr i [] an && !listed.getD i true && isChain q && planOk arr p (listed.setIfInBounds i true) [] d && planOk arr q listed rs (d + 1)
  | .stop, _, [], _ => true
  | _, _, _, _ => false
def isEnd : Ex → Bool
  | .exit _ => false
  | _ => true
/-- A region that only looks, in the order of the text. -/
def qrun (P : Program) (h : Tr Blk) (nt : Nat) (arr : Array Oper) : Tr AV → List Oper → Option (Tr AV)
  | f, [] => some f
  | f, o :: l => bif dstOk nt o.dst then (match wantedA arr f o with
    | some false => qrun P h nt arr (putF f o.dst .und) l
    | some true => match o.op with
      | .load t x => match loadA P h t (evA f x) with
        | some v => qrun P h nt arr (putF f o.dst v) l
        | none => none
      | _ => match pureA P h f o.op o.type with
        | some v => qrun P h nt arr (putF f o.dst v) l
        | none => none
    | none => none) else none
def Ex.beq : Ex → Ex → Bool
  | .nor, .nor => true
  | .ret, .ret => true
  | .exit i, .exit j => Nat.beq i j
  | _, _ => false
def DL.beq : DL → DL → Bool
  | [], [] => true
  | (g, l) :: d, (g', l') :: d' => Nat.beq g g' && AV.beqs l l' && DL.beq d d'
  | _, _ => false
def Rs.beq (r r' : Rs) : Bool := Ex.beq r.e r'.e && Tr.beq AV.beq r.f r'.f && DL.beq r.d r'.d && Tr.beq Blk.beq r.s.h r'.s.h && Nat.beq r.s.n r'.s.n && AV.beq r.v r'.v
theorem DL.beq_eq : ∀ {d d' : DL}, DL.beq d d' = true → d = d'
  | [], [], _ => rfl
  | [], _ :: _, h => by simp [DL.beq] at h
  | _ :: _, [], h => by simp [DL.beq] at h
  | (g, l) :: d, (g', l') :: d', h => by
    simp only [DL.beq, Bool.and_eq_true] at h
    obtain ⟨⟨h1, h2⟩, h3⟩ := h
    rw [Nat.eq_of_beq_eq_true h1, AV.beqs_eq h2, DL.beq_eq h3]
theorem Rs.beq_eq {r r' : Rs} (h : Rs.beq r r' = true) : r = r' := by
  simp only [Rs.beq, Bool.and_eq_true] at h
  obtain ⟨⟨⟨⟨⟨h1, h2⟩, h3⟩, h4⟩, h5⟩, h6⟩ := h
  obtain ⟨e, f, d, ⟨hp, n⟩, v⟩ := r
  obtain ⟨e', f', d', ⟨hp', n'⟩, v'⟩ := r'
  have e1 : e = e' := by
    cases e <;> cases e' <;> simp only [Ex.beq, Bool.false_eq_true] at h1
    · rfl
    · rfl
    · rw [Nat.eq_of_beq_eq_true h1]
  have e2 := Tr.beq_eq (fun a b h => AV.beq_eq h) h2
  have e3 := DL.beq_eq h3
  have e4 := Tr.beq_eq Blk.beq_eq h4
  have e5 := Nat.eq_of_beq_eq_true h5
  have e6 := AV.beq_eq h6
  simp only at e2 e3 e4 e5 e6
  rw [e1, e2, e3, e4, e5, e6]
/-- Do the loads that were taken first still hold, behind operation o? -/
def factsOk (an : List Nat) (s : St) : List Fact → Bool
  | [] => true
  | (i, id, off, cs) :: L => (an.any (fun k => Nat.beq k i) || (match rowA s.h id off cs.length with | some l => AV.beqs l cs | none => false)) && factsOk an s L
/-- A load that may be taken first. -/
def loadF (P : Program) (h : Tr Blk) (f : Tr AV) (i : Nat) (op : Op) : Option (AV × Fact) :=
  match op with
  | .load t x => match evA f x with
    | .p id off => match tyK P t with
      | some (bb, k) => match rowA h id off k with
        | some l => bif AV.dets l then (match mkA bb l with
          | some v => some (v, (i, id, off, l))
          | none => none) else none
        | none => none
      | none => none
    | _ => none
  | _ => none
def isStop : Plan → Bool
  | .stop => true
  | _ => false

def evl (C : Ctx) : Nat → Task → Tr AV → DL → St → Option Rs
  | 0, _, _, _, _ => none
  | n + 1, .code g nt c, f, d, s => match c with
    | .skip => some ⟨.nor, f, d, s, .und⟩
    | .ret => some ⟨.ret, f, d, s, .und⟩
    | .exit id => some ⟨.exit id, f, d, s, .und⟩
    | .seq x y => match evl C n (.code g nt x) f d s with
      | some ⟨.nor, f', d', s', _⟩ => evl C n (.code g nt y) f' d' s'
      | r => r
    | .cond c x y => match evA f c with
      | .b true => evl C n (.code g nt x) f d s
      | .b false => evl C n (.code g nt y) f d s
      | _ => none
    | .block id c => match evl C n (.code g nt c) f d s with
      | some ⟨.exit j, f', d', s', v⟩ => bif Nat.beq j id then some ⟨.nor, f', d', s', v⟩ else some ⟨.exit j, f', d', s', v⟩
      | r => r
    | .loop c => match evl C n (.code g nt c) f d s with
      | some ⟨.nor, f', d', s', _⟩ => evl C n (.code g nt (.loop c)) f' d' s'
      | r => r
    | .region id arr false => evl C n (.ops g nt arr arr.toList) f d s
    | .region id arr true => match C.plan g id with
      | some p => bif Region.noSelect arr && planOk arr p (Array.replicate arr.size false) [] arr.size then evl C n (.draw nt arr s.n p []) f d ⟨s.h, s.n + arr.size⟩ else none
      | none => bif Region.lexB .any arr then (match qrun C.P s.h nt arr f arr.toList with
        | some f' => some ⟨.nor, f', d, s, .und⟩
        | none => none) else none
    | _ => none
  | n + 1, .ops g nt arr l, f, d, s => match l with
    | [] => some ⟨.nor, f, d, s, .und⟩
    | o :: rest => bif dstOk nt o.dst then (match wantedA arr f o with
      | some false => evl C n (.ops g nt arr rest) (putF f o.dst .und) d s
      | some true => match calleeA C.P s.h f o.op with
        | some (g', args) => match evl C n (.call g' args) .e [] s with
          | some r => evl C n (.ops g nt arr rest) (putF f o.dst r.v) d r.s
          | none => none
        | none => match deferA f o.op with
          | some x => evl C n (.ops g nt arr rest) (putF f o.dst .und) (x :: d) s
          | none => match memA C.P s none f o.op o.type with
            | some (v, s') => evl C n (.ops g nt arr rest) (putF f o.dst v) d s'
            | none => none
      | none => none) else none
  | n + 1, .call g args, _, _, s => match primA C g args s with
    | some (v, s') => some ⟨.nor, .e, [], s', v⟩
    | none => match C.fn g with
      | some fn => match fn.body with
        | some c => bif Nat.ble args.length fn.ntmps then (match evl C n (.code g fn.ntmps c) (initF 0 args .e) [] s with
          | some r => bif isEnd r.e then (match r.d with
            | [] => match resList C.P r.f r.s fn.results.toList with
              | some l => some ⟨.nor, .e, [], r.s, packA l⟩
              | none => none
            | [(g', args')] => match evl C n (.callD g' args') .e [] r.s with
              | some r' => match resList C.P r.f r'.s fn.results.toList with
                | some l => some ⟨.nor, .e, [], r'.s, packA l⟩
                | none => none
              | none => none
            | _ => none) else none
          | none => none) else none
        | none => none
      | none => none
  | n + 1, .callD g args, _, _, s => match C.fn g with
      | some fn => match fn.body with
        | some c => bif Nat.ble args.length fn.ntmps then (match evl C n (.code g fn.ntmps c) (initF 0 args .e) [] s with
          | some r => bif isEnd r.e then (match r.d with
            | [] => match resList C.P r.f r.s fn.results.toList with
              | some l => some ⟨.nor, .e, [], r.s, packA l⟩
              | none => none
            | _ => none) else none
          | none => none) else none
        | none => none
      | none => none
  | n + 1, .draw nt arr n0 p L, f, d, s => match p with
    | .done => some ⟨.nor, f, d, s, .und⟩
    | .step i p => match arr[i]? with
      | some o => bif dstOk nt o.dst then (match wantedA arr f o with
        | some false => evl C n (.draw nt arr n0 p L) (putF f o.dst .und) d s
        | some true => match pureA C.P s.h f o.op o.type with
          | some v => evl C n (.draw nt arr n0 p L) (putF f o.dst v) d s
          | none => match loadF C.P s.h f i o.op with
            | some (v, fa) => evl C n (.draw nt arr n0 p (fa :: L)) (putF f o.dst v) d s
            | none => none
        | none => none) else none
      | none => none
    | .alts rs q => evl C n (.draw nt arr n0 q L) f d s
    | .alt i an p q => match arr[i]? with
      | some o => bif dstOk nt o.dst then
        (match (match wantedA arr f o with
          | some false => some (AV.und, s)
          | some true => match calleeA C.P s.h f o.op with
            | some (g', args) => match evl C n (.call g' args) .e [] s with
              | some r => some (r.v, r.s)
              | none => none
            | none => memA C.P s (some (n0 + i)) f o.op o.type
          | none => none) with
        | some (v, s1) => bif factsOk an s1 L then (match evl C n (.draw nt arr n0 p L) (putF f o.dst v) d s1 with
          | some r => bif isStop q then some r else (match evl C n (.draw nt arr n0 q L) f d s with
            | some r' => bif Rs.beq r r' then some r else none
            | none => none)
          | none => none) else none
        | none => none) else none
      | none => none
    | .stop => none

/-! ## What is claimed -/
def CallS (P : Program) (g : FuncId) (args : List AV) (s : St) (v : AV) (s' : St) : Prop :=
  Callable P g ∧ ∀ w0 V w vs, Sim w0 V s w → VRs V args vs → Calls P g vs.toArray w fun e w' => ∃ V' z, Vx V V' s.n none ∧ e = .returned z ∧ VR V' v z ∧ Sim w0 V' s' w' ∧ s.n ≤ s'.n
def CallDS (P : Program) (g : FuncId) (args : List AV) (s : St) (v : AV) (s' : St) : Prop :=
  Callable P g ∧ ∀ w0 V w vs u, Sim w0 V s w → VRs V args vs → CallsD P g vs.toArray u w fun e u' w' => u' = u ∧ ∃ V' z, Vx V V' s.n none ∧ e = .returned z ∧ VR V' v z ∧ Sim w0 V' s' w' ∧ s.n ≤ s'.n
structure COk (C : Ctx) : Prop where
  fn : ∀ g fn, C.fn g = some fn → C.P.funcs[g]? = some fn ∧ Callable C.P g
  mix : C.P.follows .mixedOrders = true
  prim : ∀ g p args s v s', C.prim g = some p → p args s = some (v, s') → CallS C.P g args s v s'
/-- What holds behind a piece of code. -/
def Po (w0 : World) (V : Vl) (n nt : Nat) (r : Rs) (e : Exit) (a : Act) (w : World) : Prop :=
  ExR r.e e ∧ ∃ V', Vx V V' n none ∧ Sim w0 V' r.s w ∧ FA V' nt r.f a ∧ DRs V' r.d a.defers ∧ n ≤ r.s.n
def FactOk (V : Vl) (fa : Fact) : Prop := AV.dets fa.2.2.2 = true ∧ ∃ b vs, V.ρ fa.2.1 = some b ∧ VRs V fa.2.2.2 vs
/-- Which operation leaves which loads. -/
def SF (V : Vl) (arr : Array Oper) (L : List Fact) (j : Nat) (w w' : World) : Prop :=
  ∀ fa ∈ L, Anc arr j fa.1 ∨ ∀ b vs, V.ρ fa.2.1 = some b → VRs V fa.2.2.2 vs → CellsAt w b fa.2.2.1 vs → CellsAt w' b fa.2.2.1 vs
def DrawS (P : Program) (nt : Nat) (arr : Array Oper) (n0 : Nat) (p : Plan) (L : List Fact) (f : Tr AV) (d : DL) (s : St) (r : Rs) : Prop :=
  ∀ w0 V w a listed rs D fuel, planOk arr p listed rs D = true → D ≤ fuel → Region.noSelect arr = true → listed.size = arr.size → Closed arr listed → (∀ i ∈ rs, i ∈ Region.ready .any arr listed) → Sim w0 V s w → FA V nt f a → DRs V d a.defers → n0 + arr.size ≤ s.n →
    (∀ i, listed.getD i true = false → V.ρ (n0 + i) = none) → (∀ fa ∈ L, FactOk V fa) →
    match p with
    | .alt _ _ _ _ | .stop => ∀ fuel', fuel = fuel' + 1 → ∀ i ∈ rs, wpOp P arr (Po w0 V n0 nt r) i (fun a' w' => SF V arr L i w w' ∧ wpAnyI P arr (Po w0 V n0 nt r) (SF V arr L) fuel' (listed.setIfInBounds i true) a' w') a w
    | _ => wpAnyI P arr (Po w0 V n0 nt r) (SF V arr L) fuel listed a w
def TaskOk (C : Ctx) (t : Task) (f : Tr AV) (d : DL) (s : St) (r : Rs) : Prop :=
  match t with
  | .code g nt c => ∀ w0 V w a, Sim w0 V s w → FA V nt f a → DRs V d a.defers → c.wp C.P (Po w0 V s.n nt r) a w
  | .ops g nt arr l => ∀ w0 V w a, Sim w0 V s w → FA V nt f a → DRs V d a.defers → wpList C.P arr (Po w0 V s.n nt r) l a w
  | .call g args => CallS C.P g args s r.v r.s
  | .callD g args => CallDS C.P g args s r.v r.s
  | .draw nt arr n0 p L => r.e = .nor ∧ DrawS C.P nt arr n0 p L f d s r
end Go.Fw
