/- The evaluator's operations on addresses, slices, structs and interfaces that look at no cell of memory. Nothing of the program is named here. No condition. -/
import Derived.Test.YtipdjeemjiimbaaEb
set_option linter.unusedVariables false
set_option linter.unusedSimpArgs false
set_option linter.unnecessarySimpa false
namespace Go.Fw
open Go Go.RowKit

/-- What the sizes of the blocks of ours say of their room. -/
def KN (V : Vl) (h : Tr Blk) : Prop := ∀ id t k cs, h.get id = some (.c t k cs) → 0 < k → cs.length ≤ V.κ id * k
theorem Sim.kn {w0 w : World} {V : Vl} {s : St} (h : Sim w0 V s w) : KN V s.h := fun id t k cs hg hk => by
  obtain ⟨b, o, h1, h2, h3, vs, rest, h4, h5, h6, h7⟩ := h.live id _ hg
  have := (h7 hk).1
  rw [List.length_append, h4.len] at this
  omega

/-- A rule of the calculus, at one world. -/
theorem ok_use {P : Program} {w : World} {f : Fr} {o : Oper} {v : Value} (h : ∀ (own : Nat → Prop) (n : Nat), Ok ⟨P, n, w, own, fun _ => none⟩ f (fun _ => none) [] o v) : (execOp (ev f) o).run P w = .ok (.value v) w :=
  h (fun _ => True) 0 w ⟨⟨rfl, rfl, rfl, Nat.le_refl _, fun _ _ _ => rfl, (fun _ _ h => nomatch h), (fun _ h => nomatch h), (fun _ h => nomatch h), List.nodup_nil, (fun _ h => nomatch h)⟩, Le.rfl, fun b _ h => absurd rfl h⟩
theorem ev_tmps (a : Act) : ev (fun t => a.tmps.getD t undef) = a.eval := by
  funext x; cases x <;> rfl

def natOf : AV → Option Nat
  | .i _ (.ofNat n) => some n
  | _ => none
theorem natOf_ok {V : Vl} {x : AV} {n : Nat} {v : Value} (h : natOf x = some n) (hv : VR V x v) : ∃ k, v = .int k (n : Int) := by
  unfold natOf at h
  split at h
  · cases h; simp only [VR] at hv; exact ⟨_, hv⟩
  · cases h
def bndA (dflt : Nat) : Option AV → Option Nat
  | none => some dflt
  | some x => natOf x
/-- What a bound of a slice expression comes to. -/
theorem run_boundA {P : Program} {V : Vl} {x : AV} {n y : Nat} {v : Value} (h : natOf x = some n) (hv : VR V x v) (hy : n ≤ y) (code : BoundsCode) (w : World) : (Instr.sliceBound v y code).run P w = .ok n w := by
  obtain ⟨k, rfl⟩ := natOf_ok h hv
  simp [Instr.sliceBound, asIntOf, hy]

/-- Two related options. -/
def OR (V : Vl) : Option AV → Option Value → Prop
  | none, none => True
  | some x, some v => VR V x v
  | _, _ => False
theorem run_boundsA {P : Program} {V : Vl} {isS : Bool} {len cap : Nat} {lo hi mx : Option AV} {lo' hi' mx' : Option Value} {a b m : Nat} (h1 : OR V lo lo') (h2 : OR V hi hi') (h3 : OR V mx mx')
    (e1 : bndA 0 lo = some a) (e2 : bndA len hi = some b) (e3 : bndA cap mx = some m) (hm : mx = none ∨ hi ≠ none) (hab : a ≤ b) (hbm : b ≤ m) (hmc : m ≤ cap) (w : World) :
    (Instr.sliceBounds isS len cap lo' hi' mx').run P w = .ok (a, b, m) w := by
  cases mx with
  | none =>
    cases mx' with
    | some _ => exact h3.elim
    | none =>
      simp only [bndA, Option.some.injEq] at e3
      subst e3
      cases hi with
      | none =>
        cases hi' with
        | some _ => exact h2.elim
        | none =>
          simp only [bndA, Option.some.injEq] at e2
          subst e2
          cases lo with
          | none =>
            cases lo' with
            | some _ => exact h1.elim
            | none => simp only [bndA, Option.some.injEq] at e1; subst e1; simp [Instr.sliceBounds]
          | some x =>
            cases lo' with
            | none => exact h1.elim
            | some v =>
              have := run_boundA (P := P) (y := len) e1 h1 hab .sliceB w
              simp [Instr.sliceBounds, this]
      | some y =>
        cases hi' with
        | none => exact h2.elim
        | some u =>
          have k2 := run_boundA (P := P) (y := cap) e2 h2 hbm (if isS then .sliceAcap else .sliceAlen) w
          cases lo with
          | none =>
            cases lo' with
            | some _ => exact h1.elim
            | none => simp only [bndA, Option.some.injEq] at e1; subst e1; simp [Instr.sliceBounds, k2]
          | some x =>
            cases lo' with
            | none => exact h1.elim
            | some v =>
              have := run_boundA (P := P) (y := b) e1 h1 hab .sliceB w
              simp [Instr.sliceBounds, k2, this]
  | some z =>
    cases mx' with
    | none => exact h3.elim
    | some t =>
      have k3 := run_boundA (P := P) (y := cap) e3 h3 hmc (if isS then .slice3Acap else .slice3Alen) w
      cases hi with
      | none => rcases hm with hm | hm <;> simp at hm
      | some y =>
        cases hi' with
        | none => exact h2.elim
        | some u =>
          have k2 := run_boundA (P := P) (y := m) e2 h2 hbm .slice3B w
          cases lo with
          | none =>
            cases lo' with
            | some _ => exact h1.elim
            | none => simp only [bndA, Option.some.injEq] at e1; subst e1; simp [Instr.sliceBounds, k2, k3]
          | some x =>
            cases lo' with
            | none => exact h1.elim
            | some v =>
              have := run_boundA (P := P) (y := b) e1 h1 hab .slice3C w
              simp [Instr.sliceBounds, k2, k3, this]

def isN {α : Type} : Option α → Bool
  | none => true
  | some _ => false
/-- A piece of a slice: l elements of size k, in whatever room. -/
def sliceA (P : Program) (h : Tr Blk) (t : TypeId) (x : AV) (lo hi mx : Option AV) : Option AV :=
  match x with
  | .s l => match P.underlying t with
    | some .string => match bndA l.length hi, bndA 0 lo with
      | some b, some a => bif Nat.ble a b && Nat.ble b l.length && isN mx then some (.s ((l.take b).drop a)) else none
      | _, _ => none
    | _ => none
  | .sl id off len cap => match sliceK P t with
    | some e => match tyK P e with
      | some (_, k) => match bndA cap mx, bndA len hi, bndA 0 lo with
        | some m, some b, some a => bif Nat.ble a b && Nat.ble b m && Nat.ble m cap && (isN mx || !isN hi) then some (.sl id (bif Nat.beq m a then off else off + a * k) (b - a) (m - a)) else none
        | _, _, _ => none
      | none => none
    | none => none
  | .sn => match sliceK P t with
    | some e => match tyK P e with
      | some (_, k) => match bndA 0 mx, bndA 0 hi, bndA 0 lo with
        | some 0, some 0, some 0 => bif isN mx || !isN hi then some .sn else none
        | _, _, _ => none
      | none => none
    | none => none
  | .so id a0 off len => match sliceK P t with
    | some e => match tyK P e with
      | some (_, k) => match h.get id with
        | some (.c _ k' cs) =>
          let K := cs.length / k - a0
          match bndA len hi, bndA 0 lo with
          | some b, some a => match mx with
            | none => bif Nat.beq k k' && !Nat.beq k 0 && Nat.ble a b && Nat.ble b K then
                (bif Nat.beq a K then some .sz else some (.so id (a0 + a) (off + a * k) (b - a))) else none
            | some z => match natOf z with
              | some m => bif Nat.beq k k' && !Nat.beq k 0 && Nat.ble a b && Nat.ble b m && Nat.ble m K && !isN hi then some (.sl id (bif Nat.beq m a then off else off + a * k) (b - a) (m - a)) else none
              | none => none
          | _, _ => none
        | _ => none
      | none => none
    | none => none
  | _ => none

theorem isN_t {α : Type} {x : Option α} (h : isN x = true) : x = none := by cases x <;> simp_all [isN]
theorem isN_f {α : Type} {x : Option α} (h : isN x = false) : x ≠ none := by cases x <;> simp_all [isN]
theorem run_sliceT {P : Program} {t t' : TypeId} {bb : Bool} {k : Nat} (ht : sliceK P t = some t') (hk : tyK P t' = some (bb, k)) {ao : Option Addr} {len cap : Nat} {lo hi mx : Option Value} {a b m : Nat} {w : World}
    (hb : (Instr.sliceBounds true len cap lo hi mx).run P w = .ok (a, b, m) w) : (Instr.sliceAt t (.slice ao len cap) lo hi mx).run P w = .ok (.slice (if m = a then ao else ao.map (·.add (a * k))) (b - a) (m - a)) w := by
  have hu := sliceK_und ht
  simp [Instr.sliceAt, Instr.slice, run_underlying hu, hb, tyK_size hk]
theorem sliceA_ok {P : Program} {h : Tr Blk} {t : TypeId} {x r : AV} {lo hi mx : Option AV} {V : Vl} {v : Value} {lo' hi' mx' : Option Value} (hs : sliceA P h t x lo hi mx = some r) (hkn : KN V h)
    (hv : VR V x v) (h1 : OR V lo lo') (h2 : OR V hi hi') (h3 : OR V mx mx') : ∃ z, VR V r z ∧ ∀ w, (Instr.sliceAt t v lo' hi' mx').run P w = .ok z w := by
  unfold sliceA at hs
  split at hs
  · -- a text
    rename_i l
    split at hs
    · rename_i hund
      split at hs
      · rename_i b a hb ha
        obtain ⟨hc, rfl⟩ := bif_some hs
        simp only [Bool.and_eq_true, Nat.ble_eq] at hc
        obtain ⟨⟨c1, c2⟩, c3⟩ := hc
        obtain rfl := isN_t c3
        cases mx' with
        | some _ => exact h3.elim
        | none =>
        simp only [VR] at hv
        subst hv
        refine ⟨_, (by simp only [VR]; rfl), fun w => ?_⟩
        have e1 : (ByteArray.mk l.toArray).size = l.length := by simp [ByteArray.size]
        have hbd := run_boundsA (P := P) (isS := false) (len := l.length) (cap := l.length) h1 h2 h3 ha hb rfl (.inl rfl) c1 c2 (Nat.le_refl _) w
        have hx : (ByteArray.mk l.toArray).extract a b = ⟨((l.take b).drop a).toArray⟩ := by
          apply ByteArray.ext
          simp [ByteArray.data_extract, List.extract_eq_take_drop, List.drop_take]
        simp only [Instr.sliceAt, Instr.slice, Sem.run_bind, run_underlying hund, Result.andThen_ok, e1]
        simp [run_underlying hund, hbd, hx]
      · cases hs
    · cases hs
  · -- known room
    rename_i id off len cap
    split at hs
    · rename_i e he
      split at hs
      · rename_i bb k hk
        split at hs
        · rename_i m b a hm hb ha
          obtain ⟨hc, rfl⟩ := bif_some hs
          simp only [Bool.and_eq_true, Nat.ble_eq] at hc
          obtain ⟨⟨⟨c1, c2⟩, c3⟩, c4⟩ := hc
          have c5 : mx = none ∨ hi ≠ none := by
            cases h9 : isN mx
            · exact .inr (isN_f (by simpa [h9] using c4))
            · exact .inl (isN_t h9)
          simp only [VR] at hv
          obtain ⟨bl, hbl, rfl⟩ := hv
          have hbd := fun w => run_boundsA (P := P) (isS := true) h1 h2 h3 ha hb hm c5 c1 c2 c3 w
          refine ⟨_, ?_, fun w => run_sliceT he hk (hbd w)⟩
          simp only [VR, nbeq]
          refine ⟨bl, hbl, ?_⟩
          by_cases e : m = a <;> simp [e, Addr.add_lit]
        · cases hs
      · cases hs
    · cases hs
  · -- nil
    split at hs
    · rename_i e he
      split at hs
      · rename_i bb k hk
        split at hs
        · rename_i hm hb ha
          obtain ⟨c4, rfl⟩ := bif_some hs
          have c5 : mx = none ∨ hi ≠ none := by
            cases h9 : isN mx
            · exact .inr (isN_f (by simpa [h9] using c4))
            · exact .inl (isN_t h9)
          simp only [VR] at hv
          subst hv
          have hbd := fun w => run_boundsA (P := P) (isS := true) h1 h2 h3 ha hb hm c5 (Nat.le_refl _) (Nat.le_refl _) (Nat.le_refl _) w
          exact ⟨_, (by simp only [VR]; simp), fun w => run_sliceT he hk (hbd w)⟩
        · cases hs
      · cases hs
    · cases hs
  · -- a block of ours
    rename_i id a0 off len
    split at hs
    · rename_i e he
      split at hs
      · rename_i bb k hk
        split at hs
        · rename_i t' k' cs hg
          split at hs
          · rename_i b a hb ha
            simp only [VR] at hv
            obtain ⟨bl, hbl, hlen, rfl⟩ := hv
            have room : k = k' → k ≠ 0 → cs.length / k ≤ V.κ id := fun e1 e2 => by
              subst e1
              have := hkn id t' k cs hg (by omega)
              exact Nat.div_le_of_le_mul (by rw [Nat.mul_comm]; exact this)
            split at hs
            · -- two bounds
              rename_i hmx
              obtain ⟨hc, h9⟩ : _ ∧ _ := by
                cases hcc : (Nat.beq k k' && !Nat.beq k 0 && Nat.ble a b && Nat.ble b (cs.length / k - a0))
                · simp [hcc] at hs
                · simp only [hcc, cond_true] at hs; exact ⟨hcc, hs⟩
              simp only [Bool.and_eq_true, Bool.not_eq_true', Nat.ble_eq, nbeq, decide_eq_true_eq, decide_eq_false_iff_not] at hc
              obtain ⟨⟨⟨c1, c2⟩, c3⟩, c4⟩ := hc
              have hr := room c1 c2
              cases mx' with
              | some _ => exact h3.elim
              | none =>
              have hbd := fun w => run_boundsA (P := P) (isS := true) (len := len) (cap := V.κ id - a0) h1 h2 h3 ha hb rfl (.inl rfl) c3 (by omega) (Nat.le_refl _) w
              simp only [nbeq] at h9
              by_cases e1 : a = cs.length / k - a0
              · simp only [e1, decide_true, cond_true, Option.some.injEq] at h9
                subst h9
                refine ⟨_, ?_, fun w => run_sliceT he hk (hbd w)⟩
                have : b - a = 0 := by omega
                simp only [VR, this]
                by_cases e2 : V.κ id - a0 = a
                · exact ⟨⟨bl, off, none⟩, V.κ id - a0 - a, by simp [e2]⟩
                · exact ⟨(⟨bl, off, none⟩ : Addr).add (a * k), V.κ id - a0 - a, by simp only [e2, if_false, Option.map_some]⟩
              · simp only [e1, decide_false, cond_false, Option.some.injEq] at h9
                subst h9
                refine ⟨_, ?_, fun w => run_sliceT he hk (hbd w)⟩
                have e2 : ¬ V.κ id - a0 = a := by omega
                simp only [VR]
                exact ⟨bl, hbl, by omega, by simp [e2, Addr.add_lit, Nat.sub_sub]⟩
            · -- three
              rename_i z
              split at hs
              · rename_i m hm
                obtain ⟨hc, rfl⟩ := bif_some hs
                simp only [Bool.and_eq_true, Bool.not_eq_true', Nat.ble_eq, nbeq, decide_eq_true_eq, decide_eq_false_iff_not] at hc
                obtain ⟨⟨⟨⟨⟨c1, c2⟩, c3⟩, c4⟩, c5⟩, c6⟩ := hc
                have hr := room c1 c2
                have hbd := fun w => run_boundsA (P := P) (isS := true) (len := len) (cap := V.κ id - a0) (mx := some z) h1 h2 h3 ha hb hm (.inr (isN_f c6)) c3 c4 (by omega) w
                refine ⟨_, ?_, fun w => run_sliceT he hk (hbd w)⟩
                simp only [VR, nbeq]
                refine ⟨bl, hbl, ?_⟩
                by_cases e : m = a <;> simp [e, Addr.add_lit]
              · cases hs
          · cases hs
        · cases hs
      · cases hs
    · cases hs
  · cases hs

/-! ### Structs -/
def setA : List AV → Nat → List AV → List AV
  | l, _, [] => l
  | [], _, _ => []
  | x :: l, o + 1, vs => x :: setA l o vs
  | _ :: l, 0, v :: vs => v :: setA l 0 vs
theorem setA_ok {V : Vl} : ∀ {l : List AV} {o : Nat} {xs : List AV} {vs ws : List Value}, VRs V l vs → VRs V xs ws → VRs V (setA l o xs) (setAt vs o ws)
  | l, o, [], vs, ws, h, k => by
    simp only [VRs] at k; subst k
    have : setA l o [] = l := by cases l <;> cases o <;> rfl
    have : setAt vs o [] = vs := by cases vs <;> cases o <;> rfl
    simp_all
  | [], o, x :: xs, vs, ws, h, k => by
    simp only [VRs] at h k; subst h
    obtain ⟨v, t, _, _, rfl⟩ := k
    cases o <;> simpa [setA, setAt] using VRs.nil
  | y :: l, o + 1, x :: xs, vs, ws, h, k => by
    have k' := k
    simp only [VRs] at h k'
    obtain ⟨v, t, h1, h2, rfl⟩ := h
    obtain ⟨v', t', k1, k2, rfl⟩ := k'
    simp only [setA, setAt]
    exact VRs.cons h1 (setA_ok h2 k)
  | y :: l, 0, x :: xs, vs, ws, h, k => by
    simp only [VRs] at h k
    obtain ⟨v, t, h1, h2, rfl⟩ := h
    obtain ⟨v', t', k1, k2, rfl⟩ := k
    simp only [setA, setAt]
    exact VRs.cons k1 (setA_ok h2 k2)
theorem setA_len : ∀ (l : List AV) (o : Nat) (xs : List AV), o + xs.length ≤ l.length → (setA l o xs).length = l.length
  | l, o, [], _ => by cases l <;> cases o <;> simp [setA]
  | [], o, x :: xs, h => by simp at h
  | y :: l, o + 1, x :: xs, h => by simp only [setA, List.length_cons]; rw [setA_len l o (x :: xs) (by simp at h ⊢; omega)]
  | y :: l, 0, x :: xs, h => by simp only [setA, List.length_cons]; rw [setA_len l 0 xs (by simp at h ⊢; omega)]
def fillA (pl : List (Nat × Nat)) (n : Nat) : List AV → List (Nat × AV) → Option (List AV)
  | L, [] => some L
  | L, (i, x) :: r => match pl[i]? with
    | some (o, k) => match x.cells with
      | some cs => bif Nat.beq cs.length k && Nat.ble (o + k) n then fillA pl n (setA L o cs) r else none
      | none => none
    | none => none
def evPs (f : Tr AV) : List (Nat × Operand) → List (Nat × AV)
  | [] => []
  | (i, x) :: l => (i, evA f x) :: evPs f l
theorem fillA_ok {V : Vl} {n : Nat} {f : Tr AV} {a : Act} (hf : FA V n f a) {pl : List (Nat × Nat)} {nz : Nat} : ∀ {ps : List (Nat × Operand)} {L r : List AV} {vs : List Value}, fillA pl nz L (evPs f ps) = some r → VRs V L vs →
    fillB pl nz (ps.map fun p => (p.1, (a.eval p.2).cells.toList)) = true ∧ VRs V r (fillL pl vs (ps.map fun p => (p.1, (a.eval p.2).cells.toList)))
  | [], L, r, vs, h, hv => by simp only [evPs, fillA, Option.some.injEq] at h; subst h; exact ⟨rfl, hv⟩
  | (i, x) :: ps, L, r, vs, h, hv => by
    simp only [evPs, fillA] at h
    cases hp : pl[i]? with
    | none => simp [hp] at h
    | some p =>
      obtain ⟨o, k⟩ := p
      simp only [hp] at h
      cases hc : (evA f x).cells with
      | none => simp [hc] at h
      | some cs =>
        simp only [hc] at h
        cases hb : Nat.beq cs.length k && Nat.ble (o + k) nz
        · simp [hb] at h
        · simp only [hb, cond_true] at h
          have hcs := (hf.eval x).cells hc
          have hlen := hcs.len
          obtain ⟨h1, h2⟩ := fillA_ok hf h (setA_ok (o := o) hv hcs)
          simp only [List.map_cons, fillB, fillL, hp, Bool.and_eq_true]
          rw [hlen]
          simp only [Bool.and_eq_true] at hb
          exact ⟨⟨hb, h1⟩, h2⟩
def buildA (P : Program) (t : TypeId) (ps : List (Nat × AV)) : Option AV :=
  match placesK P t with
  | some pl => match zeroK P t with
    | some z => (fillA pl z.length (ofVs z) ps).map .agg
    | none => none
  | none => none
theorem ofVs_len : ∀ l : List Value, (ofVs l).length = l.length
  | [] => rfl
  | _ :: l => by simp [ofVs, ofVs_len l]
theorem buildA_ok {P : Program} {V : Vl} {n : Nat} {f : Tr AV} {a : Act} (hf : FA V n f a) {t : TypeId} {ps : Array (Nat × Operand)} {r : AV} (h : buildA P t (evPs f ps.toList) = some r) (o : Oper) (ho : o.op = .build t ps) :
    ∃ z, VR V r z ∧ ∀ w, (execOp a.eval o).run P w = .ok (.value z) w := by
  unfold buildA at h
  split at h
  · rename_i pl hpl
    split at h
    · rename_i z hz
      rw [Option.map_eq_some_iff] at h
      obtain ⟨L, h, rfl⟩ := h
      obtain ⟨h1, h2⟩ := fillA_ok hf h (ofVs_ok V z)
      refine ⟨.agg (fillL pl z (ps.toList.map fun p => (p.1, (a.eval p.2).cells.toList))).toArray, ?_, fun w => ?_⟩
      · simp only [VR]; exact ⟨_, h2, rfl⟩
      · have h3 := ok_use (P := P) (w := w) (f := fun t => a.tmps.getD t undef) (o := ⟨some 0, .build t ps.toList.toArray, o.type, o.pos, o.after, none⟩) (fun own n => ok_build (E := ⟨P, n, w, own, fun _ => none⟩) hpl hz rfl (by rw [ev_tmps]; exact h1) rfl)
        rw [ev_tmps] at h3
        simp only [Array.toArray_toList] at h3
        have e : execOp a.eval o = execOp a.eval ⟨some 0, .build t ps, o.type, o.pos, o.after, none⟩ := by unfold execOp; simp only [ho]
        rw [e]
        exact h3
    · cases h
  · cases h
/-- A value of so many cells. -/
def mkA : Bool → List AV → Option AV
  | true, l => some (.agg l)
  | false, [x] => some x
  | false, _ => none
theorem mkA_ok {V : Vl} {b : Bool} {l : List AV} {r : AV} {vs : List Value} (h : mkA b l = some r) (hv : VRs V l vs) : VR V r (mkV b vs) ∧ (b = false → vs.length = 1) := by
  cases b
  · match l, h with
    | [x], h =>
      simp only [mkA, Option.some.injEq] at h
      subst h
      obtain ⟨v, h1, rfl⟩ := hv.one
      exact ⟨by simpa [mkV] using h1, fun _ => rfl⟩
  · simp only [mkA, Option.some.injEq] at h
    subst h
    exact ⟨by simp only [mkV, VR]; exact ⟨vs, hv, rfl⟩, fun h => nomatch h⟩
end Go.Fw
