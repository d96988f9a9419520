/- The evaluator: one operation, a list of operations, calls, code. Nothing of the program is named here. No condition. -/
import Derived.Test.YtipdjeemjiimbaaEg
import Derived.Defers
set_option linter.unusedVariables false
set_option linter.unusedSimpArgs false
set_option linter.unnecessarySimpa false
namespace Go.Fw
open Go Go.RowKit

/-! ## Operations on memory, all together -/
def isNone' : Option Operand → Bool
  | none => true
  | some _ => false
def memA (P : Program) (s : St) (nm : Option Nat) (f : Tr AV) (op : Op) (ty : TypeId) : Option (AV × St) :=
  match op with
  | .load t x => match loadA P s.h t (evA f x) with
    | some v => some (v, s)
    | none => none
  | .store t x y => match storeA P s t (evA f x) (evA f y) with
    | some s' => some (.und, s')
    | none => none
  | .alloc t => allocA P s nm t
  | .box t x => boxA s nm t (evA f x)
  | .buildSlice t len ps => buildSliceA P s nm t len (evPs f ps.toList)
  | .makeSlice t x y => makeSliceA P s nm t (evA f x) (evA f y)
  | .makeMap t none => makeMapA P s nm
  | .lookup t x k ok => match lookupA P s.h t (evA f x) (evA f k) ok with
    | some v => some (v, s)
    | none => none
  | .mapUpdate t x k y => match mapUpdA P s t (evA f x) (evA f k) (evA f y) with
    | some s' => some (.und, s')
    | none => none
  | .call c => match c.callee with
    | .builtin .append => match c.args.toList with
      | [x, y] => match c.argTypes.toList with
        | [t, t'] => bif Nat.beq t t' then appA P s nm t (evA f x) (evA f y) else appZA P s nm t t' (evA f x) (evA f y)
        | _ => none
      | _ => none
    | .builtin .copy => match c.args.toList with
      | [x, y] => match c.argTypes.toList with
        | [t, _] => copyA P s t (evA f x) (evA f y)
        | _ => none
      | _ => none
    | .builtin .clear => match c.args.toList with
      | [x] => match c.argTypes.toList with
        | [t] => clearA P s t (evA f x)
        | _ => none
      | _ => none
    | .builtin .delete => match c.args.toList with
      | [x, y] => match c.argTypes.toList with
        | [t, _] => match deleteA P s t (evA f x) (evA f y) with
          | some s' => some (.tup [], s')
          | none => none
        | _ => none
      | _ => none
    | .builtin .len => match c.args.toList with
      | [x] => match c.argTypes.toList with
        | [t] => match lenA P t (evA f x) with
          | some n => some (.i .i64 (.ofNat n), s)
          | none => match lenMA P s.h t (evA f x) with
            | some v => some (v, s)
            | none => none
        | _ => none
      | _ => none
    | _ => match pureA P s.h f op ty with
      | some v => some (v, s)
      | none => none
  | _ => match pureA P s.h f op ty with
    | some v => some (v, s)
    | none => none

/-- What an operation that is no call does. -/
structure Step (P : Program) (w0 : World) (V : Vl) (s : St) (nm : Option Nat) (a : Act) (o : Oper) (w : World) (r : AV) (s' : St) : Prop where
  ex : ∃ V' z w' nx, Vx V V' s.n nm ∧ VR V' r z ∧ (execOp a.eval o).run P w = .ok nx w' ∧ (nx = .value z ∨ (nx = .skip ∧ z = undef)) ∧ Sim w0 V' s' w' ∧ s.n ≤ s'.n

section
variable {P : Program} {w0 w : World} {V : Vl} {s : St}
theorem toList2 {α : Type} {a : Array α} {x y : α} (h : a.toList = [x, y]) : a = #[x, y] := by apply Array.toList_inj.1; simpa using h
theorem toList1 {α : Type} {a : Array α} {x : α} (h : a.toList = [x]) : a = #[x] := by apply Array.toList_inj.1; simpa using h
theorem memA_ok {nm : Option Nat} {n : Nat} {f : Tr AV} {a : Act} {o : Oper} {r : AV} {s' : St} (h : memA P s nm f o.op o.type = some (r, s')) (hs : Sim w0 V s w) (hn : ∀ p, nm = some p → V.ρ p = none) (hf : FA V n f a) :
    Step P w0 V s nm a o w r s' := by
  have pure' : ∀ {op : Op}, o.op = op → (match pureA P s.h f o.op o.type with | some v => some (v, s) | none => none) = some (r, s') → Step P w0 V s nm a o w r s' := by
    intro op _ h
    split at h
    · rename_i v hp
      cases h
      obtain ⟨z, h1, h2⟩ := pureA_ok hp hf hs.kn
      exact ⟨V, z, w, _, Vx.rfl, h1, h2 w, .inl rfl, hs, Nat.le_refl _⟩
    · cases h
  unfold memA at h
  split at h
  · rename_i t x ho
    split at h
    · rename_i v hl
      cases h
      obtain ⟨id, b, off, vs, z, _, h2, h3, h4, h5⟩ := loadA_ok (P := P) hl hs (hf.eval x)
      exact ⟨V, z, w, .value z, Vx.rfl, h4, by simp [execOp, ho, h5 w h3], .inl rfl, hs, Nat.le_refl _⟩
    · cases h
  · rename_i t x y ho
    split at h
    · rename_i s1 hl
      cases h
      obtain ⟨w', h1, h2, h3⟩ := storeA_ok (P := P) hl hs (hf.eval x) (hf.eval y)
      exact ⟨V, undef, w', .skip, Vx.rfl, by simp only [VR], by simp [execOp, ho, h1], .inr ⟨rfl, rfl⟩, h2, by omega⟩
    · cases h
  · rename_i t ho
    obtain ⟨V', z, w', h1, h2, h3, h4, h5⟩ := allocA_ok (P := P) h hs hn
    exact ⟨V', z, w', .value z, h1, h2, by simp [execOp, ho, h3], .inl rfl, h4, h5⟩
  · rename_i t x ho
    obtain ⟨V', z, w', h1, h2, h3, h4, h5⟩ := boxA_ok (P := P) h hs hn (hf.eval x)
    exact ⟨V', z, w', .value z, h1, h2, by simp [execOp, ho, h3], .inl rfl, h4, h5⟩
  · rename_i t len ps ho
    obtain ⟨V', z, w', h1, h2, h3, h4, h5⟩ := buildSliceA_ok (P := P) hf h hs hn
    exact ⟨V', z, w', .value z, h1, h2, by simp only [execOp, ho]; simp only [Sem.run_bind]; rw [h3]; rfl, .inl rfl, h4, h5⟩
  · rename_i t x y ho
    obtain ⟨V', z, w', h1, h2, h3, h4, h5⟩ := makeSliceA_ok (P := P) h hs hn (hf.eval x) (hf.eval y)
    exact ⟨V', z, w', .value z, h1, h2, by simp [execOp, ho, h3], .inl rfl, h4, h5⟩
  · rename_i t ho
    obtain ⟨V', z, w', h1, h2, h3, h4, h5⟩ := makeMapA_ok (P := P) (t := t) h hs hn
    exact ⟨V', z, w', .value z, h1, h2, by simp [execOp, ho, h3], .inl rfl, h4, h5⟩
  · rename_i t x k ok ho
    split at h
    · rename_i v hl
      cases h
      obtain ⟨z, h1, h2⟩ := lookupA_ok (P := P) hl hs (hf.eval x) (hf.eval k)
      exact ⟨V, z, w, .value z, Vx.rfl, h1, by simp [execOp, ho, h2], .inl rfl, hs, Nat.le_refl _⟩
    · cases h
  · rename_i t x k y ho
    split at h
    · rename_i s1 hl
      cases h
      obtain ⟨w', h1, h2, h3⟩ := mapUpdA_ok (P := P) hl hs (hf.eval x) (hf.eval k) (hf.eval y)
      exact ⟨V, undef, w', .skip, Vx.rfl, by simp only [VR], by simp [execOp, ho, h1], .inr ⟨rfl, rfl⟩, h2, by omega⟩
    · cases h
  · rename_i c ho
    split at h
    · rename_i hc
      split at h
      · rename_i x y hx
        split at h
        · rename_i t t' ht
          cases hb : Nat.beq t t'
          · simp only [hb, cond_false] at h
            obtain ⟨V', z, w', h1, h2, h3, h4, h5⟩ := appZA_ok (P := P) (ty := o.type) h hs hn (hf.eval x) (hf.eval y)
            exact ⟨V', z, w', .value z, h1, h2, by simp [execOp, ho, resolve, hc, toList2 hx, toList2 ht, invoke, builtin, h3], .inl rfl, h4, h5⟩
          · simp only [hb, cond_true] at h
            have hb := Nat.eq_of_beq_eq_true hb
            subst hb
            obtain ⟨V', z, w', h1, h2, h3, h4, h5⟩ := appA_ok (P := P) (ty := o.type) h hs hn (hf.eval x) (hf.eval y)
            exact ⟨V', z, w', .value z, h1, h2, by simp [execOp, ho, resolve, hc, toList2 hx, toList2 ht, invoke, builtin, h3], .inl rfl, h4, h5⟩
        · cases h
      · cases h
    · rename_i hc
      split at h
      · rename_i x y hx
        split at h
        · rename_i t t' ht
          obtain ⟨z, w', h2, h3, h4, h5⟩ := copyA_ok (P := P) (t' := t') (ty := o.type) h hs (hf.eval x) (hf.eval y)
          exact ⟨V, z, w', .value z, Vx.rfl, h2, by simp [execOp, ho, resolve, hc, toList2 hx, toList2 ht, invoke, builtin, h3], .inl rfl, h4, by omega⟩
        · cases h
      · cases h
    · rename_i hc
      split at h
      · rename_i x hx
        split at h
        · rename_i t ht
          obtain ⟨z, w', h2, h3, h4, h5⟩ := clearA_ok (P := P) (ty := o.type) h hs (hf.eval x)
          exact ⟨V, z, w', .value z, Vx.rfl, h2, by simp [execOp, ho, resolve, hc, toList1 hx, toList1 ht, invoke, builtin, h3], .inl rfl, h4, by omega⟩
        · cases h
      · cases h
    · rename_i hc
      split at h
      · rename_i x y hx
        split at h
        · rename_i t t' ht
          split at h
          · rename_i s1 hd
            cases h
            obtain ⟨w', h3, h4, h5⟩ := deleteA_ok (P := P) (t' := t') (ty := o.type) hd hs (hf.eval x) (hf.eval y)
            exact ⟨V, .tuple #[], w', .value (.tuple #[]), Vx.rfl, by simp only [VR]; exact ⟨[], VRs.nil, rfl⟩, by simp [execOp, ho, resolve, hc, toList2 hx, toList2 ht, invoke, builtin, h3], .inl rfl, h4, by omega⟩
          · cases h
        · cases h
      · cases h
    · rename_i hc
      split at h
      · rename_i x hx
        split at h
        · rename_i t ht
          split at h
          · rename_i n hl
            cases h
            have h3 := lenA_ok (ty := o.type) hl (hf.eval x) w
            exact ⟨V, .int .i64 (Int.ofNat n), w, .value (.int .i64 (Int.ofNat n)), Vx.rfl, by simp only [VR], by simp only [execOp, ho, resolve, hc, toList1 hx, toList1 ht, invoke, builtin, Sem.run_bind, Sem.run_pure, Result.andThen_ok]; simp only [List.map_toArray, List.map_cons, List.map_nil]; rw [h3]; rfl, .inl rfl, hs, Nat.le_refl _⟩
          · split at h
            · rename_i v hl
              cases h
              obtain ⟨z, h2, h3⟩ := lenMA_ok (P := P) (ty := o.type) hl hs (hf.eval x)
              exact ⟨V, z, w, .value z, Vx.rfl, h2, by simp [execOp, ho, resolve, hc, toList1 hx, toList1 ht, invoke, builtin, h3], .inl rfl, hs, Nat.le_refl _⟩
            · cases h
        · cases h
      · cases h
    · exact pure' rfl (by rw [ho] at h ⊢; exact h)
  · exact pure' rfl h

/-! ## Guards -/
def wantedA (arr : Array Oper) (f : Tr AV) (o : Oper) : Option Bool :=
  match o.guard with
  | none => some true
  | some (j, want) => match arr[j]? with
    | some oj => match oj.dst with
      | some dj => match (f.get dj).getD .und with
        | .b x => some (x == want)
        | .und => some false
        | _ => none
      | none => none
    | none => none
theorem wantedA_ok {arr : Array Oper} {n : Nat} {f : Tr AV} {a : Act} {o : Oper} {b : Bool} (h : wantedA arr f o = some b) (hf : FA V n f a) : Region.wanted o (yielded arr a.tmps) = b := by
  unfold wantedA at h
  split at h
  · rename_i hg
    cases h
    simp [Region.wanted, hg]
  · rename_i j want hg
    split at h
    · rename_i oj hj
      split at h
      · rename_i dj hd
        have hv := hf.get dj
        have hy : yielded arr a.tmps j = match a.tmps[dj]? with | some (.bool b) => some b | _ => none := by
          simp [yielded, hj, hd]; rfl
        rw [Array.getD_eq_getD_getElem?] at hv
        split at h
        · rename_i x hx
          cases h
          rw [hx] at hv
          simp only [VR] at hv
          cases ht : a.tmps[dj]? with
          | none => rw [ht] at hv; cases hv
          | some v =>
            rw [ht] at hv
            simp only [Option.getD_some] at hv
            subst hv
            rw [ht] at hy
            simp only [Region.wanted, hg, hy]
            cases x <;> cases want <;> rfl
        · rename_i hx
          cases h
          rw [hx] at hv
          simp only [VR] at hv
          cases ht : a.tmps[dj]? with
          | none => rw [ht] at hy; simp [Region.wanted, hg, hy]
          | some v =>
            rw [ht] at hv
            simp only [Option.getD_some] at hv
            subst hv
            rw [ht] at hy
            simp only [Region.wanted, hg, hy]
            rfl
        · cases h
      · cases h
    · cases h

/-! ## What a call enters -/
/-- The function that a method's name means at a type, and its receiver. -/
def methA (P : Program) (h : Tr Blk) (t : TypeId) (name : String) (v : AV) : Option (FuncId × AV) :=
  match P.info? t with
  | some info => match info.methods.find? (·.name == name) with
    | some m => bif m.path.isEmpty then (match m.func with
      | some (g, ptr) => match P.underlying t with
        | some (.pointer e) => bif ptr then some (g, v) else (match v with
          | .p id off => match loadA P h e (.p id off) with
            | some r => some (g, r)
            | none => none
          | _ => none)
        | some _ => bif ptr then none else some (g, v)
        | none => none
      | none => none) else none
    | none => none
  | none => none
theorem methA_ok {t : TypeId} {name : String} {g : FuncId} {v r : AV} {y : Value} (h : methA P s.h t name v = some (g, r)) (hs : Sim w0 V s w) (hv : VR V v y) (m : Nat) : ∃ z, VR V r z ∧ (method (m + 1) t y name).run P w = .ok (g, z) w := by
  unfold methA at h
  split at h
  · rename_i info hi
    split at h
    · rename_i me hm
      cases hp : me.path.isEmpty
      · simp [hp] at h
      simp only [hp, cond_true] at h
      have hpath : me.path.toList = [] := by simpa using hp
      split at h
      · rename_i g' ptr hfu
        split at h
        · rename_i e hu
          cases ptr
          · simp only [cond_false] at h
            split at h
            · rename_i id off
              split at h
              · rename_i r' hl
                cases h
                obtain ⟨id', b, off', vs, z, k1, rfl, k3, k4, k5⟩ := loadA_ok (P := P) hl hs hv
                have k6 := k5 w k3
                simp only [Instr.loadAt, Instr.sureAddr, Sem.run_bind, Sem.run_pure, Result.andThen_ok] at k6
                refine ⟨z, k4, ?_⟩
                have hwr : ∀ (ad : Addr) (p q : String), Builtin.ssaWrapNilChk_ #[t] t #[.pointer (some ad), strVal p, strVal q] = pure (.pointer (some ad)) := fun _ _ _ => rfl
                simp [method, typeInfo, hi, hm, hpath, hp, follow, hfu, receiverAt, run_underlying hu, Place.get, hwr, asAddr, k6]
                split <;> simp [k6]
              · cases h
            · cases h
          · cases h
            exact ⟨y, hv, by simp [method, typeInfo, hi, hm, hpath, follow, hfu, receiverAt, run_underlying hu, Place.get]⟩
        · rename_i d hd hu
          cases ptr
          · cases h
            refine ⟨y, hv, ?_⟩
            simp only [method, typeInfo, Sem.run_bind, run_program, hi, Result.andThen_ok, Sem.run_pure, hm, hpath, follow, hfu, receiverAt, run_underlying hu]
            cases d <;> first | exact absurd rfl (hd _) | simp [Place.get]
          · cases h
        · cases h
      · cases h
    · cases h
  · cases h
def calleeA (P : Program) (h : Tr Blk) (f : Tr AV) (op : Op) : Option (FuncId × List AV) :=
  match op with
  | .call c => match c.callee with
    | .value x => match evA f x with
      | .fn (.func g) first caps => some (g, first ++ (evAs f c.args.toList ++ caps))
      | .fn (.method name) (.ic t v :: first) [] => match methA P h t name v with
        | some (g, r) => some (g, r :: (first ++ evAs f c.args.toList))
        | none => none
      | _ => none
    | .invoke r name => match evA f r with
      | .ic t v => match methA P h t name v with
        | some (g, r) => some (g, r :: evAs f c.args.toList)
        | none => none
      | _ => none
    | .builtin _ => none
  | _ => none
theorem calleeA_ok {n : Nat} {f : Tr AV} {a : Act} {o : Oper} {g : FuncId} {args : List AV} (h : calleeA P s.h f o.op = some (g, args)) (hs : Sim w0 V s w) (hf : FA V n f a) (hc : Callable P g) :
    ∃ vs, VRs V args vs ∧ (execOp a.eval o).run P w = .ok (.enter g vs.toArray) w := by
  unfold calleeA at h
  split at h
  · rename_i c ho
    have hargs := hf.evals c.args.toList
    have hae : c.args.map a.eval = (c.args.toList.map a.eval).toArray := by apply Array.toList_inj.1; simp
    split at h
    · rename_i x hcl
      have hx := hf.eval x
      split at h
      · rename_i g' first caps hfn
        cases h
        rw [hfn] at hx
        simp only [VR] at hx
        obtain ⟨vs, ws, h1, h2, h3⟩ := hx
        refine ⟨vs ++ (c.args.toList.map a.eval ++ ws), h1.append (hargs.append h2), ?_⟩
        have h4 := hc (vs.toArray ++ c.args.map a.eval ++ ws.toArray) w
        have e : vs.toArray ++ c.args.map a.eval ++ ws.toArray = (vs ++ (c.args.toList.map a.eval ++ ws)).toArray := by rw [hae]; simp
        rw [e] at h4
        simp only [execOp, ho, resolve, hcl, h3, Deferred.ofValue, Sem.run_bind, Sem.run_pure, Result.andThen_ok, invoke]
        rw [e]
        exact h4
      · rename_i name t v first hfn
        split at h
        · rename_i g' r hm
          cases h
          rw [hfn] at hx
          simp only [VR, VRs] at hx
          obtain ⟨vs, ws, ⟨_, t', ⟨y, h1, rfl⟩, h2, rfl⟩, rfl, h3⟩ := hx
          obtain ⟨z, hz, h5⟩ := methA_ok (P := P) hm hs h1 (P.types.size + Made.depth - 1)
          refine ⟨z :: (t' ++ c.args.toList.map a.eval), VRs.cons hz (h2.append hargs), ?_⟩
          have h4 := hc (#[z] ++ (t' ++ c.args.toList.map a.eval).toArray) w
          have e : (((.iface t y :: t').toArray ++ c.args.map a.eval : Array Value)) = (.iface t y :: (t' ++ c.args.toList.map a.eval)).toArray := by rw [hae]; simp
          simp only [execOp, ho, resolve, hcl, h3, Deferred.ofValue, Sem.run_bind, Sem.run_pure, Result.andThen_ok, invoke]
          rw [e]
          simp only [List.getElem?_toArray, List.getElem?_cons_zero, List.size_toArray, List.length_cons, callMethod, Sem.run_bind, run_program, Result.andThen_ok]
          rw [show P.types.size + Made.depth = (P.types.size + Made.depth - 1) + 1 from by simp [Made.depth]]
          rw [h5]
          simp only [Result.andThen_ok]
          have e2 : #[z] ++ Array.extract (.iface t y :: (t' ++ c.args.toList.map a.eval)).toArray 1 ((t' ++ c.args.toList.map a.eval).length + 1) = #[z] ++ (t' ++ c.args.toList.map a.eval).toArray := by
            apply Array.toList_inj.1; simp
            exact List.take_of_length_le (by simp)
          rw [e2, h4]
          simp
        · cases h
      · cases h
    · rename_i r name hcl
      have hx := hf.eval r
      split at h
      · rename_i t v hfn
        split at h
        · rename_i g' r hm
          cases h
          rw [hfn] at hx
          simp only [VR] at hx
          obtain ⟨y, h1, h3⟩ := hx
          obtain ⟨z, hz, h5⟩ := methA_ok (P := P) hm hs h1 (P.types.size + Made.depth - 1)
          refine ⟨z :: c.args.toList.map a.eval, VRs.cons hz hargs, ?_⟩
          have h4 := hc (#[z] ++ (c.args.toList.map a.eval).toArray) w
          have e : ((#[.iface t y] ++ c.args.map a.eval : Array Value)) = (.iface t y :: c.args.toList.map a.eval).toArray := by rw [hae]; simp
          simp only [execOp, ho, resolve, hcl, h3, Sem.run_bind, Sem.run_pure, Result.andThen_ok, invoke]
          rw [e]
          simp only [List.getElem?_toArray, List.getElem?_cons_zero, List.size_toArray, List.length_cons, callMethod, Sem.run_bind, run_program, Result.andThen_ok]
          rw [show P.types.size + Made.depth = (P.types.size + Made.depth - 1) + 1 from by simp [Made.depth]]
          rw [h5]
          simp only [Result.andThen_ok]
          have e2 : #[z] ++ Array.extract (.iface t y :: c.args.toList.map a.eval).toArray 1 ((c.args.toList.map a.eval).length + 1) = #[z] ++ (c.args.toList.map a.eval).toArray := by
            apply Array.toList_inj.1; simp
            exact List.take_of_length_le (by simp)
          rw [e2, h4]
          simp
        · cases h
      · cases h
    · cases h
  · cases h

/-! ## Deferred calls, results -/
def DRs (V : Vl) : List (FuncId × List AV) → List Deferred → Prop
  | [], ds => ds = []
  | (g, args) :: l, ds => ∃ vs cs t, VRs V args (vs ++ cs) ∧ DRs V l t ∧ ds = ⟨.fn (.func g) cs.toArray, vs.toArray⟩ :: t
theorem DRs.mono {V V' : Vl} (h : V.le V') : ∀ {l : List (FuncId × List AV)} {ds : List Deferred}, DRs V l ds → DRs V' l ds
  | [], _, e => by simpa only [DRs] using e
  | (g, args) :: l, _, e => by simp only [DRs] at e ⊢; obtain ⟨vs, cs, t, h1, h2, h3⟩ := e; exact ⟨vs, cs, t, h1.mono h, h2.mono h, h3⟩
def deferA (f : Tr AV) (op : Op) : Option (FuncId × List AV) :=
  match op with
  | .defer c => match c.callee with
    | .value x => match evA f x with
      | .fn (.func g) first caps => some (g, first ++ evAs f c.args.toList ++ caps)
      | _ => none
    | _ => none
  | _ => none
theorem deferA_ok {n : Nat} {f : Tr AV} {a : Act} {o : Oper} {g : FuncId} {args : List AV} (h : deferA f o.op = some (g, args)) (hf : FA V n f a) :
    ∃ vs cs, VRs V args (vs ++ cs) ∧ ∀ w, (execOp a.eval o).run P w = .ok (.defer ⟨.fn (.func g) cs.toArray, vs.toArray⟩) w := by
  unfold deferA at h
  split at h
  · rename_i c ho
    split at h
    · rename_i x hcl
      have hx := hf.eval x
      split at h
      · rename_i g' first caps hfn
        cases h
        rw [hfn] at hx
        simp only [VR] at hx
        obtain ⟨vs, ws, h1, h2, h3⟩ := hx
        have hae : c.args.map a.eval = (c.args.toList.map a.eval).toArray := by apply Array.toList_inj.1; simp
        refine ⟨vs ++ c.args.toList.map a.eval, ws, (h1.append (hf.evals c.args.toList)).append h2, fun w => ?_⟩
        simp [execOp, ho, resolve, hcl, h3, Deferred.ofValue, hae]
      · cases h
    · cases h
  · cases h
def resOne (P : Program) (f : Tr AV) (s : St) : ResultVar → Option AV
  | .tmp t => some ((f.get t).getD .und)
  | .cell a t => loadA P s.h t ((f.get a).getD .und)
def resList (P : Program) (f : Tr AV) (s : St) : List ResultVar → Option (List AV)
  | [] => some []
  | r :: rs => match resOne P f s r with
    | some v => match resList P f s rs with
      | some vs => some (v :: vs)
      | none => none
    | none => none
def packA : List AV → AV
  | [v] => v
  | vs => .tup vs
theorem resList_ok {n : Nat} {f : Tr AV} {a : Act} (hs : Sim w0 V s w) (hf : FA V n f a) : ∀ {rs : List ResultVar} {l : List AV}, resList P f s rs = some l → ∃ vs, VRs V l vs ∧ (rs.mapM (resM a)).run P w = .ok vs w
  | [], l, h => by simp only [resList, Option.some.injEq] at h; subst h; exact ⟨[], VRs.nil, by simp⟩
  | r :: rs, l, h => by
    simp only [resList] at h
    split at h
    · rename_i v hv
      split at h
      · rename_i vs hvs
        cases h
        obtain ⟨ws, h1, h2⟩ := resList_ok hs hf hvs
        have key : ∃ z, VR V v z ∧ (resM a r).run P w = .ok z w := by
          cases r with
          | tmp t => simp only [resOne, Option.some.injEq] at hv; subst hv; exact ⟨_, hf.get t, by simp [resM]⟩
          | cell a' t =>
            simp only [resOne] at hv
            obtain ⟨id, b, off, us, z, _, k2, k3, k4, k5⟩ := loadA_ok (P := P) hv hs (hf.get a')
            have k6 := k5 w k3
            refine ⟨z, k4, ?_⟩
            rw [k2] at k6
            simp only [Instr.loadAt, Instr.sureAddr, Sem.run_bind, Sem.run_pure, Result.andThen_ok] at k6
            simp [resM, k2, asAddr, k6]
        obtain ⟨z, h3, h4⟩ := key
        exact ⟨z :: ws, VRs.cons h3 h1, by simp [List.mapM_cons, h4, h2]⟩
      · cases h
    · cases h
theorem results_ok {n : Nat} {f : Tr AV} {a : Act} {fn : Func} {l : List AV} (hs : Sim w0 V s w) (hf : FA V n f a) (h : resList P f s fn.results.toList = some l) : ∃ z, VR V (packA l) z ∧ (results fn a.tmps).run P w = .ok z w := by
  obtain ⟨vs, h1, h0⟩ := resList_ok (P := P) hs hf h
  have h2 : (fn.results.mapM (resM a)).run P w = .ok vs.toArray w := by
    rw [← Array.toArray_toList (xs := fn.results), List.mapM_toArray]
    simp [h0]
  have h3 : results fn a.tmps = (do let vs ← fn.results.mapM (resM a); pure (if h : vs.size = 1 then vs[0] else .tuple vs)) := by
    unfold results
    congr 1
  refine ⟨pack vs, ?_, ?_⟩
  · match l, vs, h1 with
    | [], vs, h1 => simp only [VRs] at h1; subst h1; simp only [packA, pack, VR]; exact ⟨[], VRs.nil, rfl⟩
    | [x], vs, h1 => obtain ⟨v, h4, rfl⟩ := h1.one; simpa [packA, pack] using h4
    | x :: y :: l, vs, h1 =>
      have := h1.len
      match vs, this with
      | v :: u :: vs, _ => simp only [packA, pack, VR]; exact ⟨_, h1, rfl⟩
  · rw [h3]
    simp only [Sem.run_bind, h2, Result.andThen_ok]
    match vs with
    | [] => simp [pack]
    | [v] => simp [pack]
    | v :: u :: vs => simp [pack]
end
end Go.Fw
