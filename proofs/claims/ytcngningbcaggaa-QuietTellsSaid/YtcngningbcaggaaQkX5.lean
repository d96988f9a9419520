/- The evaluator, and that it is sound. Nothing of the program is named here. No condition. -/
import Derived.Defers
import Derived.OrdersHeld
import Derived.Test.YtcngningbcaggaaQkX4
import Derived.Test.YtcngningbcaggaaQkX2
set_option linter.unusedVariables false
set_option linter.unusedSimpArgs false
set_option linter.unnecessarySimpa false
set_option linter.unusedSectionVars false

namespace Go.Fw
open Go Go.RowKit
def isNone' : Option Operand → Bool
 | none => true
 | some _ => false
def memA (P : Program) (s : St) (nm : Option Nat) (f : Tr AV) (op : Op) (ty : TypeId) : Option (AV × St) :=
 match op with
 | .load t x => match loadA P s.h t (evA f x) with
  | some v => some (v, s)
  | none => none
 | .store t x y => match storeA P s t (evA f x) (evA f y) with
  | some s' => some (.und, s')
  | none => none
 | .alloc t => allocA P s nm t
 | .box t x => boxA s nm t (evA f x)
 | .buildSlice t len ps => buildSliceA P s nm t len (evPs f ps.toList)
 | .makeSlice t x y => makeSliceA P s nm t (evA f x) (evA f y)
 | .makeMap t none => makeMapA P s nm
 | .lookup t x k ok => match lookupA P s.h t (evA f x) (evA f k) ok with
  | some v => some (v, s)
  | none => none
 | .mapUpdate t x k y => match mapUpdA P s t (evA f x) (evA f k) (evA f y) with
  | some s' => some (.und, s')
  | none => none
 | .call c => match c.callee with
  | .builtin .append => match c.args.toList with
   | [x, y] => match c.argTypes.toList with
    | [t, t'] => bif Nat.beq t t' then appA P s nm t (evA f x) (evA f y) else appZA P s nm t t' (evA f x) (evA f y)
    | _ => none
   | _ => none
  | .builtin .copy => match c.args.toList with
   | [x, y] => match c.argTypes.toList with
    | [t, _] => copyA P s t (evA f x) (evA f y)
    | _ => none
   | _ => none
  | .builtin .clear => match c.args.toList with
   | [x] => match c.argTypes.toList with
    | [t] => clearA P s t (evA f x)
    | _ => none
   | _ => none
  | .builtin .delete => match c.args.toList with
   | [x, y] => match c.argTypes.toList with
    | [t, _] => match deleteA P s t (evA f x) (evA f y) with
     | some s' => some (.tup [], s')
     | none => none
    | _ => none
   | _ => none
  | .builtin .len => match c.args.toList with
   | [x] => match c.argTypes.toList with
    | [t] => match lenA P t (evA f x) with
     | some n => some (.i .i64 (.ofNat n), s)
     | none => match lenMA P s.h t (evA f x) with
      | some v => some (v, s)
      | none => none
    | _ => none
   | _ => none
  | _ => match pureA P s.h f op ty with
   | some v => some (v, s)
   | none => none
 | _ => match pureA P s.h f op ty with
  | some v => some (v, s)
  | none => none
structure Step (P : Program) (w0 : World) (V : Vl) (s : St) (nm : Option Nat) (a : Act) (o : Oper) (w : World) (r : AV) (s' : St) : Prop where
 ex : ∃ V' z w' nx, Vx V V' s.n nm ∧ VR V' r z ∧ (execOp a.eval o).run P w = .ok nx w' ∧ (nx = .value z ∨ (nx = .skip ∧ z = undef)) ∧ Sim w0 V' s' w' ∧ s.n ≤ s'.n
section
variable {P : Program} {w0 w : World} {V : Vl} {s : St}
theorem toList2 {α : Type} {a : Array α} {x y : α} (h : a.toList = [x, y]) : a = #[x, y] := by apply Array.toList_inj.1; simpa using h
theorem toList1 {α : Type} {a : Array α} {x : α} (h : a.toList = [x]) : a = #[x] := by apply Array.toList_inj.1; simpa using h
theorem memA_ok {nm : Option Nat} {n : Nat} {f : Tr AV} {a : Act} {o : Oper} {r : AV} {s' : St} (h : memA P s nm f o.op o.type = some (r, s')) (hs : Sim w0 V s w) (hn : ∀ p, nm = some p → V.ρ p = none) (hf : FA V n f a) :
  Step P w0 V s nm a o w r s' := by
 have pure' : ∀ {op : Op}, o.op = op → (match pureA P s.h f o.op o.type with | some v => some (v, s) | none => none) = some (r, s') → Step P w0 V s nm a o w r s' := by
  intro op _ h
  split at h
  ·rename_i v hp
   cases h
   obtain ⟨z, h1, h2⟩ := pureA_ok hp hf hs.kn
   exact ⟨V, z, w, _, Vx.rfl, h1, h2 w, .inl rfl, hs, Nat.le_refl _⟩
  ·cases h
 unfold memA at h
 split at h
 ·rename_i t x ho
  split at h
  ·rename_i v hl
   cases h
   obtain ⟨id, b, off, vs, z, _, h2, h3, h4, h5⟩ := loadA_ok (P := P) hl hs (hf.eval x)
   exact ⟨V, z, w, .value z, Vx.rfl, h4, by simp [execOp, ho, h5 w h3], .inl rfl, hs, Nat.le_refl _⟩
  ·cases h
 ·rename_i t x y ho
  split at h
  ·rename_i s1 hl
   cases h
   obtain ⟨w', h1, h2, h3⟩ := storeA_ok (P := P) hl hs (hf.eval x) (hf.eval y)
   exact ⟨V, undef, w', .skip, Vx.rfl, by simp only [VR], by simp [execOp, ho, h1], .inr ⟨rfl, rfl⟩, h2, om9⟩
  ·cases h
 ·rename_i t ho
  obtain ⟨V', z, w', h1, h2, h3, h4, h5⟩ := allocA_ok (P := P) h hs hn
  exact ⟨V', z, w', .value z, h1, h2, by simp [execOp, ho, h3], .inl rfl, h4, h5⟩
 ·rename_i t x ho
  obtain ⟨V', z, w', h1, h2, h3, h4, h5⟩ := boxA_ok (P := P) h hs hn (hf.eval x)
  exact ⟨V', z, w', .value z, h1, h2, by simp [execOp, ho, h3], .inl rfl, h4, h5⟩
 ·rename_i t len ps ho
  obtain ⟨V', z, w', h1, h2, h3, h4, h5⟩ := buildSliceA_ok (P := P) hf h hs hn
  exact ⟨V', z, w', .value z, h1, h2, by simp only [execOp, ho]; simp only [Sem.run_bind]; rw [h3]; rfl, .inl rfl, h4, h5⟩
 ·rename_i t x y ho
  obtain ⟨V', z, w', h1, h2, h3, h4, h5⟩ := makeSliceA_ok (P := P) h hs hn (hf.eval x) (hf.eval y)
  exact ⟨V', z, w', .value z, h1, h2, by simp [execOp, ho, h3], .inl rfl, h4, h5⟩
 ·rename_i t ho
  obtain ⟨V', z, w', h1, h2, h3, h4, h5⟩ := makeMapA_ok (P := P) (t := t) h hs hn
  exact ⟨V', z, w', .value z, h1, h2, by simp [execOp, ho, h3], .inl rfl, h4, h5⟩
 ·rename_i t x k ok ho
  split at h
  ·rename_i v hl
   cases h
   obtain ⟨z, h1, h2⟩ := lookupA_ok (P := P) hl hs (hf.eval x) (hf.eval k)
   exact ⟨V, z, w, .value z, Vx.rfl, h1, by simp [execOp, ho, h2], .inl rfl, hs, Nat.le_refl _⟩
  ·cases h
 ·rename_i t x k y ho
  split at h
  ·rename_i s1 hl
   cases h
   obtain ⟨w', h1, h2, h3⟩ := mapUpdA_ok (P := P) hl hs (hf.eval x) (hf.eval k) (hf.eval y)
   exact ⟨V, undef, w', .skip, Vx.rfl, by simp only [VR], by simp [execOp, ho, h1], .inr ⟨rfl, rfl⟩, h2, om9⟩
  ·cases h
 ·rename_i c ho
  split at h
  ·rename_i hc
   split at h
   ·rename_i x y hx
    split at h
    ·rename_i t t' ht
     cases hb : Nat.beq t t'
     ·simp only [hb, cond_false] at h
      obtain ⟨V', z, w', h1, h2, h3, h4, h5⟩ := appZA_ok (P := P) (ty := o.type) h hs hn (hf.eval x) (hf.eval y)
      exact ⟨V', z, w', .value z, h1, h2, by simp [execOp, ho, resolve, hc, toList2 hx, toList2 ht, invoke, builtin, h3], .inl rfl, h4, h5⟩
     ·simp only [hb, cond_true] at h
      have hb := Nat.eq_of_beq_eq_true hb
      subst hb
      obtain ⟨V', z, w', h1, h2, h3, h4, h5⟩ := appA_ok (P := P) (ty := o.type) h hs hn (hf.eval x) (hf.eval y)
      exact ⟨V', z, w', .value z, h1, h2, by simp [execOp, ho, resolve, hc, toList2 hx, toList2 ht, invoke, builtin, h3], .inl rfl, h4, h5⟩
    ·cases h
   ·cases h
  ·rename_i hc
   split at h
   ·rename_i x y hx
    split at h
    ·rename_i t t' ht
     obtain ⟨z, w', h2, h3, h4, h5⟩ := copyA_ok (P := P) (t' := t') (ty := o.type) h hs (hf.eval x) (hf.eval y)
     exact ⟨V, z, w', .value z, Vx.rfl, h2, by simp [execOp, ho, resolve, hc, toList2 hx, toList2 ht, invoke, builtin, h3], .inl rfl, h4, om9⟩
    ·cases h
   ·cases h
  ·rename_i hc
   split at h
   ·rename_i x hx
    split at h
    ·rename_i t ht
     obtain ⟨z, w', h2, h3, h4, h5⟩ := clearA_ok (P := P) (ty := o.type) h hs (hf.eval x)
     exact ⟨V, z, w', .value z, Vx.rfl, h2, by simp [execOp, ho, resolve, hc, toList1 hx, toList1 ht, invoke, builtin, h3], .inl rfl, h4, om9⟩
    ·cases h
   ·cases h
  ·rename_i hc
   split at h
   ·rename_i x y hx
    split at h
    ·rename_i t t' ht
     split at h
     ·rename_i s1 hd
      cases h
      obtain ⟨w', h3, h4, h5⟩ := deleteA_ok (P := P) (t' := t') (ty := o.type) hd hs (hf.eval x) (hf.eval y)
      exact ⟨V, .tuple #[], w', .value (.tuple #[]), Vx.rfl, by simp only [VR]; exact ⟨[], VRs.nil, rfl⟩, by simp [execOp, ho, resolve, hc, toList2 hx, toList2 ht, invoke, builtin, h3], .inl rfl, h4, om9⟩
     ·cases h
    ·cases h
   ·cases h
  ·rename_i hc
   split at h
   ·rename_i x hx
    split at h
    ·rename_i t ht
     split at h
     ·rename_i n hl
      cases h
      have h3 := lenA_ok (ty := o.type) hl (hf.eval x) w
      exact ⟨V, .int .i64 (Int.ofNat n), w, .value (.int .i64 (Int.ofNat n)), Vx.rfl, by simp only [VR], by simp only [execOp, ho, resolve, hc, toList1 hx, toList1 ht, invoke, builtin, Sem.run_bind, Sem.run_pure, Result.andThen_ok]; simp only [List.map_toArray, List.map_cons, List.map_nil]; rw [h3]; rfl, .inl rfl, hs, Nat.le_refl _⟩
     ·split at h
      ·rename_i v hl
       cases h
       obtain ⟨z, h2, h3⟩ := lenMA_ok (P := P) (ty := o.type) hl hs (hf.eval x)
       exact ⟨V, z, w, .value z, Vx.rfl, h2, by simp [execOp, ho, resolve, hc, toList1 hx, toList1 ht, invoke, builtin, h3], .inl rfl, hs, Nat.le_refl _⟩
      ·cases h
    ·cases h
   ·cases h
  ·exact pure' rfl (by rw [ho] at h ⊢; exact h)
 ·exact pure' rfl h
def wantedA (arr : Array Oper) (f : Tr AV) (o : Oper) : Option Bool :=
 match o.guard with
 | none => some true
 | some (j, want) => match arr[j]? with
  | some oj => match oj.dst with
   | some dj => match (f.get dj).getD .und with
    | .b x => some (x == want)
    | .und => some false
    | _ => none
   | none => none
  | none => none
theorem wantedA_ok {arr : Array Oper} {n : Nat} {f : Tr AV} {a : Act} {o : Oper} {b : Bool} (h : wantedA arr f o = some b) (hf : FA V n f a) : Region.wanted o (yielded arr a.tmps) = b := by
 unfold wantedA at h
 split at h
 ·rename_i hg
  cases h
  simp [Region.wanted, hg]
 ·rename_i j want hg
  split at h
  ·rename_i oj hj
   split at h
   ·rename_i dj hd
    have hv := hf.get dj
    have hy : yielded arr a.tmps j = match a.tmps[dj]? with | some (.bool b) => some b | _ => none := by
     simp [yielded, hj, hd]; rfl
    rw [Array.getD_eq_getD_getElem?] at hv
    split at h
    ·rename_i x hx
     cases h
     rw [hx] at hv
     simp only [VR] at hv
     cases ht : a.tmps[dj]? with
     | none => rw [ht] at hv; cases hv
     | some v =>
      rw [ht] at hv
      simp only [Option.getD_some] at hv
      subst hv
      rw [ht] at hy
      simp only [Region.wanted, hg, hy]
      cases x <;> cases want <;> rfl
    ·rename_i hx
     cases h
     rw [hx] at hv
     simp only [VR] at hv
     cases ht : a.tmps[dj]? with
     | none => rw [ht] at hy; simp [Region.wanted, hg, hy]
     | some v =>
      rw [ht] at hv
      simp only [Option.getD_some] at hv
      subst hv
      rw [ht] at hy
      simp only [Region.wanted, hg, hy]
      rfl
    ·cases h
   ·cases h
  ·cases h
def methA (P : Program) (h : Tr Blk) (t : TypeId) (name : String) (v : AV) : Option (FuncId × AV) :=
 match P.info? t with
 | some info => match info.methods.find? (·.name == name) with
  | some m => bif m.path.isEmpty then (match m.func with
   | some (g, ptr) => match P.underlying t with
    | some (.pointer e) => bif ptr then some (g, v) else (match v with
     | .p id off => match loadA P h e (.p id off) with
      | some r => some (g, r)
      | none => none
     | _ => none)
    | some _ => bif ptr then none else some (g, v)
    | none => none
   | none => none) else none
  | none => none
 | none => none
theorem methA_ok {t : TypeId} {name : String} {g : FuncId} {v r : AV} {y : Value} (h : methA P s.h t name v = some (g, r)) (hs : Sim w0 V s w) (hv : VR V v y) (m : Nat) : ∃ z, VR V r z ∧ (method (m + 1) t y name).run P w = .ok (g, z) w := by
 unfold methA at h
 split at h
 ·rename_i info hi
  split at h
  ·rename_i me hm
   cases hp : me.path.isEmpty
   ·simp [hp] at h
   simp only [hp, cond_true] at h
   have hpath : me.path.toList = [] := by simpa using hp
   split at h
   ·rename_i g' ptr hfu
    split at h
    ·rename_i e hu
     cases ptr
     ·simp only [cond_false] at h
      split at h
      ·rename_i id off
       split at h
       ·rename_i r' hl
        cases h
        obtain ⟨id', b, off', vs, z, k1, rfl, k3, k4, k5⟩ := loadA_ok (P := P) hl hs hv
        have k6 := k5 w k3
        simp only [Instr.loadAt, Instr.sureAddr, Sem.run_bind, Sem.run_pure, Result.andThen_ok] at k6
        refine ⟨z, k4, ?_⟩
        have hwr : ∀ (ad : Addr) (p q : String), Builtin.ssaWrapNilChk_ #[t] t #[.pointer (some ad), strVal p, strVal q] = pure (.pointer (some ad)) := fun _ _ _ => rfl
        simp [method, typeInfo, hi, hm, hpath, hp, follow, hfu, receiverAt, run_underlying hu, Place.get, hwr, asAddr, k6]
        split <;> simp [k6]
       ·cases h
      ·cases h
     ·cases h
      exact ⟨y, hv, by simp [method, typeInfo, hi, hm, hpath, follow, hfu, receiverAt, run_underlying hu, Place.get]⟩
    ·rename_i d hd hu
     cases ptr
     ·cases h
      refine ⟨y, hv, ?_⟩
      simp only [method, typeInfo, Sem.run_bind, run_program, hi, Result.andThen_ok, Sem.run_pure, hm, hpath, follow, hfu, receiverAt, run_underlying hu]
      cases d <;> first | exact absurd rfl (hd _) | simp [Place.get]
     ·cases h
    ·cases h
   ·cases h
  ·cases h
 ·cases h
def calleeA (P : Program) (h : Tr Blk) (f : Tr AV) (op : Op) : Option (FuncId × List AV) :=
 match op with
 | .call c => match c.callee with
  | .value x => match evA f x with
   | .fn (.func g) first caps => some (g, first ++ (evAs f c.args.toList ++ caps))
   | .fn (.method name) (.ic t v :: first) [] => match methA P h t name v with
    | some (g, r) => some (g, r :: (first ++ evAs f c.args.toList))
    | none => none
   | _ => none
  | .invoke r name => match evA f r with
   | .ic t v => match methA P h t name v with
    | some (g, r) => some (g, r :: evAs f c.args.toList)
    | none => none
   | _ => none
  | .builtin _ => none
 | _ => none
theorem calleeA_ok {n : Nat} {f : Tr AV} {a : Act} {o : Oper} {g : FuncId} {args : List AV} (h : calleeA P s.h f o.op = some (g, args)) (hs : Sim w0 V s w) (hf : FA V n f a) (hc : Callable P g) :
  ∃ vs, VRs V args vs ∧ (execOp a.eval o).run P w = .ok (.enter g vs.toArray) w := by
 unfold calleeA at h
 split at h
 ·rename_i c ho
  have hargs := hf.evals c.args.toList
  have hae : c.args.map a.eval = (c.args.toList.map a.eval).toArray := by apply Array.toList_inj.1; simp
  split at h
  ·rename_i x hcl
   have hx := hf.eval x
   split at h
   ·rename_i g' first caps hfn
    cases h
    rw [hfn] at hx
    simp only [VR] at hx
    obtain ⟨vs, ws, h1, h2, h3⟩ := hx
    refine ⟨vs ++ (c.args.toList.map a.eval ++ ws), h1.append (hargs.append h2), ?_⟩
    have h4 := hc (vs.toArray ++ c.args.map a.eval ++ ws.toArray) w
    have e : vs.toArray ++ c.args.map a.eval ++ ws.toArray = (vs ++ (c.args.toList.map a.eval ++ ws)).toArray := by rw [hae]; simp
    rw [e] at h4
    simp only [execOp, ho, resolve, hcl, h3, Deferred.ofValue, Sem.run_bind, Sem.run_pure, Result.andThen_ok, invoke]
    rw [e]
    exact h4
   ·rename_i name t v first hfn
    split at h
    ·rename_i g' r hm
     cases h
     rw [hfn] at hx
     simp only [VR, VRs] at hx
     obtain ⟨vs, ws, ⟨_, t', ⟨y, h1, rfl⟩, h2, rfl⟩, rfl, h3⟩ := hx
     obtain ⟨z, hz, h5⟩ := methA_ok (P := P) hm hs h1 (P.types.size + Made.depth - 1)
     refine ⟨z :: (t' ++ c.args.toList.map a.eval), VRs.cons hz (h2.append hargs), ?_⟩
     have h4 := hc (#[z] ++ (t' ++ c.args.toList.map a.eval).toArray) w
     have e : (((.iface t y :: t').toArray ++ c.args.map a.eval : Array Value)) = (.iface t y :: (t' ++ c.args.toList.map a.eval)).toArray := by rw [hae]; simp
     simp only [execOp, ho, resolve, hcl, h3, Deferred.ofValue, Sem.run_bind, Sem.run_pure, Result.andThen_ok, invoke]
     rw [e]
     simp only [List.getElem?_toArray, List.getElem?_cons_zero, List.size_toArray, List.length_cons, callMethod, Sem.run_bind, run_program, Result.andThen_ok]
     rw [show P.types.size + Made.depth = (P.types.size + Made.depth - 1) + 1 from by simp [Made.depth]]
     rw [h5]
     simp only [Result.andThen_ok]
     have e2 : #[z] ++ Array.extract (.iface t y :: (t' ++ c.args.toList.map a.eval)).toArray 1 ((t' ++ c.args.toList.map a.eval).length + 1) = #[z] ++ (t' ++ c.args.toList.map a.eval).toArray := by
      apply Array.toList_inj.1; simp
      exact List.take_of_length_le (by simp)
     rw [e2, h4]
     simp
    ·cases h
   ·cases h
  ·rename_i r name hcl
   have hx := hf.eval r
   split at h
   ·rename_i t v hfn
    split at h
    ·rename_i g' r hm
     cases h
     rw [hfn] at hx
     simp only [VR] at hx
     obtain ⟨y, h1, h3⟩ := hx
     obtain ⟨z, hz, h5⟩ := methA_ok (P := P) hm hs h1 (P.types.size + Made.depth - 1)
     refine ⟨z :: c.args.toList.map a.eval, VRs.cons hz hargs, ?_⟩
     have h4 := hc (#[z] ++ (c.args.toList.map a.eval).toArray) w
     have e : ((#[.iface t y] ++ c.args.map a.eval : Array Value)) = (.iface t y :: c.args.toList.map a.eval).toArray := by rw [hae]; simp
     simp only [execOp, ho, resolve, hcl, h3, Sem.run_bind, Sem.run_pure, Result.andThen_ok, invoke]
     rw [e]
     simp only [List.getElem?_toArray, List.getElem?_cons_zero, List.size_toArray, List.length_cons, callMethod, Sem.run_bind, run_program, Result.andThen_ok]
     rw [show P.types.size + Made.depth = (P.types.size + Made.depth - 1) + 1 from by simp [Made.depth]]
     rw [h5]
     simp only [Result.andThen_ok]
     have e2 : #[z] ++ Array.extract (.iface t y :: c.args.toList.map a.eval).toArray 1 ((c.args.toList.map a.eval).length + 1) = #[z] ++ (c.args.toList.map a.eval).toArray := by
      apply Array.toList_inj.1; simp
      exact List.take_of_length_le (by simp)
     rw [e2, h4]
     simp
    ·cases h
   ·cases h
  ·cases h
 ·cases h
def DRs (V : Vl) : List (FuncId × List AV) → List Deferred → Prop
 | [], ds => ds = []
 | (g, args) :: l, ds => ∃ vs cs t, VRs V args (vs ++ cs) ∧ DRs V l t ∧ ds = ⟨.fn (.func g) cs.toArray, vs.toArray⟩ :: t
theorem DRs.mono {V V' : Vl} (h : V.le V') : ∀ {l : List (FuncId × List AV)} {ds : List Deferred}, DRs V l ds → DRs V' l ds
 | [], _, e => by simpa only [DRs] using e
 | (g, args) :: l, _, e => by simp only [DRs] at e ⊢; obtain ⟨vs, cs, t, h1, h2, h3⟩ := e; exact ⟨vs, cs, t, h1.mono h, h2.mono h, h3⟩
def deferA (f : Tr AV) (op : Op) : Option (FuncId × List AV) :=
 match op with
 | .defer c => match c.callee with
  | .value x => match evA f x with
   | .fn (.func g) first caps => some (g, first ++ evAs f c.args.toList ++ caps)
   | _ => none
  | _ => none
 | _ => none
theorem deferA_ok {n : Nat} {f : Tr AV} {a : Act} {o : Oper} {g : FuncId} {args : List AV} (h : deferA f o.op = some (g, args)) (hf : FA V n f a) :
  ∃ vs cs, VRs V args (vs ++ cs) ∧ ∀ w, (execOp a.eval o).run P w = .ok (.defer ⟨.fn (.func g) cs.toArray, vs.toArray⟩) w := by
 unfold deferA at h
 split at h
 ·rename_i c ho
  split at h
  ·rename_i x hcl
   have hx := hf.eval x
   split at h
   ·rename_i g' first caps hfn
    cases h
    rw [hfn] at hx
    simp only [VR] at hx
    obtain ⟨vs, ws, h1, h2, h3⟩ := hx
    have hae : c.args.map a.eval = (c.args.toList.map a.eval).toArray := by apply Array.toList_inj.1; simp
    refine ⟨vs ++ c.args.toList.map a.eval, ws, (h1.append (hf.evals c.args.toList)).append h2, fun w => ?_⟩
    simp [execOp, ho, resolve, hcl, h3, Deferred.ofValue, hae]
   ·cases h
  ·cases h
 ·cases h
def resOne (P : Program) (f : Tr AV) (s : St) : ResultVar → Option AV
 | .tmp t => some ((f.get t).getD .und)
 | .cell a t => loadA P s.h t ((f.get a).getD .und)
def resList (P : Program) (f : Tr AV) (s : St) : List ResultVar → Option (List AV)
 | [] => some []
 | r :: rs => match resOne P f s r with
  | some v => match resList P f s rs with
   | some vs => some (v :: vs)
   | none => none
  | none => none
def packA : List AV → AV
 | [v] => v
 | vs => .tup vs
theorem resList_ok {n : Nat} {f : Tr AV} {a : Act} (hs : Sim w0 V s w) (hf : FA V n f a) : ∀ {rs : List ResultVar} {l : List AV}, resList P f s rs = some l → ∃ vs, VRs V l vs ∧ (rs.mapM (resM a)).run P w = .ok vs w
 | [], l, h => by simp only [resList, Option.some.injEq] at h; subst h; exact ⟨[], VRs.nil, by simp⟩
 | r :: rs, l, h => by
  simp only [resList] at h
  split at h
  ·rename_i v hv
   split at h
   ·rename_i vs hvs
    cases h
    obtain ⟨ws, h1, h2⟩ := resList_ok hs hf hvs
    have key : ∃ z, VR V v z ∧ (resM a r).run P w = .ok z w := by
     cases r with
     | tmp t => simp only [resOne, Option.some.injEq] at hv; subst hv; exact ⟨_, hf.get t, by simp [resM]⟩
     | cell a' t =>
      simp only [resOne] at hv
      obtain ⟨id, b, off, us, z, _, k2, k3, k4, k5⟩ := loadA_ok (P := P) hv hs (hf.get a')
      have k6 := k5 w k3
      refine ⟨z, k4, ?_⟩
      rw [k2] at k6
      simp only [Instr.loadAt, Instr.sureAddr, Sem.run_bind, Sem.run_pure, Result.andThen_ok] at k6
      simp [resM, k2, asAddr, k6]
    obtain ⟨z, h3, h4⟩ := key
    exact ⟨z :: ws, VRs.cons h3 h1, by simp [List.mapM_cons, h4, h2]⟩
   ·cases h
  ·cases h
theorem results_ok {n : Nat} {f : Tr AV} {a : Act} {fn : Func} {l : List AV} (hs : Sim w0 V s w) (hf : FA V n f a) (h : resList P f s fn.results.toList = some l) : ∃ z, VR V (packA l) z ∧ (results fn a.tmps).run P w = .ok z w := by
 obtain ⟨vs, h1, h0⟩ := resList_ok (P := P) hs hf h
 have h2 : (fn.results.mapM (resM a)).run P w = .ok vs.toArray w := by
  rw [← Array.toArray_toList (xs := fn.results), List.mapM_toArray]
  simp [h0]
 have h3 : results fn a.tmps = (do let vs ← fn.results.mapM (resM a); pure (if h : vs.size = 1 then vs[0] else .tuple vs)) := by
  unfold results
  congr 1
 refine ⟨pack vs, ?_, ?_⟩
 ·match l, vs, h1 with
  | [], vs, h1 => simp only [VRs] at h1; subst h1; simp only [packA, pack, VR]; exact ⟨[], VRs.nil, rfl⟩
  | [x], vs, h1 => obtain ⟨v, h4, rfl⟩ := h1.one; simpa [packA, pack] using h4
  | x :: y :: l, vs, h1 =>
   have := h1.len
   match vs, this with
   | v :: u :: vs, _ => simp only [packA, pack, VR]; exact ⟨_, h1, rfl⟩
 ·rw [h3]
  simp only [Sem.run_bind, h2, Result.andThen_ok]
  match vs with
  | [] => simp [pack]
  | [v] => simp [pack]
  | v :: u :: vs => simp [pack]
end
mutual
def AV.beq : AV → AV → Bool
 | .und, .und => true
 | .u, .u => true
 | .b x, .b y => x == y
 | .i k x, .i k' y => decide (k = k') && iEq x y
 | .s l, .s l' => sEq l l'
 | .p x q, .p x' q' => Nat.beq x x' && Nat.beq q q'
 | .pn, .pn => true
 | .sl x q l c, .sl x' q' l' c' => Nat.beq x x' && Nat.beq q q' && Nat.beq l l' && Nat.beq c c'
 | .so x q l c, .so x' q' l' c' => Nat.beq x x' && Nat.beq q q' && Nat.beq l l' && Nat.beq c c'
 | .sn, .sn => true
 | .sz, .sz => true
 | .m x, .m y => Nat.beq x y
 | .mn, .mn => true
 | .fn f l c, .fn f' l' c' => decide (f = f') && AV.beqs l l' && AV.beqs c c'
 | .fnn, .fnn => true
 | .ic t v, .ic t' v' => Nat.beq t t' && AV.beq v v'
 | .icn, .icn => true
 | .agg l, .agg l' => AV.beqs l l'
 | .tup l, .tup l' => AV.beqs l l'
 | .o k, .o k' => Nat.beq k k'
 | .oi k x, .oi k' y => Nat.beq k k' && (x == y)
 | _, _ => false
def AV.beqs : List AV → List AV → Bool
 | [], [] => true
 | x :: l, y :: l' => AV.beq x y && AV.beqs l l'
 | _, _ => false
end
mutual
theorem AV.beq_eq : ∀ {x y : AV}, AV.beq x y = true → x = y
 | .und, y, h => by cases y <;> simp_all [AV.beq]
 | .u, y, h => by cases y <;> simp_all [AV.beq]
 | .b _, y, h => by cases y <;> simp_all [AV.beq]
 | .i _ _, y, h => by cases y <;> simp_all [AV.beq, iEq_eq]
 | .s _, y, h => by cases y <;> simp_all [AV.beq, sEq_eq]
 | .p _ _, y, h => by cases y <;> simp_all [AV.beq, nbeq]
 | .pn, y, h => by cases y <;> simp_all [AV.beq]
 | .sl _ _ _ _, y, h => by cases y <;> simp_all [AV.beq, nbeq]
 | .so _ _ _ _, y, h => by cases y <;> simp_all [AV.beq, nbeq]
 | .sn, y, h => by cases y <;> simp_all [AV.beq]
 | .sz, y, h => by cases y <;> simp_all [AV.beq]
 | .m _, y, h => by cases y <;> simp_all [AV.beq, nbeq]
 | .mn, y, h => by cases y <;> simp_all [AV.beq]
 | .fn f l c, y, h => by
  cases y <;> simp only [AV.beq, Bool.and_eq_true, Bool.false_eq_true, decide_eq_true_eq] at h
  obtain ⟨⟨h1, h2⟩, h3⟩ := h
  rw [h1, AV.beqs_eq h2, AV.beqs_eq h3]
 | .fnn, y, h => by cases y <;> simp_all [AV.beq]
 | .ic t v, y, h => by
  cases y <;> simp only [AV.beq, Bool.and_eq_true, Bool.false_eq_true, nbeq, decide_eq_true_eq] at h
  obtain ⟨h1, h2⟩ := h
  rw [h1, AV.beq_eq h2]
 | .icn, y, h => by cases y <;> simp_all [AV.beq]
 | .agg l, y, h => by
  cases y <;> simp only [AV.beq, Bool.false_eq_true] at h
  rw [AV.beqs_eq h]
 | .tup l, y, h => by
  cases y <;> simp only [AV.beq, Bool.false_eq_true] at h
  rw [AV.beqs_eq h]
 | .o _, y, h => by cases y <;> simp_all [AV.beq, nbeq]
 | .oi _ _, y, h => by cases y <;> simp_all [AV.beq, nbeq]
theorem AV.beqs_eq : ∀ {l l' : List AV}, AV.beqs l l' = true → l = l'
 | [], [], _ => rfl
 | [], _ :: _, h => by simp [AV.beqs] at h
 | _ :: _, [], h => by simp [AV.beqs] at h
 | x :: l, y :: l', h => by
  simp only [AV.beqs, Bool.and_eq_true] at h
  rw [AV.beq_eq h.1, AV.beqs_eq h.2]
end
mutual
def AV.det : AV → Bool
 | .u => false
 | .sz => false
 | .fn _ l c => AV.dets l && AV.dets c
 | .ic _ v => AV.det v
 | .agg l => AV.dets l
 | .tup l => AV.dets l
 | _ => true
def AV.dets : List AV → Bool
 | [] => true
 | x :: l => AV.det x && AV.dets l
end
mutual
theorem VR.det {V : Vl} : ∀ {x : AV} {v u : Value}, AV.det x = true → VR V x v → VR V x u → v = u
 | .und, _, _, _, h, k => by simp only [VR] at h k; rw [h, k]
 | .u, _, _, d, _, _ => by simp [AV.det] at d
 | .b _, _, _, _, h, k => by simp only [VR] at h k; rw [h, k]
 | .i _ _, _, _, _, h, k => by simp only [VR] at h k; rw [h, k]
 | .s _, _, _, _, h, k => by simp only [VR] at h k; rw [h, k]
 | .p _ _, _, _, _, h, k => by simp only [VR] at h k; obtain ⟨b, h1, rfl⟩ := h; obtain ⟨b', k1, rfl⟩ := k; rw [h1] at k1; cases k1; rfl
 | .pn, _, _, _, h, k => by simp only [VR] at h k; rw [h, k]
 | .sl _ _ _ _, _, _, _, h, k => by simp only [VR] at h k; obtain ⟨b, h1, rfl⟩ := h; obtain ⟨b', k1, rfl⟩ := k; rw [h1] at k1; cases k1; rfl
 | .so _ _ _ _, _, _, _, h, k => by simp only [VR] at h k; obtain ⟨b, h1, _, rfl⟩ := h; obtain ⟨b', k1, _, rfl⟩ := k; rw [h1] at k1; cases k1; rfl
 | .sn, _, _, _, h, k => by simp only [VR] at h k; rw [h, k]
 | .sz, _, _, d, _, _ => by simp [AV.det] at d
 | .m _, _, _, _, h, k => by simp only [VR] at h k; obtain ⟨b, h1, rfl⟩ := h; obtain ⟨b', k1, rfl⟩ := k; rw [h1] at k1; cases k1; rfl
 | .mn, _, _, _, h, k => by simp only [VR] at h k; rw [h, k]
 | .fn _ _ _, _, _, d, h, k => by
  simp only [AV.det, Bool.and_eq_true] at d
  simp only [VR] at h k
  obtain ⟨a, b, h1, h2, rfl⟩ := h
  obtain ⟨a', b', k1, k2, rfl⟩ := k
  rw [VRs.det d.1 h1 k1, VRs.det d.2 h2 k2]
 | .fnn, _, _, _, h, k => by simp only [VR] at h k; rw [h, k]
 | .ic _ _, _, _, d, h, k => by
  simp only [AV.det] at d
  simp only [VR] at h k
  obtain ⟨a, h1, rfl⟩ := h
  obtain ⟨a', k1, rfl⟩ := k
  rw [VR.det d h1 k1]
 | .icn, _, _, _, h, k => by simp only [VR] at h k; rw [h, k]
 | .agg _, _, _, d, h, k => by
  simp only [AV.det] at d
  simp only [VR] at h k
  obtain ⟨a, h1, rfl⟩ := h
  obtain ⟨a', k1, rfl⟩ := k
  rw [VRs.det d h1 k1]
 | .tup _, _, _, d, h, k => by
  simp only [AV.det] at d
  simp only [VR] at h k
  obtain ⟨a, h1, rfl⟩ := h
  obtain ⟨a', k1, rfl⟩ := k
  rw [VRs.det d h1 k1]
 | .o _, _, _, _, h, k => by simp only [VR] at h k; rw [h, k]
 | .oi _ _, _, _, _, h, k => by simp only [VR] at h k; obtain ⟨n, h1, _, rfl⟩ := h; obtain ⟨n', k1, _, rfl⟩ := k; rw [h1] at k1; rw [k1]
theorem VRs.det {V : Vl} : ∀ {l : List AV} {vs us : List Value}, AV.dets l = true → VRs V l vs → VRs V l us → vs = us
 | [], _, _, _, h, k => by simp only [VRs] at h k; rw [h, k]
 | x :: l, _, _, d, h, k => by
  simp only [AV.dets, Bool.and_eq_true] at d
  simp only [VRs] at h k
  obtain ⟨v, t, h1, h2, rfl⟩ := h
  obtain ⟨v', t', k1, k2, rfl⟩ := k
  rw [VR.det d.1 h1 k1, VRs.det d.2 h2 k2]
end
def Tr.beq {α : Type} (eq : α → α → Bool) : Tr α → Tr α → Bool
 | .e, .e => true
 | .n v l r, .n v' l' r' => (match v, v' with | none, none => true | some a, some b => eq a b | _, _ => false) && Tr.beq eq l l' && Tr.beq eq r r'
 | _, _ => false
theorem Tr.beq_eq {α : Type} {eq : α → α → Bool} (he : ∀ a b, eq a b = true → a = b) : ∀ {t u : Tr α}, Tr.beq eq t u = true → t = u
 | .e, .e, _ => rfl
 | .e, .n _ _ _, h => by simp [Tr.beq] at h
 | .n _ _ _, .e, h => by simp [Tr.beq] at h
 | .n v l r, .n v' l' r', h => by
  simp only [Tr.beq, Bool.and_eq_true] at h
  obtain ⟨⟨h1, h2⟩, h3⟩ := h
  rw [Tr.beq_eq he h2, Tr.beq_eq he h3]
  cases v <;> cases v' <;> simp at h1
  ·rfl
  ·rw [he _ _ h1]
def ents : List (AV × AV × Nat) → List (AV × AV × Nat) → Bool
 | [], [] => true
 | (k, x, n) :: l, (k', x', n') :: m => AV.beq k k' && AV.beq x x' && Nat.beq n n' && ents l m
 | _, _ => false
theorem ents_eq : ∀ {l m : List (AV × AV × Nat)}, ents l m = true → l = m
 | [], [], _ => rfl
 | [], _ :: _, h => by simp [ents] at h
 | _ :: _, [], h => by simp [ents] at h
 | (k, x, n) :: l, (k', x', n') :: m, h => by
  simp only [ents, Bool.and_eq_true] at h
  obtain ⟨⟨⟨h1, h2⟩, h3⟩, h4⟩ := h
  rw [AV.beq_eq h1, AV.beq_eq h2, Nat.eq_of_beq_eq_true h3, ents_eq h4]
def Blk.beq : Blk → Blk → Bool
 | .c t k l, .c t' k' l' => Nat.beq t t' && Nat.beq k k' && AV.beqs l l'
 | .m es q, .m es' q' => ents es es' && Nat.beq q q'
 | _, _ => false
theorem Blk.beq_eq (x y : Blk) (h : Blk.beq x y = true) : x = y := by
 cases x <;> cases y <;> simp only [Blk.beq, Bool.and_eq_true, Bool.false_eq_true] at h
 ·obtain ⟨⟨h1, h2⟩, h3⟩ := h
  rw [Nat.eq_of_beq_eq_true h1, Nat.eq_of_beq_eq_true h2, AV.beqs_eq h3]
 ·rw [ents_eq h.1, Nat.eq_of_beq_eq_true h.2]
section
variable {P : Program} {ops : Array Oper} {Q : Exit → Act → World → Prop}
def wpAnyI (P : Program) (ops : Array Oper) (Q : Exit → Act → World → Prop) (S : Nat → World → World → Prop) : Nat → Array Bool → Act → World → Prop
 | 0, listed, a, w => Region.ready .any ops listed = [] ∧ Q .normal a w
 | fuel + 1, listed, a, w =>
  (Region.ready .any ops listed = [] → Q .normal a w) ∧
  ∀ i ∈ Region.ready .any ops listed, wpOp P ops Q i (fun a' w' => S i w w' ∧ wpAnyI P ops Q S fuel (listed.setIfInBounds i true) a' w') a w
theorem wpAny_of_I {S : Nat → World → World → Prop} : ∀ (fuel : Nat) (listed : Array Bool) (a : Act) (w : World), wpAnyI P ops Q S fuel listed a w → wpAny P .any ops Q fuel listed a w
 | 0, _, _, _, h => h
 | fuel + 1, _, _, _, h => ⟨h.1, fun i hi => wpOp_mono (fun a' w' h' => wpAny_of_I fuel _ a' w' h'.2) (h.2 i hi)⟩
theorem wpAnyI.mono {S S' : Nat → World → World → Prop} (hs : ∀ i w w', S i w w' → S' i w w') : ∀ (fuel : Nat) (listed : Array Bool) (a : Act) (w : World), wpAnyI P ops Q S fuel listed a w → wpAnyI P ops Q S' fuel listed a w
 | 0, _, _, _, h => h
 | fuel + 1, _, _, _, h => ⟨h.1, fun i hi => wpOp_mono (fun a' w' h' => ⟨hs _ _ _ h'.1, wpAnyI.mono hs fuel _ a' w' h'.2⟩) (h.2 i hi)⟩
theorem wpOp_post {i : Nat} {a : Act} {w : World} {K : Act → World → Prop} {Q' : Exit → Act → World → Prop} (hq : ∀ e a w, Q e a w → Q' e a w) (h : wpOp P ops Q i K a w) : wpOp P ops Q' i K a w := by
 unfold wpOp at h ⊢
 split
 ·rename_i hi; simpa [hi] using h
 ·rename_i o hi
  simp only [hi] at h
  split
  ·rename_i hw
   simp only [hw, if_true] at h
   rcases h with h | ⟨h1, a', w', h2⟩
   ·left
    unfold Oper.wp at h ⊢
    exact upon_mono2 h (fun _ _ h => h) (fun e a w _ h => hq e a w h)
   ·exact .inr ⟨h1, a', w', hq _ _ _ h2⟩
  ·rename_i hw; simpa [hw] using h
theorem wpAnyI.post {S : Nat → World → World → Prop} {Q' : Exit → Act → World → Prop} (hq : ∀ e a w, Q e a w → Q' e a w) : ∀ (fuel : Nat) (listed : Array Bool) (a : Act) (w : World), wpAnyI P ops Q S fuel listed a w → wpAnyI P ops Q' S fuel listed a w
 | 0, _, _, _, h => ⟨h.1, hq _ _ _ h.2⟩
 | fuel + 1, _, _, _, h => ⟨fun e => hq _ _ _ (h.1 e), fun i hi => wpOp_post hq (wpOp_mono (fun a' w' h' => ⟨h'.1, wpAnyI.post hq fuel _ a' w' h'.2⟩) (h.2 i hi))⟩
inductive Anc (ops : Array Oper) : Nat → Nat → Prop where
 | one {j : Nat} {oj : Oper} {e : Edge} (hj : ops[j]? = some oj) (he : e ∈ oj.after) (hb : Region.binds .any e = true) : Anc ops j e.on
 | more {j k : Nat} {ok : Oper} {e : Edge} (h : Anc ops j k) (hk : ops[k]? = some ok) (he : e ∈ ok.after) (hb : Region.binds .any e = true) : Anc ops j e.on
def Closed (ops : Array Oper) (listed : Array Bool) : Prop := ∀ k ok, ops[k]? = some ok → listed.getD k false = true → ∀ e ∈ ok.after, Region.binds .any e = true → listed.getD e.on false = true
theorem Closed.anc {listed : Array Bool} (h : Closed ops listed) {j i : Nat} (ha : Anc ops j i) (hr : j ∈ Region.ready .any ops listed) : listed.getD i false = true := by
 induction ha with
 | one hj he hb =>
  obtain ⟨_, o, ho, hall⟩ := mem_ready.1 hr
  rw [hj] at ho; cases ho
  exact hall _ he hb
 | more _ hk he hb ih => exact h _ _ hk ih _ he hb
theorem Closed.add {listed : Array Bool} (h : Closed ops listed) {j : Nat} (hr : j ∈ Region.ready .any ops listed) : Closed ops (listed.setIfInBounds j true) := by
 intro k ok hk hl e he hb
 by_cases hkj : j = k
 ·subst hkj
  obtain ⟨_, o, ho, hall⟩ := mem_ready.1 hr
  rw [hk] at ho; cases ho
  exact getD_set_true (hall _ he hb)
 ·rw [getD_set_ne false hkj] at hl
  exact getD_set_true (h k ok hk hl e he hb)
theorem Closed.init (n : Nat) : Closed ops (Array.replicate n false) := by
 intro k ok hk hl
 simp [Array.getElem?_replicate] at hl
 split at hl <;> simp at hl
theorem wpAnyI_first {S : Nat → World → World → Prop} {Y : World → Prop} {i : Nat} {oi : Oper} {v : Value} (hi : ops[i]? = some oi) (hsel : ∀ (j : Nat) (o : Oper) cs b, ops[j]? = some o → o.op ≠ .select cs b)
  (hQ : ∀ c a w, Q (.panic c) (a.put oi.dst v) w → Q (.panic c) a w)
  (hY : ∀ j w w', ¬ Anc ops j i → Y w → S j w w' → Y w') (hSr : ∀ w, S i w w) :
  ∀ (fuel : Nat) (listed : Array Bool) (a : Act) (w : World),
   (∀ j oj, ops[j]? = some oj → j ≠ i → listed.getD j true = false → (∀ e ∈ oj.after, Region.binds .any e = true → e.on ≠ i) → oi.apart ops oj = true) →
   Closed ops listed → i ∈ Region.ready .any ops listed → YieldsIf P ops Y oi v a → Y w →
   wpAnyI P ops Q S fuel (listed.setIfInBounds i true) (a.put oi.dst v) w → wpAnyI P ops Q S (fuel + 1) listed a w := by
 intro fuel
 induction fuel with
 | zero =>
  intro listed a w _ _ hr hy hY0 H
  refine ⟨fun h => (by rw [h] at hr; cases hr), fun j hj => ?_⟩
  by_cases hji : j = i
  ·subst hji; exact hy.wpOp hi hY0 ⟨hSr w, H⟩
  ·have := ready_mono hj hji
   rw [H.1] at this
   cases this
 | succ fuel ih =>
  intro listed a w hfree hcl hr hy hY0 H
  refine ⟨fun h => (by rw [h] at hr; cases hr), fun j hj => ?_⟩
  by_cases hji : j = i
  ·subst hji; exact hy.wpOp hi hY0 ⟨hSr w, H⟩
  ·have h1 := H.2 j (ready_mono hj hji)
   obtain ⟨hjun, oj, hoj, hall⟩ := mem_ready.1 hj
   have hnot : ∀ e ∈ oj.after, Region.binds .any e = true → e.on ≠ i := fun e he hb heq => by
    have h1 := hall e he hb
    have h0 := (mem_ready.1 hr).1
    rw [heq] at h1
    rcases Nat.lt_or_ge i listed.size with h' | h'
    ·simp [h'] at h0 h1; rw [h0] at h1; cases h1
    ·simp [Array.getElem?_eq_none h'] at h1
   have h2 := wpOp_putIf hoj (hfree j oj hoj hji hjun hnot) (fun cs b => hsel i oi cs b hi) (fun cs b => hsel j oj cs b hoj) hQ hy h1
   have hfree' : ∀ k ok, ops[k]? = some ok → k ≠ i → (listed.setIfInBounds j true).getD k true = false →
     (∀ e ∈ ok.after, Region.binds .any e = true → e.on ≠ i) → oi.apart ops ok = true := fun k ok hk hki hun hno => by
    refine hfree k ok hk hki ?_ hno
    by_cases hjk : j = k
    ·subst hjk; exact hjun
    ·rw [getD_set_ne true hjk] at hun; exact hun
   refine wpOp_mono (fun a' w' h3 => ⟨h3.2.1, ?_⟩) h2
   have hanc : ¬ Anc ops j i := fun ha => by
    have h1 := hcl.anc ha hj
    have h0 := (mem_ready.1 hr).1
    rcases Nat.lt_or_ge i listed.size with h' | h'
    ·simp [h'] at h0 h1; rw [h0] at h1; cases h1
    ·simp [Array.getElem?_eq_none h'] at h1
   have hY' := hY j w w' hanc hY0 h3.2.1
   refine ih (listed.setIfInBounds j true) a' w' hfree' (hcl.add hj) (ready_mono hr (Ne.symm hji)) h3.1 hY' ?_
   rw [Array.setIfInBounds_comm _ _ hji]
   exact h3.2.2
end
inductive Ex where
 | nor | ret
 | exit (id : Nat)
def ExR : Ex → Exit → Prop
 | .nor, e => e = .normal
 | .ret, e => e = .ret
 | .exit id, e => e = .exit id
abbrev DL := List (FuncId × List AV)
structure Rs where
 e : Ex
 f : Tr AV
 d : DL
 s : St
 v : AV
inductive Plan where
 | done
 /-- operation i first -/
 | step (i : Nat) (p : Plan)
 /-- whichever of these comes up -/
 | alts (rs : List Nat) (p : Plan)
 /-- operation i; 'an': operations that it waits for, directly or through others -/
 | alt (i : Nat) (an : List Nat) (p q : Plan)
 | stop
abbrev Fact := Nat × Nat × Nat × List AV
inductive Task where
 | code (g nt : Nat) (c : Code)
 | ops (g nt : Nat) (arr : Array Oper) (l : List Oper)
 | call (g : FuncId) (args : List AV)
 | callD (g : FuncId) (args : List AV)
 | draw (nt : Nat) (arr : Array Oper) (n0 : Nat) (p : Plan) (L : List Fact)
structure Ctx where
 P : Program
 fn : Nat → Option Func
 plan : Nat → Nat → Option Plan
 prim : Nat → Option (List AV → St → Option (AV × St))
def primA (C : Ctx) (g : Nat) (args : List AV) (s : St) : Option (AV × St) :=
 match C.prim g with
 | some p => p args s
 | none => none
def initF : Nat → List AV → Tr AV → Tr AV
 | _, [], t => t
 | i, x :: l, t => initF (i + 1) l (t.set i (some x))
def putF (f : Tr AV) (dst : Option Nat) (v : AV) : Tr AV :=
 match dst with
 | some d => f.set d (some v)
 | none => f
def dstOk (nt : Nat) : Option Nat → Bool
 | some d => Nat.blt d nt
 | none => true
def isChain : Plan → Bool
 | .alt _ _ _ _ => true
 | .stop => true
 | _ => false
def waitsB (arr : Array Oper) (j i : Nat) : Bool :=
 match arr[j]? with
 | some o => o.after.any fun e => Region.binds .any e && Nat.beq e.on i
 | none => false
def ancOk (arr : Array Oper) (j : Nat) : List Nat → List Nat → Bool
 | _, [] => true
 | seen, i :: l => (waitsB arr j i || seen.any (fun k => waitsB arr k i)) && ancOk arr j (i :: seen) l
def planOk (arr : Array Oper) : Plan → Array Bool → List Nat → Nat → Bool
 | .done, listed, _, _ => (Region.ready .any arr listed).isEmpty
 | .step i p, listed, _, d + 1 => Region.free .any arr listed i && (Region.ready .any arr listed).contains i && planOk arr p (listed.setIfInBounds i true) [] d
 | .alts rs p, listed, _, d => (Region.ready .any arr listed == rs) && !rs.isEmpty && planOk arr p listed rs d
 | .alt i an p q, listed, j :: rs, d + 1 => Nat.beq i j && ancOk arr i [] an && !listed.getD i true && isChain q && planOk arr p (listed.setIfInBounds i true) [] d && planOk arr q listed rs (d + 1)
 | .stop, _, [], _ => true
 | _, _, _, _ => false
def isEnd : Ex → Bool
 | .exit _ => false
 | _ => true
def qrun (P : Program) (h : Tr Blk) (nt : Nat) (arr : Array Oper) : Tr AV → List Oper → Option (Tr AV)
 | f, [] => some f
 | f, o :: l => bif dstOk nt o.dst then (match wantedA arr f o with
  | some false => qrun P h nt arr (putF f o.dst .und) l
  | some true => match o.op with
   | .load t x => match loadA P h t (evA f x) with
    | some v => qrun P h nt arr (putF f o.dst v) l
    | none => none
   | _ => match pureA P h f o.op o.type with
    | some v => qrun P h nt arr (putF f o.dst v) l
    | none => none
  | none => none) else none
def Ex.beq : Ex → Ex → Bool
 | .nor, .nor => true
 | .ret, .ret => true
 | .exit i, .exit j => Nat.beq i j
 | _, _ => false
def DL.beq : DL → DL → Bool
 | [], [] => true
 | (g, l) :: d, (g', l') :: d' => Nat.beq g g' && AV.beqs l l' && DL.beq d d'
 | _, _ => false
def Rs.beq (r r' : Rs) : Bool := Ex.beq r.e r'.e && Tr.beq AV.beq r.f r'.f && DL.beq r.d r'.d && Tr.beq Blk.beq r.s.h r'.s.h && Nat.beq r.s.n r'.s.n && AV.beq r.v r'.v
theorem DL.beq_eq : ∀ {d d' : DL}, DL.beq d d' = true → d = d'
 | [], [], _ => rfl
 | [], _ :: _, h => by simp [DL.beq] at h
 | _ :: _, [], h => by simp [DL.beq] at h
 | (g, l) :: d, (g', l') :: d', h => by
  simp only [DL.beq, Bool.and_eq_true] at h
  obtain ⟨⟨h1, h2⟩, h3⟩ := h
  rw [Nat.eq_of_beq_eq_true h1, AV.beqs_eq h2, DL.beq_eq h3]
theorem Rs.beq_eq {r r' : Rs} (h : Rs.beq r r' = true) : r = r' := by
 simp only [Rs.beq, Bool.and_eq_true] at h
 obtain ⟨⟨⟨⟨⟨h1, h2⟩, h3⟩, h4⟩, h5⟩, h6⟩ := h
 obtain ⟨e, f, d, ⟨hp, n⟩, v⟩ := r
 obtain ⟨e', f', d', ⟨hp', n'⟩, v'⟩ := r'
 have e1 : e = e' := by
  cases e <;> cases e' <;> simp only [Ex.beq, Bool.false_eq_true] at h1
  ·rfl
  ·rfl
  ·rw [Nat.eq_of_beq_eq_true h1]
 have e2 := Tr.beq_eq (fun a b h => AV.beq_eq h) h2
 have e3 := DL.beq_eq h3
 have e4 := Tr.beq_eq Blk.beq_eq h4
 have e5 := Nat.eq_of_beq_eq_true h5
 have e6 := AV.beq_eq h6
 simp only at e2 e3 e4 e5 e6
 rw [e1, e2, e3, e4, e5, e6]
def factsOk (an : List Nat) (s : St) : List Fact → Bool
 | [] => true
 | (i, id, off, cs) :: L => (an.any (fun k => Nat.beq k i) || (match rowA s.h id off cs.length with | some l => AV.beqs l cs | none => false)) && factsOk an s L
def loadF (P : Program) (h : Tr Blk) (f : Tr AV) (i : Nat) (op : Op) : Option (AV × Fact) :=
 match op with
 | .load t x => match evA f x with
  | .p id off => match tyK P t with
   | some (bb, k) => match rowA h id off k with
    | some l => bif AV.dets l then (match mkA bb l with
     | some v => some (v, (i, id, off, l))
     | none => none) else none
    | none => none
   | none => none
  | _ => none
 | _ => none
def isStop : Plan → Bool
 | .stop => true
 | _ => false
def evl (C : Ctx) : Nat → Task → Tr AV → DL → St → Option Rs
 | 0, _, _, _, _ => none
 | n + 1, .code g nt c, f, d, s => match c with
  | .skip => some ⟨.nor, f, d, s, .und⟩
  | .ret => some ⟨.ret, f, d, s, .und⟩
  | .exit id => some ⟨.exit id, f, d, s, .und⟩
  | .seq x y => match evl C n (.code g nt x) f d s with
   | some ⟨.nor, f', d', s', _⟩ => evl C n (.code g nt y) f' d' s'
   | r => r
  | .cond c x y => match evA f c with
   | .b true => evl C n (.code g nt x) f d s
   | .b false => evl C n (.code g nt y) f d s
   | _ => none
  | .block id c => match evl C n (.code g nt c) f d s with
   | some ⟨.exit j, f', d', s', v⟩ => bif Nat.beq j id then some ⟨.nor, f', d', s', v⟩ else some ⟨.exit j, f', d', s', v⟩
   | r => r
  | .loop c => match evl C n (.code g nt c) f d s with
   | some ⟨.nor, f', d', s', _⟩ => evl C n (.code g nt (.loop c)) f' d' s'
   | r => r
  | .region id arr false => evl C n (.ops g nt arr arr.toList) f d s
  | .region id arr true => match C.plan g id with
   | some p => bif Region.noSelect arr && planOk arr p (Array.replicate arr.size false) [] arr.size then evl C n (.draw nt arr s.n p []) f d ⟨s.h, s.n + arr.size⟩ else none
   | none => bif Region.lexB .any arr then (match qrun C.P s.h nt arr f arr.toList with
    | some f' => some ⟨.nor, f', d, s, .und⟩
    | none => none) else none
  | _ => none
 | n + 1, .ops g nt arr l, f, d, s => match l with
  | [] => some ⟨.nor, f, d, s, .und⟩
  | o :: rest => bif dstOk nt o.dst then (match wantedA arr f o with
   | some false => evl C n (.ops g nt arr rest) (putF f o.dst .und) d s
   | some true => match calleeA C.P s.h f o.op with
    | some (g', args) => match evl C n (.call g' args) .e [] s with
     | some r => evl C n (.ops g nt arr rest) (putF f o.dst r.v) d r.s
     | none => none
    | none => match deferA f o.op with
     | some x => evl C n (.ops g nt arr rest) (putF f o.dst .und) (x :: d) s
     | none => match memA C.P s none f o.op o.type with
      | some (v, s') => evl C n (.ops g nt arr rest) (putF f o.dst v) d s'
      | none => none
   | none => none) else none
 | n + 1, .call g args, _, _, s => match primA C g args s with
  | some (v, s') => some ⟨.nor, .e, [], s', v⟩
  | none => match C.fn g with
   | some fn => match fn.body with
    | some c => bif Nat.ble args.length fn.ntmps then (match evl C n (.code g fn.ntmps c) (initF 0 args .e) [] s with
     | some r => bif isEnd r.e then (match r.d with
      | [] => match resList C.P r.f r.s fn.results.toList with
       | some l => some ⟨.nor, .e, [], r.s, packA l⟩
       | none => none
      | [(g', args')] => match evl C n (.callD g' args') .e [] r.s with
       | some r' => match resList C.P r.f r'.s fn.results.toList with
        | some l => some ⟨.nor, .e, [], r'.s, packA l⟩
        | none => none
       | none => none
      | _ => none) else none
     | none => none) else none
    | none => none
   | none => none
 | n + 1, .callD g args, _, _, s => match C.fn g with
   | some fn => match fn.body with
    | some c => bif Nat.ble args.length fn.ntmps then (match evl C n (.code g fn.ntmps c) (initF 0 args .e) [] s with
     | some r => bif isEnd r.e then (match r.d with
      | [] => match resList C.P r.f r.s fn.results.toList with
       | some l => some ⟨.nor, .e, [], r.s, packA l⟩
       | none => none
      | _ => none) else none
     | none => none) else none
    | none => none
   | none => none
 | n + 1, .draw nt arr n0 p L, f, d, s => match p with
  | .done => some ⟨.nor, f, d, s, .und⟩
  | .step i p => match arr[i]? with
   | some o => bif dstOk nt o.dst then (match wantedA arr f o with
    | some false => evl C n (.draw nt arr n0 p L) (putF f o.dst .und) d s
    | some true => match pureA C.P s.h f o.op o.type with
     | some v => evl C n (.draw nt arr n0 p L) (putF f o.dst v) d s
     | none => match loadF C.P s.h f i o.op with
      | some (v, fa) => evl C n (.draw nt arr n0 p (fa :: L)) (putF f o.dst v) d s
      | none => none
    | none => none) else none
   | none => none
  | .alts rs q => evl C n (.draw nt arr n0 q L) f d s
  | .alt i an p q => match arr[i]? with
   | some o => bif dstOk nt o.dst then
    (match (match wantedA arr f o with
     | some false => some (AV.und, s)
     | some true => match calleeA C.P s.h f o.op with
      | some (g', args) => match evl C n (.call g' args) .e [] s with
       | some r => some (r.v, r.s)
       | none => none
      | none => memA C.P s (some (n0 + i)) f o.op o.type
     | none => none) with
    | some (v, s1) => bif factsOk an s1 L then (match evl C n (.draw nt arr n0 p L) (putF f o.dst v) d s1 with
     | some r => bif isStop q then some r else (match evl C n (.draw nt arr n0 q L) f d s with
      | some r' => bif Rs.beq r r' then some r else none
      | none => none)
     | none => none) else none
    | none => none) else none
   | none => none
  | .stop => none
def CallS (P : Program) (g : FuncId) (args : List AV) (s : St) (v : AV) (s' : St) : Prop :=
 Callable P g ∧ ∀ w0 V w vs, Sim w0 V s w → VRs V args vs → Calls P g vs.toArray w fun e w' => ∃ V' z, Vx V V' s.n none ∧ e = .returned z ∧ VR V' v z ∧ Sim w0 V' s' w' ∧ s.n ≤ s'.n
def CallDS (P : Program) (g : FuncId) (args : List AV) (s : St) (v : AV) (s' : St) : Prop :=
 Callable P g ∧ ∀ w0 V w vs u, Sim w0 V s w → VRs V args vs → CallsD P g vs.toArray u w fun e u' w' => u' = u ∧ ∃ V' z, Vx V V' s.n none ∧ e = .returned z ∧ VR V' v z ∧ Sim w0 V' s' w' ∧ s.n ≤ s'.n
structure COk (C : Ctx) : Prop where
 fn : ∀ g fn, C.fn g = some fn → C.P.funcs[g]? = some fn ∧ Callable C.P g
 mix : C.P.follows .mixedOrders = true
 prim : ∀ g p args s v s', C.prim g = some p → p args s = some (v, s') → CallS C.P g args s v s'
def Po (w0 : World) (V : Vl) (n nt : Nat) (r : Rs) (e : Exit) (a : Act) (w : World) : Prop :=
 ExR r.e e ∧ ∃ V', Vx V V' n none ∧ Sim w0 V' r.s w ∧ FA V' nt r.f a ∧ DRs V' r.d a.defers ∧ n ≤ r.s.n
def FactOk (V : Vl) (fa : Fact) : Prop := AV.dets fa.2.2.2 = true ∧ ∃ b vs, V.ρ fa.2.1 = some b ∧ VRs V fa.2.2.2 vs
def SF (V : Vl) (arr : Array Oper) (L : List Fact) (j : Nat) (w w' : World) : Prop :=
 ∀ fa ∈ L, Anc arr j fa.1 ∨ ∀ b vs, V.ρ fa.2.1 = some b → VRs V fa.2.2.2 vs → CellsAt w b fa.2.2.1 vs → CellsAt w' b fa.2.2.1 vs
def DrawS (P : Program) (nt : Nat) (arr : Array Oper) (n0 : Nat) (p : Plan) (L : List Fact) (f : Tr AV) (d : DL) (s : St) (r : Rs) : Prop :=
 ∀ w0 V w a listed rs D fuel, planOk arr p listed rs D = true → D ≤ fuel → Region.noSelect arr = true → listed.size = arr.size → Closed arr listed → (∀ i ∈ rs, i ∈ Region.ready .any arr listed) → Sim w0 V s w → FA V nt f a → DRs V d a.defers → n0 + arr.size ≤ s.n →
  (∀ i, listed.getD i true = false → V.ρ (n0 + i) = none) → (∀ fa ∈ L, FactOk V fa) →
  match p with
  | .alt _ _ _ _ | .stop => ∀ fuel', fuel = fuel' + 1 → ∀ i ∈ rs, wpOp P arr (Po w0 V n0 nt r) i (fun a' w' => SF V arr L i w w' ∧ wpAnyI P arr (Po w0 V n0 nt r) (SF V arr L) fuel' (listed.setIfInBounds i true) a' w') a w
  | _ => wpAnyI P arr (Po w0 V n0 nt r) (SF V arr L) fuel listed a w
def TaskOk (C : Ctx) (t : Task) (f : Tr AV) (d : DL) (s : St) (r : Rs) : Prop :=
 match t with
 | .code g nt c => ∀ w0 V w a, Sim w0 V s w → FA V nt f a → DRs V d a.defers → c.wp C.P (Po w0 V s.n nt r) a w
 | .ops g nt arr l => ∀ w0 V w a, Sim w0 V s w → FA V nt f a → DRs V d a.defers → wpList C.P arr (Po w0 V s.n nt r) l a w
 | .call g args => CallS C.P g args s r.v r.s
 | .callD g args => CallDS C.P g args s r.v r.s
 | .draw nt arr n0 p L => r.e = .nor ∧ DrawS C.P nt arr n0 p L f d s r
section
variable {P : Program} {w0 w : World} {V V' : Vl} {n n' nt : Nat}
theorem FA.putF {f : Tr AV} {a : Act} (h : FA V nt f a) {dst : Option Nat} (hd : dstOk nt dst = true) {x : AV} {v : Value} (hv : VR V x v) : FA V nt (putF f dst x) (a.put dst v) := by
 cases dst with
 | none => exact h.put_none v
 | some d => exact h.put hd hv
theorem put_defers (a : Act) (dst : Option Nat) (v : Value) : (a.put dst v).defers = a.defers := by cases dst <;> rfl
theorem Po.back {r : Rs} {e : Exit} {a : Act} (h : Po w0 V' n' nt r e a w) (hx : Vx V V' n none) (hn : n ≤ n') : Po w0 V n nt r e a w := by
 obtain ⟨h1, V2, h2, h3, h4, h5, h6⟩ := h
 exact ⟨h1, V2, hx.trans h2 hn, h3, h4, h5, om9⟩
theorem wpList_post {arr : Array Oper} {Q Q' : Exit → Act → World → Prop} (hq : ∀ e a w, Q e a w → Q' e a w) : ∀ (l : List Oper) (a : Act) (w : World), wpList P arr Q l a w → wpList P arr Q' l a w
 | [], a, w, h => hq _ _ _ h
 | o :: l, a, w, h => by
  unfold wpList at h ⊢
  split
  ·rename_i hw
   rw [if_pos hw] at h
   rcases h with h | ⟨h1, a', w', h2⟩
   ·left
    unfold Oper.wp at h ⊢
    exact upon_mono2 h (fun a w h => wpList_post hq l a w h) (fun e a w _ h => hq e a w h)
   ·exact .inr ⟨h1, a', w', hq _ _ _ h2⟩
  ·rename_i hw
   rw [if_neg hw] at h
   exact wpList_post hq l _ _ h
theorem Step.wp {s : St} {nm : Option Nat} {a : Act} {o : Oper} {r : AV} {s' : St} {next : Act → World → Prop} {Q : Exit → Act → World → Prop} (h : Step P w0 V s nm a o w r s')
  (k : ∀ V' z w', Vx V V' s.n nm → VR V' r z → Sim w0 V' s' w' → s.n ≤ s'.n → next (a.put o.dst z) w') : o.wp P a w next Q := by
 obtain ⟨V', z, w', nx, h1, h2, h3, h4, h5, h6⟩ := h.ex
 unfold Oper.wp
 rw [h3]
 rcases h4 with rfl | ⟨rfl, rfl⟩
 ·exact k V' z w' h1 h2 h5 h6
 ·exact k V' undef w' h1 h2 h5 h6
theorem call_wp {s : St} {a : Act} {o : Oper} {g : FuncId} {args : List AV} {v : AV} {s' : St} {f : Tr AV} {next : Act → World → Prop} {Q : Exit → Act → World → Prop} (hc : calleeA P s.h f o.op = some (g, args)) (h : CallS P g args s v s') (hs : Sim w0 V s w) (hf : FA V nt f a)
  (k : ∀ V' z w', Vx V V' s.n none → VR V' v z → Sim w0 V' s' w' → s.n ≤ s'.n → next (a.put o.dst z) w') : o.wp P a w next Q := by
 obtain ⟨vs, h1, h2⟩ := calleeA_ok hc hs hf h.1
 unfold Oper.wp
 rw [h2]
 refine (h.2 w0 V w vs hs h1).mono ?_
 rintro e w' ⟨V', z, k1, rfl, k2, k3, k4⟩
 exact k V' z w' k1 k2 k3 k4
theorem qrun_ok {s : St} {arr : Array Oper} (hs : Sim w0 V s w) : ∀ {l : List Oper} {f f' : Tr AV} {a : Act} {d : DL}, qrun P s.h nt arr f l = some f' → FA V nt f a → DRs V d a.defers →
  wpQuiet P arr (fun w' => w' = w) (fun a' => FA V nt f' a' ∧ DRs V d a'.defers) l a
 | [], f, f', a, d, h, hf, hd => by
  simp only [qrun, Option.some.injEq] at h
  subst h
  exact wpQuiet_nil ⟨hf, hd⟩
 | o :: l, f, f', a, d, h, hf, hd => by
  simp only [qrun] at h
  cases hdst : dstOk nt o.dst
  ·simp [hdst] at h
  simp only [hdst, cond_true] at h
  have fin : ∀ {v : AV}, qrun P s.h nt arr (putF f o.dst v) l = some f' → ∀ z, VR V v z → wpQuiet P arr (fun w' => w' = w) (fun a' => FA V nt f' a' ∧ DRs V d a'.defers) l (a.put o.dst z) := fun h z hz =>
   qrun_ok hs h (hf.putF hdst hz) (by rw [put_defers]; exact hd)
  split at h
  ·rename_i hw
   have hw' := wantedA_ok hw hf
   refine wpQuiet_step fun K' hK' => ?_
   rw [if_neg (by rw [hw']; simp)]
   exact hK' _ (fin h undef (by simp only [VR]))
  ·rename_i hw
   have hw' := wantedA_ok hw hf
   refine wpQuiet_step fun K' hK' => ?_
   rw [if_pos hw']
   split at h
   ·rename_i t x ho
    split at h
    ·rename_i v hl
     obtain ⟨id, b, off, vs, z, _, h2, h3, h4, h5⟩ := loadA_ok (P := P) hl hs (hf.eval x)
     refine ⟨z, fun w' hw => ?_, hK' _ (fin h z h4)⟩
     subst hw
     unfold Oper.quietAt
     have : (execOp a.eval o).run P w' = .ok (.value z) w' := by simp [execOp, ho, h5 w' h3]
     rw [this]
     exact ⟨rfl, rfl⟩
    ·cases h
   ·split at h
    ·rename_i v hp
     obtain ⟨z, h1, h2⟩ := pureA_ok hp hf hs.kn
     refine ⟨z, fun w' hw => ?_, hK' _ (fin h z h1)⟩
     subst hw
     unfold Oper.quietAt
     rw [h2 w']
     exact ⟨rfl, rfl⟩
    ·cases h
  ·cases h
theorem SF.refl {arr : Array Oper} {L : List Fact} (j : Nat) (w : World) : SF V arr L j w w := fun fa _ => .inr fun _ _ _ _ h => h
theorem SF.weaken {arr : Array Oper} {L : List Fact} {fa : Fact} {j : Nat} {w w' : World} (h : SF V arr (fa :: L) j w w') : SF V arr L j w w' := fun x hx => h x (by simp [hx])
theorem FactOk.mono {fa : Fact} (h : FactOk V fa) (hl : V.le V') : FactOk V' fa := by
 obtain ⟨h1, b, vs, h2, h3⟩ := h
 exact ⟨h1, b, vs, (hl.1 _ _ h2).1, h3.mono hl⟩
theorem SF.back {arr : Array Oper} {L : List Fact} {j : Nat} {w w' : World} (hL : ∀ fa ∈ L, FactOk V fa) (hl : V.le V') (h : SF V' arr L j w w') : SF V arr L j w w' := by
 intro fa hfa
 rcases h fa hfa with h | h
 ·exact .inl h
 ·exact .inr fun b vs h1 h2 => h b vs (hl.1 _ _ h1).1 (h2.mono hl)
theorem waitsB_ok {arr : Array Oper} {j i : Nat} (h : waitsB arr j i = true) : ∃ oj, arr[j]? = some oj ∧ ∃ e ∈ oj.after, Region.binds .any e = true ∧ e.on = i := by
 unfold waitsB at h
 split at h
 ·rename_i o ho
  obtain ⟨e, he, hb⟩ := Array.any_eq_true'.1 h
  simp only [Bool.and_eq_true] at hb
  exact ⟨o, ho, e, he, hb.1, Nat.eq_of_beq_eq_true hb.2⟩
 ·cases h
theorem ancOk_ok {arr : Array Oper} {j : Nat} : ∀ {l seen : List Nat}, ancOk arr j seen l = true → (∀ k ∈ seen, Anc arr j k) → ∀ i ∈ l, Anc arr j i
 | [], _, _, _, i, hi => by cases hi
 | x :: l, seen, h, hs, i, hi => by
  simp only [ancOk, Bool.and_eq_true, Bool.or_eq_true, List.any_eq_true] at h
  have hx : Anc arr j x := by
   rcases h.1 with h1 | ⟨k, hk, h1⟩
   ·obtain ⟨oj, h2, e, he, hb, rfl⟩ := waitsB_ok h1
    exact .one h2 he hb
   ·obtain ⟨ok, h2, e, he, hb, rfl⟩ := waitsB_ok h1
    exact .more (hs k hk) h2 he hb
  rcases List.mem_cons.1 hi with rfl | hi
  ·exact hx
  ·refine ancOk_ok h.2 (fun k hk => ?_) i hi
   rcases List.mem_cons.1 hk with rfl | hk
   ·exact hx
   ·exact hs k hk
theorem factsOk_ok {arr : Array Oper} {an : List Nat} {s : St} {i : Nat} {w1 : World} (hi : ∀ k ∈ an, Anc arr i k) : ∀ {L : List Fact}, factsOk an s L = true → (∀ fa ∈ L, FactOk V fa) → V.le V' → Sim w0 V' s w → SF V arr L i w1 w
 | [], _, _, _, _ => fun fa hfa => by simp at hfa
 | (k, id, off, cs) :: L, h, hL, hl, hs => by
  simp only [factsOk, Bool.and_eq_true, Bool.or_eq_true] at h
  intro fa hfa
  rcases List.mem_cons.1 hfa with rfl | hfa
  ·rcases h.1 with h1 | h1
   ·obtain ⟨k, hk, hb⟩ := List.any_eq_true.1 h1
    have := Nat.eq_of_beq_eq_true hb
    subst this
    exact .inl (hi _ hk)
   ·refine .inr fun b vs k1 k2 _ => ?_
    split at h1
    ·rename_i l hl1
     have := AV.beqs_eq h1
     subst this
     obtain ⟨us, k3, k4, k5⟩ := rowA_ok hl1 hs (hl.1 _ _ k1).1
     obtain ⟨hd, _⟩ := hL (k, id, off, l) (by simp)
     have : vs = us := VRs.det hd (k2.mono hl) k3
     subst this
     exact k5
    ·cases h1
  ·exact factsOk_ok hi h.2 (fun x hx => hL x (by simp [hx])) hl hs fa hfa
theorem loadF_ok {s : St} {f : Tr AV} {i : Nat} {a : Act} {o : Oper} {v : AV} {fa : Fact} (h : loadF P s.h f i o.op = some (v, fa)) (hs : Sim w0 V s w) (hf : FA V nt f a) :
  fa.1 = i ∧ FactOk V fa ∧ ∃ b vs z, V.ρ fa.2.1 = some b ∧ VRs V fa.2.2.2 vs ∧ CellsAt w b fa.2.2.1 vs ∧ VR V v z ∧ ∀ w', CellsAt w' b fa.2.2.1 vs → (execOp a.eval o).run P w' = .ok (.value z) w' := by
 unfold loadF at h
 split at h
 ·rename_i t x ho
  have hx := hf.eval x
  split at h
  ·rename_i id off hb
   rw [hb] at hx; simp only [VR] at hx
   obtain ⟨b, h1, h2⟩ := hx
   split at h
   ·rename_i bb k ht
    split at h
    ·rename_i l hl
     cases hd : AV.dets l
     ·simp [hd] at h
     simp only [hd, cond_true] at h
     split at h
     ·rename_i v' hm
      cases h
      obtain ⟨vs, k1, k2, k3⟩ := rowA_ok hl hs h1
      obtain ⟨k4, k5⟩ := mkA_ok hm k1
      refine ⟨rfl, ⟨hd, b, vs, h1, k1⟩, b, vs, mkV bb vs, h1, k1, k3, k4, fun w' hw' => ?_⟩
      have := hw'.load (P := P) ht k2 (fun e => by rw [← k2]; exact k5 e)
      simp [execOp, ho, h2, Instr.loadAt, Instr.sureAddr, this]
     ·cases h
    ·cases h
   ·cases h
  ·cases h
 ·cases h
theorem free_all {arr : Array Oper} {listed : Array Bool} {i : Nat} {oi : Oper} (hi : arr[i]? = some oi) (h : Region.free .any arr listed i = true) :
  ∀ j oj, arr[j]? = some oj → j ≠ i → listed.getD j true = false → (∀ e ∈ oj.after, Region.binds .any e = true → e.on ≠ i) → oi.apart arr oj = true := fun j oj hj hne hun hno => Region.free_spec hi h j oj hj hne hun hno
end
section
variable {C : Ctx}
theorem init_ok {V : Vl} : ∀ {args : List AV} {vs : List Value} {i : Nat} {t : Tr AV} {ws : List Value}, VRs V args vs → ws.length = i → (∀ j, VR V ((t.get j).getD .und) (ws.getD j undef)) →
  ∀ j, VR V (((initF i args t).get j).getD .und) ((ws ++ vs).getD j undef)
 | [], vs, i, t, ws, h, hw, ht, j => by simp only [VRs] at h; subst h; simpa [initF] using ht j
 | x :: l, vs, i, t, ws, h, hw, ht, j => by
  simp only [VRs] at h
  obtain ⟨v, us, h1, h2, rfl⟩ := h
  simp only [initF]
  have := init_ok (t := t.set i (some x)) (ws := ws ++ [v]) h2 (i := i + 1) (by simp [hw]) (fun k => ?_) j
  ·simpa using this
  ·rw [Tr.get_set]
   by_cases e : k = i
   ·subst e
    rw [if_pos rfl]
    simp only [Option.getD_some, List.getD_eq_getElem?_getD]
    rw [List.getElem?_append_right om9]
    simpa [hw] using h1
   ·rw [if_neg e]
    have h3 := ht k
    simp only [List.getD_eq_getElem?_getD] at h3 ⊢
    by_cases hk : k < ws.length
    ·rw [List.getElem?_append_left hk]; exact h3
    ·rw [List.getElem?_eq_none (by simp; omega)]
     rw [List.getElem?_eq_none om9] at h3
     exact h3
theorem enter_ok {V : Vl} {nt : Nat} {args : List AV} {vs : List Value} (h : VRs V args vs) (hle : Nat.ble args.length nt = true) : FA V nt (initF 0 args .e) { tmps := vs.toArray ++ Array.replicate (nt - vs.toArray.size) undef, defers := [] } := by
 have hl : vs.length ≤ nt := by rw [h.len]; simpa using hle
 refine ⟨by simp; omega, fun t => ?_⟩
 have h1 := init_ok (t := .e) (ws := []) h rfl (fun j => by simp [Tr.get_e, VR]) t
 simp only [List.nil_append, List.getD_eq_getElem?_getD] at h1
 simp only [Array.getD_eq_getD_getElem?]
 by_cases ht : t < vs.length
 ·rw [Array.getElem?_append_left (by simpa using ht)]
  simpa using h1
 ·rw [Array.getElem?_append_right (by simpa using ht)]
  rw [List.getElem?_eq_none om9] at h1
  rw [Array.getElem?_replicate]
  split <;> simpa using h1
theorem code_ok (hC : COk C) (n : Nat) (ih' : ∀ k, k ≤ n → ∀ t f d s r, evl C k t f d s = some r → TaskOk C t f d s r) (g nt : Nat) (c : Code) (f : Tr AV) (d : DL) (s : St) (r : Rs) (h : evl C (n + 1) (.code g nt c) f d s = some r) :
  TaskOk C (.code g nt c) f d s r := by
 have ih := ih' n (Nat.le_refl _)
 intro w0 V w a hs hf hd
 simp only [evl] at h
 split at h
 ·-- skip
  cases h
  exact wp_skip ⟨rfl, V, Vx.rfl, hs, hf, hd, Nat.le_refl _⟩
 ·cases h
  exact wp_ret ⟨rfl, V, Vx.rfl, hs, hf, hd, Nat.le_refl _⟩
 ·cases h
  exact wp_exit ⟨rfl, V, Vx.rfl, hs, hf, hd, Nat.le_refl _⟩
 ·-- seq
  rename_i x y
  split at h
  ·rename_i f' d' s' v' hx
   have h1 := ih _ _ _ _ _ hx w0 V w a hs hf hd
   refine wp_seq (wp_mono h1 ?_)
   rintro e a' w' ⟨he, V', k1, k2, k3, k4, k5⟩
   simp only [ExR] at he
   subst he
   have h2 := ih _ _ _ _ _ h w0 V' w' a' k2 k3 k4
   exact wp_mono h2 (fun e a w h => h.back k1 k5)
  ·rename_i hno
   have h1 := ih _ _ _ _ _ h w0 V w a hs hf hd
   refine wp_seq (wp_mono h1 ?_)
   rintro e a' w' hp
   obtain ⟨he, V', k1, k2, k3, k4, k5⟩ := hp
   cases e with
   | normal =>
    exfalso
    obtain ⟨re, rf, rd, rs, rv⟩ := r
    cases re <;> simp [ExR] at he
    exact hno rf rd rs rv h
   | _ => exact ⟨he, V', k1, k2, k3, k4, k5⟩
 ·-- cond
  rename_i c x y
  have hc := hf.eval c
  split at h
  ·rename_i hb
   rw [hb] at hc; simp only [VR] at hc
   exact wp_cond hc (ih _ _ _ _ _ h w0 V w a hs hf hd)
  ·rename_i hb
   rw [hb] at hc; simp only [VR] at hc
   exact wp_cond hc (ih _ _ _ _ _ h w0 V w a hs hf hd)
  ·cases h
 ·-- block
  rename_i id c
  split at h
  ·rename_i j f' d' s' v' hx
   have h1 := ih _ _ _ _ _ hx w0 V w a hs hf hd
   refine wp_block (wp_mono h1 ?_)
   rintro e a' w' ⟨he, V', k1, k2, k3, k4, k5⟩
   simp only [ExR] at he
   subst he
   simp only [Exit.inBlock]
   cases hj : Nat.beq j id
   ·simp only [hj, cond_false, Option.some.injEq] at h
    subst h
    rw [nbeq] at hj
    rw [if_neg (of_decide_eq_false hj)]
    exact ⟨rfl, V', k1, k2, k3, k4, k5⟩
   ·simp only [hj, cond_true, Option.some.injEq] at h
    subst h
    rw [nbeq] at hj
    rw [if_pos (of_decide_eq_true hj)]
    exact ⟨rfl, V', k1, k2, k3, k4, k5⟩
  ·rename_i hno
   have h1 := ih _ _ _ _ _ h w0 V w a hs hf hd
   refine wp_block (wp_mono h1 ?_)
   rintro e a' w' ⟨he, V', k1, k2, k3, k4, k5⟩
   cases e with
   | exit id' =>
    exfalso
    obtain ⟨re, rf, rd, rs, rv⟩ := r
    cases re <;> simp [ExR] at he
    exact hno _ rf rd rs rv h
   | _ => exact ⟨he, V', k1, k2, k3, k4, k5⟩
 ·-- loop
  rename_i c
  refine wp_loop_ghost (fun m a w => ∃ f d s' V', m ≤ n + 1 ∧ evl C m (.code g nt (.loop c)) f d s' = some r ∧ Sim w0 V' s' w ∧ FA V' nt f a ∧ DRs V' d a.defers ∧ Vx V V' s.n none ∧ s.n ≤ s'.n) (n + 1)
   ⟨f, d, s, V, Nat.le_refl _, by simp only [evl]; exact h, hs, hf, hd, Vx.rfl, Nat.le_refl _⟩ ?_
  rintro m a1 w1 ⟨f1, d1, s1, V1, hm, h1, i1, i2, i3, i4, i5⟩
  cases m with
  | zero => simp [evl] at h1
  | succ k =>
   have ihk := ih' k om9
   simp only [evl] at h1
   split at h1
   ·rename_i f' d' s' v' hx
    have h2 := ihk _ _ _ _ _ hx w0 V1 w1 a1 i1 i2 i3
    refine wp_mono h2 ?_
    rintro e a' w' ⟨he, V', k1, k2, k3, k4, k5⟩
    simp only [ExR] at he
    subst he
    exact ⟨k, om9, f', d', s', V', om9, h1, k2, k3, k4, i4.trans k1 i5, by have := k5; simp only at this; omega⟩
   ·rename_i hno
    have h2 := ihk _ _ _ _ _ h1 w0 V1 w1 a1 i1 i2 i3
    refine wp_mono h2 ?_
    rintro e a' w' hp
    have hp' := hp.back i4 i5
    obtain ⟨he, V', k1, k2, k3, k4, k5⟩ := hp'
    cases e with
    | normal =>
     exfalso
     obtain ⟨re, rf, rd, rs, rv⟩ := r
     cases re <;> simp [ExR] at he
     exact hno rf rd rs rv h1
    | _ => exact ⟨he, V', k1, k2, k3, k4, k5⟩
 ·-- region
  rename_i id arr
  exact wp_region_list (ih _ _ _ _ _ h w0 V w a hs hf hd)
 ·rename_i id arr
  split at h
  ·rename_i p hp
   cases hc : Region.noSelect arr && planOk arr p (Array.replicate arr.size false) [] arr.size
   ·simp [hc] at h
   simp only [hc, cond_true] at h
   simp only [Bool.and_eq_true] at hc
   obtain ⟨h1, h2⟩ := ih _ _ _ _ _ h
   have hs' : Sim w0 V ⟨s.h, s.n + arr.size⟩ { w with drawn := w.drawn + 1 } := ⟨hs.os, hs.tape, hs.output, hs.size, hs.keep, fun id b hb => by have := hs.fresh id b hb; show id < s.n + arr.size; omega, hs.live, hs.inj⟩
   have h3 := h2 w0 V { w with drawn := w.drawn + 1 } a (Array.replicate arr.size false) [] arr.size arr.size hc.2 (Nat.le_refl _) hc.1 (by simp) (Closed.init _) (fun i hi => by cases hi) hs' hf hd (Nat.le_refl _) (fun i hi => by
    cases e : V.ρ (s.n + i) with
    | none => rfl
    | some b => have := hs.fresh _ _ e; omega) (fun fa hfa => by simp at hfa)
   have h4 : wpAnyI C.P arr (Po w0 V s.n nt r) (SF V arr []) arr.size (Array.replicate arr.size false) a { w with drawn := w.drawn + 1 } := by
    cases p with
    | alt i an p q => cases hn : arr.size <;> simp [planOk, hn] at hc
    | stop => 
     -- no alternatives: cannot be
     exact absurd h (by cases n <;> simp [evl])
    | done => exact h3
    | step i p => exact h3
    | alts rs p => exact h3
   exact wp_region_any hC.mix (wpAny_of_I _ _ _ _ h4)
  ·rename_i hp
   cases hc : Region.lexB .any arr
   ·simp [hc] at h
   simp only [hc, cond_true] at h
   split at h
   ·rename_i f' hq
    cases h
    have hs' : Sim w0 V s { w with drawn := w.drawn + 1 } := hs.drew
    have h1 := qrun_ok hs' hq hf hd
    refine wp_region_quiet (C := fun w' => w' = { w with drawn := w.drawn + 1 }) hC.mix hc rfl ?_
    have key : ∀ (l' : List Oper) (a : Act), wpQuiet C.P arr (fun w' => w' = { w with drawn := w.drawn + 1 }) (fun a' => FA V nt f' a' ∧ DRs V d a'.defers) l' a →
      wpQuiet C.P arr (fun w' => w' = { w with drawn := w.drawn + 1 }) (fun a' => ∀ w', w' = { w with drawn := w.drawn + 1 } → Po w0 V s.n nt ⟨.nor, f', d, s, .und⟩ .normal a' w') l' a := by
     intro l'
     induction l' with
     | nil => rintro a ⟨k1, k2⟩ w' rfl; exact ⟨rfl, V, Vx.rfl, hs', k1, k2, Nat.le_refl _⟩
     | cons o l' ih2 =>
      intro a h
      unfold wpQuiet at h ⊢
      split at h
      ·rename_i hw; rw [if_pos hw]; exact Oper.quiet_mono ih2 h
      ·rename_i hw; rw [if_neg hw]; exact ih2 _ h
    exact key _ _ h1
   ·cases h
 ·cases h
theorem ops_ok (n : Nat) (ih : ∀ t f d s r, evl C n t f d s = some r → TaskOk C t f d s r) (g nt : Nat) (arr : Array Oper) (l : List Oper) (f : Tr AV) (d : DL) (s : St) (r : Rs) (h : evl C (n + 1) (.ops g nt arr l) f d s = some r) :
  TaskOk C (.ops g nt arr l) f d s r := by
 intro w0 V w a hs hf hd
 simp only [evl] at h
 split at h
 ·cases h
  exact ⟨rfl, V, Vx.rfl, hs, hf, hd, Nat.le_refl _⟩
 ·rename_i o rest
  cases hdst : dstOk nt o.dst
  ·simp [hdst] at h
  simp only [hdst, cond_true] at h
  have goes : ∀ {v : AV} {d' : DL} {s' : St}, evl C n (.ops g nt arr rest) (putF f o.dst v) d' s' = some r → ∀ V' z w' a', Vx V V' s.n none → VR V' v z → Sim w0 V' s' w' → s.n ≤ s'.n → FA V nt f a' → DRs V' d' a'.defers →
    wpList C.P arr (Po w0 V s.n nt r) rest (a'.put o.dst z) w' := fun h V' z w' a' k1 k2 k3 k4 k5 k6 => by
   have h1 := ih _ _ _ _ _ h w0 V' w' (a'.put o.dst z) k3 ((k5.mono k1.1).putF hdst k2) (by rw [put_defers]; exact k6)
   exact wpList_post (fun e a w h => h.back k1 k4) _ _ _ h1
  unfold wpList
  split at h
  ·rename_i hw
   have hw' := wantedA_ok hw hf
   rw [if_neg (by rw [hw']; simp)]
   exact goes h V undef w a Vx.rfl (by simp only [VR]) hs (Nat.le_refl _) hf hd
  ·rename_i hw
   have hw' := wantedA_ok hw hf
   rw [if_pos hw']
   left
   split at h
   ·rename_i g' args hc
    split at h
    ·rename_i r' hr
     have h1 := ih _ _ _ _ _ hr
     exact call_wp hc h1 hs hf fun V' z w' k1 k2 k3 k4 => goes h V' z w' a k1 k2 k3 k4 hf (hd.mono k1.1)
    ·cases h
   ·split at h
    ·rename_i x hx
     obtain ⟨g', args⟩ := x
     obtain ⟨vs, cs, h1, h2⟩ := deferA_ok (P := C.P) hx hf
     unfold Oper.wp
     rw [h2 w]
     refine goes h V undef w _ Vx.rfl (by simp only [VR]) hs (Nat.le_refl _) ⟨hf.size, hf.get⟩ ?_
     simp only [DRs]
     exact ⟨vs, cs, _, h1, hd, rfl⟩
    ·split at h
     ·rename_i v s' hm
      have h1 := memA_ok hm hs (fun p hp => by cases hp) hf
      exact h1.wp fun V' z w' k1 k2 k3 k4 => goes h V' z w' a k1 k2 k3 k4 hf (hd.mono k1.1)
     ·cases h
  ·cases h
theorem end_ok {fn : Func} {w0 : World} {V V' : Vl} {s : St} {r : Rs} {e : Exit} {a : Act} {w : World} (he : isEnd r.e = true) (hp : Po w0 V s.n fn.ntmps r e a w) {l : List AV} (hr : resList C.P r.f r.s fn.results.toList = some l) (hd0 : r.d = []) :
  bodyPost C.P fn (fun e w' => ∃ V' z, Vx V V' s.n none ∧ e = .returned z ∧ VR V' (packA l) z ∧ Sim w0 V' r.s w' ∧ s.n ≤ r.s.n) e a w := by
 obtain ⟨he', V2, k1, k2, k3, k4, k5⟩ := hp
 rw [hd0] at k4
 simp only [DRs] at k4
 obtain ⟨z, h1, h2⟩ := results_ok (P := C.P) k2 k3 hr
 have : a.defers = [] ∧ ∃ v, (results fn a.tmps).run C.P w = .ok v w ∧ (fun e w' => ∃ V' z, Vx V V' s.n none ∧ e = Ending.returned z ∧ VR V' (packA l) z ∧ Sim w0 V' r.s w' ∧ s.n ≤ r.s.n) (.returned v) w :=
  ⟨k4, z, h2, V2, z, k1, rfl, h1, k2, k5⟩
 cases hre : r.e with
 | nor => rw [hre] at he'; simp only [ExR] at he'; subst he'; exact this
 | ret => rw [hre] at he'; simp only [ExR] at he'; subst he'; exact this
 | exit id => rw [hre] at he; simp [isEnd] at he
theorem callD_ok (hC : COk C) (n : Nat) (ih : ∀ t f d s r, evl C n t f d s = some r → TaskOk C t f d s r) (g : FuncId) (args : List AV) (f : Tr AV) (d : DL) (s : St) (r : Rs) (h : evl C (n + 1) (.callD g args) f d s = some r) :
  TaskOk C (.callD g args) f d s r := by
 simp only [evl] at h
 split at h
 ·rename_i fn hfn
  obtain ⟨hf1, hf2⟩ := hC.fn g fn hfn
  split at h
  ·rename_i c hb
   cases hle : Nat.ble args.length fn.ntmps
   ·simp [hle] at h
   simp only [hle, cond_true] at h
   split at h
   ·rename_i r1 hr1
    cases he : isEnd r1.e
    ·simp [he] at h
    simp only [he, cond_true] at h
    split at h
    ·rename_i hd0
     split at h
     ·rename_i l hl
      cases h
      refine ⟨hf2, fun w0 V w vs u hs hvs => ?_⟩
      have h1 := ih _ _ _ _ _ hr1 w0 V w _ hs (enter_ok hvs hle) (by simp only [DRs])
      exact callsD_of_wp hf1 hb (wp_mono h1 fun e a w hp => end_ok (V' := V) he hp hl hd0)
     ·cases h
    ·cases h
   ·cases h
  ·cases h
 ·cases h
theorem call_ok (hC : COk C) (n : Nat) (ih : ∀ t f d s r, evl C n t f d s = some r → TaskOk C t f d s r) (g : FuncId) (args : List AV) (f : Tr AV) (d : DL) (s : St) (r : Rs) (h : evl C (n + 1) (.call g args) f d s = some r) :
  TaskOk C (.call g args) f d s r := by
 simp only [evl] at h
 split at h
 ·rename_i v s' hps
  cases h
  unfold primA at hps
  split at hps
  ·rename_i p hp
   exact hC.prim g p args s v s' hp hps
  ·cases hps
 ·split at h
  ·rename_i fn hfn
   obtain ⟨hf1, hf2⟩ := hC.fn g fn hfn
   split at h
   ·rename_i c hb
    cases hle : Nat.ble args.length fn.ntmps
    ·simp [hle] at h
    simp only [hle, cond_true] at h
    split at h
    ·rename_i r1 hr1
     cases he : isEnd r1.e
     ·simp [he] at h
     simp only [he, cond_true] at h
     split at h
     ·rename_i hd0
      split at h
      ·rename_i l hl
       cases h
       refine ⟨hf2, fun w0 V w vs hs hvs => ?_⟩
       have h1 := ih _ _ _ _ _ hr1 w0 V w _ hs (enter_ok hvs hle) (by simp only [DRs])
       exact calls_of_wp hf1 hb (wp_mono h1 fun e a w hp => end_ok (V' := V) he hp hl hd0)
      ·cases h
     ·rename_i g' args' hd1
      split at h
      ·rename_i r2 hr2
       split at h
       ·rename_i l hl
        cases h
        refine ⟨hf2, fun w0 V w vs hs hvs => ?_⟩
        have h1 := ih _ _ _ _ _ hr1 w0 V w _ hs (enter_ok hvs hle) (by simp only [DRs])
        obtain ⟨hcl, h2⟩ := ih _ _ _ _ _ hr2
        refine calls_of_wp_defers hf1 hb (wp_mono h1 ?_)
        rintro e a1 w1 ⟨he', V2, k1, k2, k3, k4, k5⟩
        rw [hd1] at k4
        simp only [DRs] at k4
        obtain ⟨us, cs, t, k6, rfl, k7⟩ := k4
        have key : Leaves C.P fn a1.tmps (fun e w' => ∃ V' z, Vx V V' s.n none ∧ e = .returned z ∧ VR V' (packA l) z ∧ Sim w0 V' r2.s w' ∧ s.n ≤ r2.s.n) a1.defers .returning w1 := by
         rw [k7]
         refine leaves_cons (f := g') (args := (us ++ cs).toArray) (by simp) ?_ ?_
         ·have := hcl (us.toArray ++ cs.toArray) w1
          simp only [invoke]
          rw [this]
          simp
         ·refine (h2 w0 V2 w1 (us ++ cs) .returning k2 k6).mono ?_
          rintro e' u' w' ⟨rfl, V3, z, j1, rfl, j2, j3, j4⟩
          obtain ⟨z', m1, m2⟩ := results_ok (P := C.P) j3 (k3.mono j1.1) hl
          exact ⟨z', m2, V3, z', k1.trans j1 k5, rfl, m1, j3, om9⟩
        cases hre : r1.e with
        | nor => rw [hre] at he'; simp only [ExR] at he'; subst he'; exact key
        | ret => rw [hre] at he'; simp only [ExR] at he'; subst he'; exact key
        | exit id => rw [hre] at he; simp [isEnd] at he
       ·cases h
      ·cases h
     ·cases h
    ·cases h
   ·cases h
  ·cases h
end
section
variable {C : Ctx}
theorem getD_lt {listed : Array Bool} {i : Nat} (h : listed.getD i true = false) : i < listed.size := by
 rcases Nat.lt_or_ge i listed.size with h' | h'
 ·exact h'
 ·simp [Array.getElem?_eq_none h'] at h
theorem draw_ok (n : Nat) (ih : ∀ t f d s r, evl C n t f d s = some r → TaskOk C t f d s r) (nt : Nat) (arr : Array Oper) (n0 : Nat) (p : Plan) (L : List Fact) (f : Tr AV) (d : DL) (s : St) (r : Rs) (h : evl C (n + 1) (.draw nt arr n0 p L) f d s = some r) :
  TaskOk C (.draw nt arr n0 p L) f d s r := by
 have hQ : ∀ {w0 : World} {V : Vl} (dst : Option Tmp) (v : Value) c a w, Po w0 V n0 nt r (.panic c) (Act.put a dst v) w → Po w0 V n0 nt r (.panic c) a w := fun dst v c a w h => by
  obtain ⟨h1, _⟩ := h
  cases hr : r.e <;> rw [hr] at h1 <;> cases h1
 simp only [evl] at h
 split at h
 ·-- done
  cases h
  refine ⟨rfl, ?_⟩
  intro w0 V w a listed rs D fuel hpl hD hns hsz hcl hrr hs hf hd hn0 hnm hL
  simp only [planOk] at hpl
  have hr : Region.ready .any arr listed = [] := by simpa using hpl
  have hP : Po w0 V n0 nt ⟨.nor, f, d, s, .und⟩ .normal a w := ⟨rfl, V, Vx.rfl, hs, hf, hd, by show n0 ≤ s.n; omega⟩
  show wpAnyI C.P arr _ _ fuel listed a w
  cases fuel with
  | zero => exact ⟨hr, hP⟩
  | succ k => exact ⟨fun _ => hP, by rw [hr]; simp⟩
 ·-- step
  rename_i i p
  split at h
  ·rename_i o hi
   cases hdst : dstOk nt o.dst
   ·simp [hdst] at h
   simp only [hdst, cond_true] at h
   -- what remains to be said once the operation has yielded z wherever Y holds
   have main : ∀ {v : AV} {L' : List Fact}, evl C n (.draw nt arr n0 p L') (putF f o.dst v) d s = some r →
     (∀ w0 V w a, Sim w0 V s w → FA V nt f a → (∀ fa ∈ L, FactOk V fa) → (∀ fa ∈ L', FactOk V fa) ∧ (∀ j w w', SF V arr L' j w w' → SF V arr L j w w') ∧ ∃ (Y : World → Prop) (z : Value), VR V v z ∧ YieldsIf C.P arr Y o z a ∧ Y w ∧
      ∀ j w w', ¬ Anc arr j i → Y w → SF V arr L' j w w' → Y w') →
     r.e = .nor ∧ DrawS C.P nt arr n0 (.step i p) L f d s r := fun {v L'} hgo key => by
    obtain ⟨hre, hnext⟩ := ih _ _ _ _ _ hgo
    refine ⟨hre, ?_⟩
    intro w0 V w a listed rs D fuel hpl hD hns hsz hcl hrr hs hf hd hn0 hnm hL
    cases D with
    | zero => simp [planOk] at hpl
    | succ D =>
    simp only [planOk, Bool.and_eq_true] at hpl
    obtain ⟨⟨c1, c2⟩, c3⟩ := hpl
    cases fuel with
    | zero => omega
    | succ fuel =>
    obtain ⟨hL', hS, Y, z, k1, k2, k3, k4⟩ := key w0 V w a hs hf hL
    have h1 := hnext w0 V w (a.put o.dst z) (listed.setIfInBounds i true) [] D fuel c3 om9 hns (by simp [hsz]) (hcl.add (by simpa using c2)) (fun i hi => by cases hi) hs (hf.putF hdst k1) (by rw [put_defers]; exact hd) hn0
     (fun j hj => hnm j (by
      by_cases e : i = j
      ·subst e
       have := getD_lt hj
       simp at this
       simp [this] at hj
      ·rw [getD_set_ne true e] at hj; exact hj)) hL'
    have h2 : wpAnyI C.P arr (Po w0 V n0 nt r) (SF V arr L') fuel (listed.setIfInBounds i true) (a.put o.dst z) w := by
     cases p with
     | alt _ _ _ _ => simp [planOk] at c3
     | stop =>
      exact absurd hgo (by cases n <;> simp [evl])
     | done => exact h1
     | step _ _ => exact h1
     | alts _ _ => exact h1
    refine wpAnyI.mono hS _ _ _ _ (wpAnyI_first hi (Region.noSelect_spec hns) (fun c a w h => hQ _ _ c a w h) k4 (fun w => SF.refl _ _) fuel listed a w (free_all hi c1) hcl (by simpa using c2) k2 k3 h2)
   split at h
   ·rename_i hw
    refine main h fun w0 V w a hs hf hL => ⟨hL, fun j w w' h => h, fun _ => True, undef, by simp only [VR], .inr ⟨wantedA_ok hw hf, rfl⟩, trivial, fun _ _ _ _ _ _ => trivial⟩
   ·rename_i hw
    split at h
    ·rename_i v hp
     refine main h fun w0 V w a hs hf hL => ?_
     obtain ⟨z, k1, k2⟩ := pureA_ok hp hf hs.kn
     exact ⟨hL, fun j w w' h => h, fun _ => True, z, k1, .inl ⟨wantedA_ok hw hf, fun w _ => k2 w⟩, trivial, fun _ _ _ _ _ _ => trivial⟩
    ·split at h
     ·rename_i v fa hl
      refine main h fun w0 V w a hs hf hL => ?_
      obtain ⟨k0, k1, b, vs, z, k2, k3, k4, k5, k6⟩ := loadF_ok (P := C.P) hl hs hf
      refine ⟨fun x hx => ?_, fun j w w' h => h.weaken, fun w' => CellsAt w' b fa.2.2.1 vs, z, k5, .inl ⟨wantedA_ok hw hf, k6⟩, k4, ?_⟩
      ·rcases List.mem_cons.1 hx with rfl | hx
       ·exact k1
       ·exact hL x hx
      ·intro j w1 w2 hno hY hS
       rcases hS fa (by simp) with hS | hS
       ·rw [k0] at hS; exact absurd hS hno
       ·exact hS b vs k2 k3 hY
     ·cases h
   ·cases h
  ·cases h
 ·-- alternatives
  rename_i rs q
  obtain ⟨hre, hnext⟩ := ih _ _ _ _ _ h
  refine ⟨hre, ?_⟩
  intro w0 V w a listed rs' D fuel hpl hD hns hsz hcl hrr hs hf hd hn0 hnm hL
  simp only [planOk, Bool.and_eq_true, beq_iff_eq] at hpl
  obtain ⟨⟨c1, c2⟩, c3⟩ := hpl
  have h1 := hnext w0 V w a listed rs D fuel c3 hD hns hsz hcl (fun i hi => by rw [c1]; exact hi) hs hf hd hn0 hnm hL
  have hne : rs ≠ [] := by intro e; subst e; simp at c2
  cases q with
  | alt i an p q =>
   cases D with
   | zero => cases rs <;> simp [planOk] at c3
   | succ D =>
   cases fuel with
   | zero => omega
   | succ fuel =>
    have h2 := h1 fuel rfl
    exact ⟨fun e => absurd (c1.symm.trans e) hne, fun i hi => h2 i (by rw [c1] at hi; exact hi)⟩
  | stop => exact absurd h (by cases n <;> simp [evl])
  | done => exact h1
  | step _ _ => exact h1
  | alts _ _ => exact h1
 ·-- one of them
  rename_i i an p q
  split at h
  ·rename_i o hi
   cases hdst : dstOk nt o.dst
   ·simp [hdst] at h
   simp only [hdst, cond_true] at h
   split at h
   ·rename_i v s1 hop
    cases hfa : factsOk an s1 L
    ·simp [hfa] at h
    simp only [hfa, cond_true] at h
    split at h
    ·rename_i r1 hr1
     have hrr : r = r1 := by
      cases hst : isStop q
      ·simp only [hst, cond_false] at h
       split at h
       ·rename_i r2 hr2
        obtain ⟨hb, rfl⟩ := bif_some h
        rfl
       ·cases h
      ·simp only [hst, cond_true, Option.some.injEq] at h
       exact h.symm
     subst hrr
     obtain ⟨hre, hnext⟩ := ih _ _ _ _ _ hr1
     refine ⟨hre, ?_⟩
     intro w0 V w a listed rs D fuel hpl hD hns hsz hcl hrr hs hf hd hn0 hnm hL
     cases rs with
     | nil => simp [planOk] at hpl
     | cons j rs =>
     cases D with
     | zero => simp [planOk] at hpl
     | succ D =>
     simp only [planOk, Bool.and_eq_true] at hpl
     obtain ⟨⟨⟨⟨⟨c1, c6⟩, c4⟩, c5⟩, c2⟩, c3⟩ := hpl
     have c4 : listed.getD i true = false := by simpa using c4
     have c1 := Nat.eq_of_beq_eq_true c1
     subst c1
     intro fuel' hfu k hk
     subst hfu
     rcases List.mem_cons.1 hk with rfl | hk
     ·-- this one
      have next : ∀ V' z w', Vx V V' s.n (some (n0 + k)) → VR V' v z → Sim w0 V' s1 w' → s.n ≤ s1.n →
        SF V arr L k w w' ∧ wpAnyI C.P arr (Po w0 V n0 nt r) (SF V arr L) fuel' (listed.setIfInBounds k true) (a.put o.dst z) w' := fun V' z w' k1 k2 k3 k4 => by
       refine ⟨factsOk_ok (ancOk_ok c6 (fun k hk => by cases hk)) hfa hL k1.1 k3, ?_⟩
       have h1 := hnext w0 V' w' (a.put o.dst z) (listed.setIfInBounds k true) [] D fuel' c2 om9 hns (by simp [hsz]) (hcl.add (hrr k (by simp))) (fun i hi => by cases hi) k3 ((hf.mono k1.1).putF hdst k2) (by rw [put_defers]; exact hd.mono k1.1) om9
        (fun j hj => by
         by_cases e : k = j
         ·subst e
          have := getD_lt hj
          simp at this
          simp [this] at hj
         ·rw [getD_set_ne true e] at hj
          have hlt := getD_lt hj
          exact k1.2 (n0 + j) om9 (by simp; omega) (hnm j hj)) (fun fa h => (hL fa h).mono k1.1)
       have h2 : wpAnyI C.P arr (Po w0 V' n0 nt r) (SF V' arr L) fuel' (listed.setIfInBounds k true) (a.put o.dst z) w' := by
        cases p with
        | alt _ _ _ _ => simp [planOk] at c2
        | stop => exact absurd hr1 (by cases n <;> simp [evl])
        | done => exact h1
        | step _ _ => exact h1
        | alts _ _ => exact h1
       have hx : Vx V V' n0 none := ⟨k1.1, fun id h1 _ h3 => k1.2 id om9 (by simp; omega) h3⟩
       exact wpAnyI.post (fun e a w h => h.back hx (Nat.le_refl _)) _ _ _ _ (wpAnyI.mono (fun j w w' h => h.back hL k1.1) _ _ _ _ h2)
      unfold wpOp
      simp only [hi]
      split at hop
      ·rename_i hw
       have hw' := wantedA_ok hw hf
       rw [if_neg (by rw [hw']; simp)]
       cases hop
       exact next V undef w Vx.rfl (by simp only [VR]) hs (Nat.le_refl _)
      ·rename_i hw
       have hw' := wantedA_ok hw hf
       rw [if_pos hw']
       left
       split at hop
       ·rename_i g' args hc
        split at hop
        ·rename_i r' hr
         cases hop
         exact call_wp hc (ih _ _ _ _ _ hr) hs hf fun V' z w' k1 k2 k3 k4 => next V' z w' k1.any k2 k3 k4
        ·cases hop
       ·exact (memA_ok hop hs (fun p hp => by cases hp; exact hnm k c4) hf).wp fun V' z w' k1 k2 k3 k4 => next V' z w' k1 k2 k3 k4
      ·cases hop
     ·-- another one
      cases hst : isStop q
      ·simp only [hst, cond_false] at h
       split at h
       ·rename_i r2 hr2
        obtain ⟨hb, _⟩ := bif_some h
        have := Rs.beq_eq hb
        subst this
        obtain ⟨_, hq⟩ := ih _ _ _ _ _ hr2
        have h1 := hq w0 V w a listed rs (D + 1) (fuel' + 1) c3 hD hns hsz hcl (fun i hi => hrr i (by simp [hi])) hs hf hd hn0 hnm hL
        cases q with
        | alt _ _ _ _ => exact h1 fuel' rfl k hk
        | stop => exact h1 fuel' rfl k hk
        | done => simp [isChain] at c5
        | step _ _ => simp [isChain] at c5
        | alts _ _ => simp [isChain] at c5
       ·cases h
      ·cases q <;> simp [isStop] at hst
       cases rs with
       | nil => cases hk
       | cons _ _ => simp [planOk] at c3
    ·cases h
   ·cases h
  ·cases h
 ·cases h
theorem evl_ok (hC : COk C) : ∀ (n : Nat) (t : Task) (f : Tr AV) (d : DL) (s : St) (r : Rs), evl C n t f d s = some r → TaskOk C t f d s r := by
 intro n
 induction n using Nat.strongRecOn with
 | _ n ih =>
  cases n with
  | zero => intro t f d s r h; simp [evl] at h
  | succ n =>
   have ih' : ∀ k, k ≤ n → ∀ t f d s r, evl C k t f d s = some r → TaskOk C t f d s r := fun k hk => ih k om9
   intro t f d s r h
   cases t with
   | code g nt c => exact code_ok hC n ih' g nt c f d s r h
   | ops g nt arr l => exact ops_ok n (ih' n (Nat.le_refl _)) g nt arr l f d s r h
   | call g args => exact call_ok hC n (ih' n (Nat.le_refl _)) g args f d s r h
   | callD g args => exact callD_ok hC n (ih' n (Nat.le_refl _)) g args f d s r h
   | draw nt arr n0 p L => exact draw_ok n (ih' n (Nat.le_refl _)) nt arr n0 p L f d s r h
def St0 : St := ⟨.e, 0⟩
def evB (C : Ctx) (n g : Nat) (args : List AV) : Option Bool :=
 match evl C n (.call g args) .e [] St0 with
 | some r => match r.v with
  | .b x => some x
  | _ => none
 | none => none
theorem sim0 (w : World) (σ : Nat → Value) (h1 : ∀ k, (σ k).oneCell' = true) : Sim w ⟨fun _ => none, fun _ => 0, σ, h1⟩ St0 w :=
 ⟨rfl, rfl, rfl, Nat.le_refl _, fun _ _ => rfl, (fun _ _ h => by cases h), (fun id x h => by rw [show St0.h.get id = none from Tr.get_e id] at h; cases h), (fun id id' b x x' h => by rw [show St0.h.get id = none from Tr.get_e id] at h; cases h)⟩
theorem evB_ok (hC : COk C) {n g : Nat} {args : List AV} {b : Bool} (h : evB C n g args = some b) (σ : Nat → Value) (h1 : ∀ k, (σ k).oneCell' = true) {vs : List Value} (hv : VRs ⟨fun _ => none, fun _ => 0, σ, h1⟩ args vs) (G : GH) :
  Fc C.P g vs G [] (fun v _ _ => v = .bool b) := by
 unfold evB at h
 split at h
 ·rename_i r hr
  split at h
  ·rename_i x hx
   cases h
   obtain ⟨k1, k2⟩ := evl_ok hC _ _ _ _ _ _ hr
   refine ⟨k1, fun w hw => ?_⟩
   refine (k2 w _ w vs (sim0 w σ h1) hv).mono ?_
   rintro e w' ⟨V', z, _, rfl, h3, h4, _⟩
   rw [hx] at h3
   simp only [VR] at h3
   subst h3
   refine ⟨_, G, [], rfl, ⟨h4.os, h4.tape, h4.output, h4.size, fun c hc _ => h4.keep c hc, ?_, (fun _ h => by cases h), (fun _ h => by cases h), List.nodup_nil, (fun _ h => by cases h)⟩, Le.rfl, fun c h1 h2 => absurd h1 h2, rfl⟩
   intro c o hc
   have h5 := hw.ro c o hc
   rw [h4.keep c (Array.getElem?_eq_some_iff.1 h5).1]
   exact h5
  ·cases h
 ·cases h
end
inductive FT where
 | e
 | n (k : Nat) (f : Func) (l r : FT)
def FT.get : FT → Nat → Option Func
 | .e, _ => none
 | .n k f l r, g => bif Nat.beq g k then some f else bif Nat.blt g k then l.get g else r.get g
def FT.Ok (P : Program) : FT → Prop
 | .e => True
 | .n k f l r => (P.funcs[k]? = some f ∧ Callable P k) ∧ l.Ok P ∧ r.Ok P
theorem FT.get_ok {P : Program} : ∀ {t : FT} {g : Nat} {fn : Func}, t.Ok P → t.get g = some fn → P.funcs[g]? = some fn ∧ Callable P g
 | .e, _, _, _, h => by simp [FT.get] at h
 | .n k f l r, g, fn, ho, h => by
  simp only [FT.get] at h
  cases h1 : Nat.beq g k
  ·simp only [h1, cond_false] at h
   cases h2 : Nat.blt g k
   ·simp only [h2, cond_false] at h; exact FT.get_ok ho.2.2 h
   ·simp only [h2, cond_true] at h; exact FT.get_ok ho.2.1 h
  ·simp only [h1, cond_true, Option.some.injEq] at h
   have := Nat.eq_of_beq_eq_true h1
   subst this; subst h
   exact ho.1
inductive PT where
 | e
 | n (k : Nat) (p : Plan) (l r : PT)
def PT.get : PT → Nat → Option Plan
 | .e, _ => none
 | .n k p l r, g => bif Nat.beq g k then some p else bif Nat.blt g k then l.get g else r.get g
theorem COk.of {P : Program} {t : FT} {p : PT} (h : t.Ok P) (hm : P.follows .mixedOrders = true) : COk { P := P, fn := t.get, plan := fun g r => p.get (g * 1000 + r), prim := fun _ => none } :=
 ⟨fun g fn hg => FT.get_ok h hg, hm, fun g p args s v s' hp => by cases hp⟩
def scalT (P : Program) (t : TypeId) : Bool :=
 match P.underlying t with
 | some .bool | some (.int _) | some .string => true
 | _ => false
def scalFs (P : Program) : Nat → List Field → Bool
 | _, [] => true
 | i, f :: fs => Nat.beq f.offset i && Nat.beq (P.cellsOf f.type) 1 && scalT P f.type && scalFs P (i + 1) fs
def scalK (P : Program) (t : TypeId) : Option Nat :=
 match P.underlying t with
 | some (.struct fs) => bif scalFs P 0 fs.toList && Nat.beq (P.cellsOf t) fs.size then some fs.size else none
 | _ => none
section
open Go.ChangeShapes Go.WideShapes Go.ChangeAt
variable {H : Type} {enc : TypeId × Value → H} {P : Program} {W : World} {base : Nat} {t : TypeId} {v : Value} {d : DataW H} {p : List MemPlace}
end
def opq : Nat → Nat → List AV
 | _, 0 => []
 | i, n + 1 => .o i :: opq (i + 1) n
end Go.Fw
