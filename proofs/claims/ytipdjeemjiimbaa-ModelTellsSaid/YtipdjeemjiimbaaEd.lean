/- The evaluator's operations that look at no memory, all together. Nothing of the program is named here. No condition. -/
import Derived.Test.YtipdjeemjiimbaaEc
set_option linter.unusedVariables false
set_option linter.unusedSimpArgs false
set_option linter.unnecessarySimpa false
namespace Go.Fw
open Go Go.RowKit

def omapA (f : Tr AV) : Option Operand → Option AV
  | none => none
  | some x => some (evA f x)
theorem omapA_ok {V : Vl} {n : Nat} {f : Tr AV} {a : Act} (hf : FA V n f a) (x : Option Operand) : OR V (omapA f x) (x.map a.eval) := by
  cases x with
  | none => trivial
  | some x => exact hf.eval x
def toVs : List AV → Option (List Value)
  | [] => some []
  | x :: l => match toV x with
    | some v => match toVs l with
      | some vs => some (v :: vs)
      | none => none
    | none => none
theorem toVs_ok {V : Vl} : ∀ {l : List AV} {vs ws : List Value}, toVs l = some vs → VRs V l ws → ws = vs
  | [], vs, ws, h, k => by simp only [toVs, Option.some.injEq] at h; subst h; simpa only [VRs] using k
  | x :: l, vs, ws, h, k => by
    simp only [toVs] at h
    simp only [VRs] at k
    obtain ⟨v, t, k1, k2, rfl⟩ := k
    split at h
    · rename_i u hu
      split at h
      · rename_i us hus
        cases h
        rw [toV_ok hu k1, toVs_ok hus k2]
      · cases h
    · cases h
def nilCheckA : AV → Option AV
  | .p i o => some (.p i o)
  | .ic t v => some (.ic t v)
  | .fn (.func g) l c => some (.fn (.func g) l c)
  | _ => none
def idxA (k : Nat) (x : AV) (i : Nat) : Option AV :=
  match x with
  | .sl id off len _ => bif Nat.blt i len then some (.p id (off + i * k)) else none
  | .so id _ off len => bif Nat.blt i len then some (.p id (off + i * k)) else none
  | _ => none
def lenA (P : Program) (t : TypeId) : AV → Option Nat
  | .s l => match P.underlying t with | some .string => some l.length | _ => none
  | .sl _ _ n _ => match P.underlying t with | some (.slice _) => some n | _ => none
  | .so _ _ _ n => match P.underlying t with | some (.slice _) => some n | _ => none
  | .sn => match P.underlying t with | some (.slice _) => some 0 | _ => none
  | .sz => match P.underlying t with | some (.slice _) => some 0 | _ => none
  | .mn => match P.underlying t with | some (.map _ _) => some 0 | _ => none
  | _ => none
theorem lenA_ok {P : Program} {V : Vl} {t ty : TypeId} {x : AV} {n : Nat} {v : Value} (h : lenA P t x = some n) (hv : VR V x v) (w : World) : (Builtin.len_ #[t] ty #[v]).run P w = .ok (.int .i64 (Int.ofNat n)) w := by
  unfold lenA at h
  split at h <;> (try cases h) <;> (split at h <;> cases h) <;> rename_i hu <;> simp only [VR] at hv
  · rename_i l _
    have e : (ByteArray.mk l.toArray).size = l.length := by simp [ByteArray.size]
    subst hv
    simp only [Builtin.len_, goInt, e]
    simp [run_underlying hu, e]
  · obtain ⟨b, _, rfl⟩ := hv; simp [Builtin.len_, run_underlying hu, goInt]
  · obtain ⟨b, _, _, rfl⟩ := hv; simp [Builtin.len_, run_underlying hu, goInt]
  · subst hv; simp [Builtin.len_, run_underlying hu, goInt]
  · obtain ⟨b, _, rfl⟩ := hv; simp [Builtin.len_, run_underlying hu, goInt]
  · subst hv; simp [Builtin.len_, run_underlying hu, goInt]
def fieldA (P : Program) (t : TypeId) (l : List AV) (j : Nat) : Option AV :=
  match P.underlying t with
  | some (.struct fs) => match fs[j]? with
    | some fd => match tyK P fd.type with
      | some (true, k) => some (.agg ((l.drop fd.offset).take k))
      | some (false, _) => l[fd.offset]?
      | none => none
    | none => none
  | _ => none
theorem fieldA_ok {P : Program} {V : Vl} {t : TypeId} {l : List AV} {j : Nat} {r : AV} {vs : List Value} (h : fieldA P t l j = some r) (hv : VRs V l vs) : ∃ z, VR V r z ∧ ∀ w, (Instr.field t (.agg vs.toArray) j).run P w = .ok z w := by
  unfold fieldA at h
  split at h
  · rename_i fs hu
    split at h
    · rename_i fd hfd
      split at h
      · rename_i k hk
        cases h
        refine ⟨.agg ((vs.drop fd.offset).take k).toArray, by simp only [VR]; exact ⟨_, (hv.drop _).take _, rfl⟩, fun w => ?_⟩
        have e : vs.toArray.extract fd.offset (fd.offset + k) = ((vs.drop fd.offset).take k).toArray := by apply Array.toList_inj.1; simp [List.extract_eq_take_drop]
        simp [Instr.field, run_underlying hu, hfd, part, tyK_agg hk, tyK_size hk, asAgg]
      · rename_i k hk
        obtain ⟨v, h1, h2⟩ := hv.get h
        exact ⟨v, h2, fun w => by simp [Instr.field, run_underlying hu, hfd, part, tyK_agg hk, asAgg, h1]⟩
      · cases h
    · cases h
  · cases h
/-- An operation that looks at no memory. -/
def pureA (P : Program) (h : Tr Blk) (f : Tr AV) (op : Op) (ty : TypeId) : Option AV :=
  match op with
  | .move x => some (evA f x)
  | .assign x => some (evA f x)
  | .pick c x y => match evA f c with
    | .b true => some (evA f x)
    | .b false => some (evA f y)
    | _ => none
  | .nilCheck x => nilCheckA (evA f x)
  | .binOp op t x y _ => binA P op t (evA f x) (evA f y)
  | .unOp .not _ x => match evA f x with
    | .b b => some (.b (!b))
    | _ => none
  | .convert s d x => match toV (evA f x) with
    | some v => (quietly P (convert s d v)).map ofV1
    | none => none
  | .makeInterface t x => match P.underlying t with
    | some (.interface _) => none
    | some _ => some (.ic t (evA f x))
    | none => none
  | .makeFunc fn first caps => some (.fn fn (evAs f first.toList) (evAs f caps.toList))
  | .slice t x lo hi mx => sliceA P h t (evA f x) (omapA f lo) (omapA f hi) (omapA f mx)
  | .fieldAddr s x j => match evA f x with
    | .p i o => (fieldK P s j).map fun off => .p i (o + off)
    | _ => none
  | .field t x j => match evA f x with
    | .agg l => fieldA P t l j
    | _ => none
  | .indexAddr t x ix => match sliceK P t with
    | some e => match tyK P e with
      | some (_, k) => match natOf (evA f ix) with
        | some i => idxA k (evA f x) i
        | none => none
      | none => none
    | none => none
  | .index t x ix => match P.underlying t with
    | some .string => match evA f x with
      | .s l => match natOf (evA f ix) with
        | some i => match l[i]? with
          | some b => some (.i .u8 (.ofNat b.toNat))
          | none => none
        | none => none
      | _ => none
    | _ => none
  | .extract x i => match evA f x with
    | .tup l => l[i]?
    | _ => none
  | .typeAssert x xt t ok => match P.underlying t with
    | some (.interface _) => none
    | some _ => match evA f x with
      | .ic t' v => bif Nat.beq t' t then some (bif ok then .tup [v, .b true] else v) else none
      | _ => none
    | none => none
  | .build t ps => buildA P t (evPs f ps.toList)
  | .call c => match c.callee with
    | .builtin .len => match c.args.toList with
      | [x] => match c.argTypes.toList with
        | [t] => (lenA P t (evA f x)).map fun n => .i .i64 (.ofNat n)
        | _ => none
      | _ => none
    | .builtin b => match toVs (evAs f c.args.toList) with
      | some vs => match quietly P (builtin b c.argTypes ty (c.args.map fun | .const _ => true | _ => false) vs.toArray) with
        | some (.value v) => some (ofV1 v)
        | _ => none
      | none => none
    | _ => none
  | _ => none

theorem pureA_ok {P : Program} {h : Tr Blk} {V : Vl} {n : Nat} {f : Tr AV} {a : Act} {o : Oper} {r : AV} (hp : pureA P h f o.op o.type = some r) (hf : FA V n f a) (hkn : KN V h) :
    ∃ z, VR V r z ∧ ∀ w, (execOp a.eval o).run P w = .ok (.value z) w := by
  unfold pureA at hp
  split at hp
  · -- move
    rename_i x ho
    cases hp
    exact ⟨_, hf.eval x, fun w => by simp [execOp, ho]⟩
  · rename_i x ho
    cases hp
    exact ⟨_, hf.eval x, fun w => by simp [execOp, ho]⟩
  · -- pick
    rename_i c x y ho
    have hc := hf.eval c
    split at hp
    · rename_i hb
      rw [hb] at hc; simp only [VR] at hc
      cases hp
      exact ⟨_, hf.eval x, fun w => by simp [execOp, ho, hc, asBool]⟩
    · rename_i hb
      rw [hb] at hc; simp only [VR] at hc
      cases hp
      exact ⟨_, hf.eval y, fun w => by simp [execOp, ho, hc, asBool]⟩
    · cases hp
  · -- nilCheck
    rename_i x ho
    have hx := hf.eval x
    unfold nilCheckA at hp
    split at hp
    · rename_i hb
      rw [hb] at hx
      cases hp
      refine ⟨_, hx, fun w => ?_⟩
      simp only [VR] at hx
      obtain ⟨b, h1, h2⟩ := hx
      simp [execOp, ho, h2]
    · rename_i hb
      rw [hb] at hx
      cases hp
      refine ⟨_, hx, fun w => ?_⟩
      simp only [VR] at hx
      obtain ⟨b, h1, h2⟩ := hx
      simp [execOp, ho, h2]
    · rename_i hb
      rw [hb] at hx
      cases hp
      refine ⟨_, hx, fun w => ?_⟩
      simp only [VR] at hx
      obtain ⟨b, c, h1, h2, h3⟩ := hx
      simp [execOp, ho, h3]
    · cases hp
  · -- binOp
    rename_i op t x y t' ho
    obtain ⟨z, h1, h2⟩ := binA_ok hp (hf.eval x) (hf.eval y) x y
    exact ⟨z, h1, fun w => by simp only [execOp, ho]; simp only [Sem.run_bind] at h2 ⊢; rw [h2 w]; rfl⟩
  · -- not
    rename_i t x ho
    have hx := hf.eval x
    split at hp
    · rename_i b hb
      rw [hb] at hx; simp only [VR] at hx
      cases hp
      exact ⟨_, (by simp only [VR]; rfl), fun w => by simp [execOp, ho, hx, Op.unary]⟩
    · cases hp
  · -- convert
    rename_i s d x ho
    have hx := hf.eval x
    split at hp
    · rename_i v hv
      rw [Option.map_eq_some_iff] at hp
      obtain ⟨z, hz, rfl⟩ := hp
      have := toV_ok hv hx
      exact ⟨z, ofV1_ok V z, fun w => by simp [execOp, ho, this, quietly_run hz w]⟩
    · cases hp
  · -- makeInterface
    rename_i t x ho
    split at hp
    · cases hp
    · rename_i d hd hu
      cases hp
      refine ⟨.iface t (a.eval x), (by simp only [VR]; exact ⟨_, hf.eval x, rfl⟩), fun w => ?_⟩
      have : (Instr.makeInterface t (a.eval x)).run P w = .ok (.iface t (a.eval x)) w := by
        simp only [Instr.makeInterface, Sem.run_bind, run_underlying hu, Result.andThen_ok]
        cases d <;> first | exact absurd rfl (hd _) | rfl
      simp [execOp, ho, this]
    · cases hp
  · -- makeFunc
    rename_i fn first caps ho
    cases hp
    refine ⟨.func fn (first.map a.eval) (caps.map a.eval), ?_, fun w => by simp [execOp, ho, Instr.makeFunc]⟩
    simp only [VR]
    refine ⟨_, _, hf.evals first.toList, hf.evals caps.toList, ?_⟩
    congr 1 <;> (apply Array.toList_inj.1; simp)
  · -- slice
    rename_i t x lo hi mx ho
    obtain ⟨z, h1, h2⟩ := sliceA_ok hp hkn (hf.eval x) (omapA_ok hf lo) (omapA_ok hf hi) (omapA_ok hf mx)
    exact ⟨z, h1, fun w => by simp [execOp, ho, h2 w]⟩
  · -- fieldAddr
    rename_i s x j ho
    have hx := hf.eval x
    split at hp
    · rename_i i off0 hb
      rw [Option.map_eq_some_iff] at hp
      obtain ⟨off, ht, rfl⟩ := hp
      rw [hb] at hx; simp only [VR] at hx
      obtain ⟨b, h1, h2⟩ := hx
      obtain ⟨fs, fd, info, k1, k2, k5, k6, k4⟩ := fieldK_spec ht
      refine ⟨.pointer (some ⟨b, off0 + off, none⟩), (by simp only [VR]; exact ⟨b, h1, rfl⟩), fun w => ?_⟩
      have h7 : (sizeOf fd.type).run P w = .ok (P.cellsOf fd.type) w := by simp [sizeOf, typeInfo, k5, Program.cellsOf]
      subst k4
      simp [execOp, ho, h2, Instr.fieldAt, run_underlying k1, k2, Instr.sureAddr, fieldPlace, h7, k6, Addr.add_lit]
    · cases hp
  · -- field
    rename_i t x j ho
    have hx := hf.eval x
    split at hp
    · rename_i l hb
      rw [hb] at hx; simp only [VR] at hx
      obtain ⟨vs, h1, h2⟩ := hx
      obtain ⟨z, h3, h4⟩ := fieldA_ok hp h1
      exact ⟨z, h3, fun w => by simp [execOp, ho, h2, h4 w]⟩
    · cases hp
  · -- indexAddr
    rename_i t x ix ho
    have hx := hf.eval x
    have hi := hf.eval ix
    split at hp
    · rename_i e he
      split at hp
      · rename_i bb k hk
        split at hp
        · rename_i i hin
          obtain ⟨kk, hi⟩ := natOf_ok hin hi
          unfold idxA at hp
          split at hp
          · rename_i id off len cap hb
            rw [hb] at hx; simp only [VR] at hx
            obtain ⟨b, h1, h2⟩ := hx
            obtain ⟨h3, rfl⟩ := bif_some hp
            have h3 : i < len := by simp [Nat.blt] at h3; omega
            refine ⟨.pointer (some ⟨b, off + i * k, none⟩), (by simp only [VR]; exact ⟨b, h1, rfl⟩), fun w => ?_⟩
            simp [execOp, ho, h2, hi, Instr.indexAt, asIntOf, run_underlying (sliceK_und he), h3, tyK_size hk, Addr.add_lit]
          · rename_i id a0 off len hb
            rw [hb] at hx; simp only [VR] at hx
            obtain ⟨b, h1, _, h2⟩ := hx
            obtain ⟨h3, rfl⟩ := bif_some hp
            have h3 : i < len := by simp [Nat.blt] at h3; omega
            refine ⟨.pointer (some ⟨b, off + i * k, none⟩), (by simp only [VR]; exact ⟨b, h1, rfl⟩), fun w => ?_⟩
            simp [execOp, ho, h2, hi, Instr.indexAt, asIntOf, run_underlying (sliceK_und he), h3, tyK_size hk, Addr.add_lit]
          · cases hp
        · cases hp
      · cases hp
    · cases hp
  · -- index
    rename_i t x ix ho
    have hx := hf.eval x
    have hi := hf.eval ix
    split at hp
    · rename_i hu
      split at hp
      · rename_i l hb
        rw [hb] at hx; simp only [VR] at hx
        split at hp
        · rename_i i hin
          obtain ⟨kk, hi⟩ := natOf_ok hin hi
          split at hp
          · rename_i b hbb
            cases hp
            refine ⟨_, (by simp only [VR]; rfl), fun w => ?_⟩
            have h3 : i < l.length := (List.getElem?_eq_some_iff.1 hbb).1
            have h4 : (ByteArray.mk l.toArray).size = l.length := by simp [ByteArray.size]
            have h5 : (ByteArray.mk l.toArray)[i]? = some b := by
              rw [getElem?_pos _ _ (by rw [h4]; exact h3)]
              congr 1
              have := (List.getElem?_eq_some_iff.1 hbb).2
              rw [← this]
              rfl
            simp [execOp, ho, hx, hi, Instr.index, asIntOf, run_underlying hu, h5]
          · cases hp
        · cases hp
      · cases hp
    · cases hp
  · -- extract
    rename_i x i ho
    have hx := hf.eval x
    split at hp
    · rename_i l hb
      rw [hb] at hx; simp only [VR] at hx
      obtain ⟨vs, h1, h2⟩ := hx
      obtain ⟨v, h3, h4⟩ := h1.get hp
      exact ⟨v, h4, fun w => by simp [execOp, ho, h2, Instr.extract, h3]⟩
    · cases hp
  · -- typeAssert
    rename_i x xt t ok ho
    have hx := hf.eval x
    split at hp
    · cases hp
    · rename_i d hd hu
      split at hp
      · rename_i t' v hb
        rw [hb] at hx; simp only [VR] at hx
        obtain ⟨y, h1, h2⟩ := hx
        obtain ⟨h3, rfl⟩ := bif_some hp
        have h3 : t' = t := Nat.eq_of_beq_eq_true h3
        subst h3
        have key : ∀ w, (Instr.typeAssert (.iface t' y) xt t' ok).run P w = .ok (if ok then .tuple #[y, .bool true] else y) w := fun w => by
          simp only [Instr.typeAssert, Sem.run_bind, run_underlying hu, Result.andThen_ok]
          cases d <;> first | exact absurd rfl (hd _) | simp
        cases ok
        · exact ⟨y, h1, fun w => by simp [execOp, ho, h2, key w]⟩
        · refine ⟨.tuple #[y, .bool true], ?_, fun w => by simp [execOp, ho, h2, key w]⟩
          simp only [cond_true, VR]
          exact ⟨[y, .bool true], VRs.cons h1 (VRs.cons (by simp only [VR]) VRs.nil), rfl⟩
      · cases hp
    · cases hp
  · -- build
    rename_i t ps ho
    exact buildA_ok hf hp o ho
  · -- builtins
    rename_i c ho
    split at hp
    · rename_i hc
      split at hp
      · rename_i x hx
        split at hp
        · rename_i t ht
          rw [Option.map_eq_some_iff] at hp
          obtain ⟨m, hm, rfl⟩ := hp
          have ha : c.args = #[x] := by apply Array.toList_inj.1; simpa using hx
          have hat : c.argTypes = #[t] := by apply Array.toList_inj.1; simpa using ht
          refine ⟨.int .i64 (Int.ofNat m), by simp only [VR], fun w => ?_⟩
          have h3 := lenA_ok (ty := o.type) hm (hf.eval x) w
          simp [execOp, ho, resolve, hc, ha, hat, invoke, builtin, h3]
        · cases hp
      · cases hp
    · rename_i b hnl hc
      split at hp
      · rename_i vs hvs
        split at hp
        · rename_i v hv
          cases hp
          have h1 := toVs_ok hvs (hf.evals c.args.toList)
          have h2 : c.args.map a.eval = vs.toArray := by
            apply Array.toList_inj.1; simpa using h1
          refine ⟨v, ofV1_ok V v, fun w => ?_⟩
          have h3 := quietly_run hv w
          simp only [execOp, ho, resolve, hc, invoke, h2, Sem.run_bind, Sem.run_pure, Result.andThen_ok]
          exact h3
        · cases hp
      · cases hp
    · cases hp
  · cases hp
end Go.Fw
