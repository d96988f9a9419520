/- Bytes, and what strings.Builder does: rules of the calculus. Nothing of the program is named here. No condition. -/
import Derived.Test.YthmkpaoolhcibaaDoorX3
import Derived.Lib.Builder
import Derived.Lib.UnsafeStr
import Derived.Laws.IdiomStrings
set_option linter.unusedVariables false
set_option linter.unusedSimpArgs false
namespace Go.Fw
open Go Go.RowKit

/-- Bytes. -/
def eU8 : Enc UInt8 where
  k := 1
  w := 1
  R := fun _ cs a => cs = [.int .u8 (a.toNat : Int)]
  mono := fun _ h => h
  len := by rintro _ _ _ rfl; rfl
  one := by rintro _ _ _ rfl u hu; simp at hu; subst hu; rfl

theorem AllR.u8 {G : GH} : ∀ {css : List (List Value)} {l : List UInt8}, AllR eU8 G css l → css.flatten = Lib.byteCells l
  | [], [], _ => rfl
  | cs :: css, a :: l, h => by
    have h1 : cs = [.int .u8 (a.toNat : Int)] := h.1
    have h2 := AllR.u8 h.2
    simp only [List.flatten_cons, h2, h1, Lib.byteCells, List.map_cons, List.singleton_append]
theorem AllR.u8_mk {G : GH} : ∀ (l : List UInt8), AllR eU8 G (l.map fun a => [Value.int .u8 (a.toNat : Int)]) l
  | [] => trivial
  | a :: l => ⟨rfl, AllR.u8_mk l⟩

section
variable {E : Env} {f : Fr} {G : GH} {M : MH} {ops rest : List Oper} {q : Bool} {K : Kt} {d : Nat} {ty : TypeId} {pos : String} {aft : Array Edge} {t t' : TypeId} {x y : Operand}

/-- A pointer compared with itself. -/
theorem ok_neqPS {tp te : TypeId} {a : Addr} {j : Nat} (hp : E.P.underlying tp = some (.pointer te)) (hj : (E.P.info? te).map (·.size) = some j) (hx : ev f x = .pointer (some a)) (hy : ev f y = .pointer (some a)) :
    Ok E f G M ⟨some d, .binOp .neq tp x y t', ty, pos, aft, none⟩ (.bool false) := fun w _ => by
  obtain ⟨i, hi, _⟩ := Option.map_eq_some_iff.1 hj
  have h2 := Lib.run_neq_ptr_same (P := E.P) w a hp hi
  simp [execOp, hx, hy, eqGuard, h2]
/-- A pointer to a box of the call's own, as an unsafe pointer. -/
theorem ok_toU {te T : TypeId} {b i j : Nat} {c : Value} {L : List Value} (hs : E.P.underlying t = some (.pointer te)) (hd : E.P.underlying t' = some .unsafePointer) (hj : (E.P.info? te).map (·.size) = some (j + 1))
    (hm : nthM M i = some (b, .cells (List.toArray (c :: L)) T (0, 0))) (hx : ev f x = .pointer (some ⟨b, 0, none⟩)) :
    Ok E f G M ⟨some d, .convert t t' x, ty, pos, aft, none⟩ (.pointer (some ⟨b, 0, none⟩)) := fun w hr => by
  obtain ⟨k, hk, hk2⟩ := Option.map_eq_some_iff.1 hj
  have h1 := hr.r.mu _ (nthM_mem hm)
  have h2 := Lib.run_to_unsafe (P := E.P) w (src := t) (dst := t') (e := T) (cells := (c :: L).length) ⟨b, 0, none⟩ hs hd hk (by omega) (by simp at h1; simp [World.shape?, h1]) (by simp)
  simp [execOp, hx, h2]
theorem ok_fromU {te T : TypeId} {b i j : Nat} {L : List Value} (hs : E.P.underlying t = some .unsafePointer) (hd : E.P.underlying t' = some (.pointer te)) (hj : (E.P.info? te).map (·.size) = some j)
    (hm : nthM M i = some (b, .cells (List.toArray L) T (0, 0))) (hl : liesAt E.P E.P.depth T (L.length / E.P.cellsOf T) 0 te 1 = true) (hx : ev f x = .pointer (some ⟨b, 0, none⟩)) :
    Ok E f G M ⟨some d, .convert t t' x, ty, pos, aft, none⟩ (.pointer (some ⟨b, 0, none⟩)) := fun w hr => by
  obtain ⟨k, hk, hk2⟩ := Option.map_eq_some_iff.1 hj
  have h1 := hr.r.mu _ (nthM_mem hm)
  have h2 := Lib.run_from_unsafe (P := E.P) w (src := t) (dst := t') (e := T) (cells := L.length) ⟨b, 0, none⟩ hs hd hk (by simp at h1; simp [World.shape?, h1]) hl
  simp [execOp, hx, h2]
/-- A function that hands back the pointer that it is given. -/
theorem ok_noEsc {g : FuncId} {fn : Func} {at' : Array TypeId} {v : Value} (hf : E.P.funcs[g]? = some fn) (hname : (fn.name == "runtime.NumGoroutine") = false) (hb : fn.body.isNone = true) (hn : Extern.findNext fn = none) (he : Extern.find fn = some Extern.AbiNoEscape.same) (hx : ev f x = v) :
    Ok E f G M ⟨some d, .call { callee := .value (.func g), args := #[x], argTypes := at' }, ty, pos, aft, none⟩ v := fun w hr => by
  have hcf := run_callFunc_extern hf hname hb hn he #[v] w
  rw [Lib.run_noEscape] at hcf
  have e0 : ((#[] : Array Value) ++ #[v] ++ #[]) = #[v] := by simp
  have he0 : ev f (.func g) = .func (.func g) #[] #[] := rfl
  simp only [execOp, resolve, he0, Deferred.ofValue, Sem.run_bind, Sem.run_pure, Result.andThen_ok, invoke, List.map_toArray, List.map_cons, List.map_nil, hx, e0, hcf]

abbrev upf (f : Fr) (d : Nat) (a : Option Addr) (s : Str) (c : Nat) : Fr := upd f d (.slice a s.b.data.toList.length c)
/-! ### Small numbers -/
theorem ok_addU8 {m n : Int} (hx : ev f x = .int .u8 m) (hy : ev f y = .int .u8 n) (hb : 0 ≤ m + n ∧ m + n ≤ 255) :
    Ok E f G M ⟨some d, .binOp .add t x y t', ty, pos, aft, none⟩ (.int .u8 (m + n)) := fun _ _ => by
  have : IntKind.u8.wrap (m + n) = m + n := by simp [IntKind.wrap, IntKind.bits, IntKind.signed]; omega
  simp [execOp, hx, hy, eqGuard, binOp, Op.intArith, this]
theorem ok_quoU8 {m n : Int} (hx : ev f x = .int .u8 m) (hy : ev f y = .int .u8 n) (h0 : 0 ≤ m) (h1 : m ≤ 255) (hn : 0 < n) :
    Ok E f G M ⟨some d, .binOp .quo t x y t', ty, pos, aft, none⟩ (.int .u8 (m / n)) := by
  have h2 := tdiv_le h0 hn
  have hn' : ¬ n = 0 := by omega
  have : IntKind.u8.wrap (m.tdiv n) = m.tdiv n := by simp [IntKind.wrap, IntKind.bits, IntKind.signed]; omega
  rw [← Int.tdiv_eq_ediv_of_nonneg h0]
  exact fun _ _ => by simp [execOp, hx, hy, eqGuard, binOp, Op.intDiv, hn', this]
theorem ok_remU8 {m n : Int} (hx : ev f x = .int .u8 m) (hy : ev f y = .int .u8 n) (h0 : 0 ≤ m) (h1 : m ≤ 255) (hn : 0 < n) :
    Ok E f G M ⟨some d, .binOp .rem t x y t', ty, pos, aft, none⟩ (.int .u8 (m % n)) := by
  rw [← Int.tmod_eq_emod_of_nonneg h0]
  have hn' : ¬ n = 0 := by omega
  exact fun _ _ => by simp [execOp, hx, hy, eqGuard, binOp, Op.intDiv, hn']
theorem ok_shr4 {k : IntKind} {n : Nat} (hx : ev f x = .int .u8 (n : Int)) (hy : ev f y = .int k 4) :
    Ok E f G M ⟨some d, .binOp .shr t x y t', ty, pos, aft, none⟩ (.int .u8 ((n / 16 : Nat) : Int)) := fun w _ => by
  have h2 : (n : Int).fdiv (2 ^ min 4 IntKind.u8.bits) = ((n / 16 : Nat) : Int) := by
    rw [show (2 : Int) ^ min 4 IntKind.u8.bits = 16 from rfl, Int.fdiv_eq_ediv_of_nonneg _ (by omega)]
    simp
  simp [execOp, hx, hy, eqGuard, binOp, Op.shift, h2]
theorem and15 : ∀ n : Nat, n < 256 → (BitVec.ofInt 8 (n : Int) &&& BitVec.ofInt 8 15).toNat = n % 16 := by decide +kernel
theorem ok_and15 {n : Nat} (hx : ev f x = .int .u8 (n : Int)) (hy : ev f y = .int .u8 15) (hn : n < 256) :
    Ok E f G M ⟨some d, .binOp .and t x y t', ty, pos, aft, none⟩ (.int .u8 ((n % 16 : Nat) : Int)) := fun w _ => by
  have h1 := and15 n hn
  have h2 : IntKind.u8.wrap (((n % 16 : Nat) : Int)) = ((n % 16 : Nat) : Int) := by simp [IntKind.wrap, IntKind.bits, IntKind.signed]; omega
  have h5 : Op.intBits .and .u8 (n : Int) 15 = pure (Value.int .u8 (IntKind.u8.wrap (((BitVec.ofInt 8 (n : Int) &&& BitVec.ofInt 8 15).toNat : Nat) : Int))) := rfl
  have h3 : (Op.intBits .and .u8 (n : Int) 15).run E.P w = .ok (.int .u8 ((n % 16 : Nat) : Int)) w := by
    rw [h5, h1, h2]; rfl
  have h4 : (binOp .and t (.int .u8 (n : Int)) (.int .u8 15)).run E.P w = .ok (.int .u8 ((n % 16 : Nat) : Int)) w := by simpa [binOp] using h3
  simp [execOp, hx, hy, eqGuard, h4]

/-! ### Bytes of a text -/
/-- A text as a slice of bytes, in a new block. -/
theorem W.str2b {te : TypeId} {s : Str} (hs : E.P.underlying t = some .string) (ht : sliceK E.P t' = some te) (he : E.P.underlying te = some (.int .u8)) (hx : ev f x = .string s.b)
    (k : ∀ a c G', Le G G' → SlR eU8 G' (.slice a s.b.data.toList.length c) s.b.data.toList → W E ops.toArray false rest (upf f d a s c) G' M K) (hd : Nat.blt d E.n = true := by rfl) :
    W E ops.toArray false (⟨some d, .convert t t' x, ty, pos, aft, none⟩ :: rest) f G M K := by
  intro a w Q hi hr hK
  have hsz : s.b.size = s.b.data.toList.length := (Array.length_toList).symm
  have hle := s.le
  have h1 := run_bytes_of_string (P := E.P) w t t' te s.b hs (sliceK_und ht) he
  have hcap := grownCap_ge w s.b.size 0 te
  have hcm := grownCap_le_maxLen w s.b.size 0 te (by simp only [maxLen]; omega)
  generalize hc : grownCap w s.b.size 0 te = cp at h1 hcap hcm
  have hrun : (execOp (ev f) ⟨some d, .convert t t' x, ty, pos, aft, none⟩).run E.P w = .ok (.value (.slice (some ⟨w.heap.size, 0, none⟩) s.b.size cp)) (w.drew.alloc (.cells (bytesRow s.b cp) te ((bytesRow s.b cp).size, (bytesRow s.b cp).size + 1))) := by
    simp [execOp, hx, h1]
  have hnew := ((hr.drew).alloc (.cells (bytesRow s.b cp) te ((bytesRow s.b cp).size, (bytesRow s.b cp).size + 1)))
  obtain ⟨h2, h3⟩ := hnew.give
  refine wpList_plain rfl fun K' hK' => ?_
  unfold Oper.wp
  rw [hi.eval, hrun]
  have hsl : SlR eU8 (put G w.heap.size (.cells (bytesRow s.b cp) te ((bytesRow s.b cp).size, (bytesRow s.b cp).size + 1))) (.slice (some ⟨w.heap.size, 0, none⟩) s.b.data.toList.length cp) s.b.data.toList := by
    refine SlR.of_block (put_self _ _ _) (fun i hi => ?_) (AllR.u8_mk _) rfl (by omega) hcm (by rw [show eU8.w = 1 from rfl]; omega)
    rw [(AllR.u8_mk (G := G) s.b.data.toList).u8] at hi ⊢
    have hi' : i < s.b.data.size := by simpa [Lib.byteCells] using hi
    have hi2 : i < (s.b.data.map fun b => Value.int .u8 (b.toNat : Int)).size := by simpa using hi'
    simp only [bytesRow, Lib.byteCells]
    rw [Array.getElem?_append_left hi2]
    simp
  have hf : upd f d (.slice (some ⟨w.heap.size, 0, none⟩) s.b.size cp) = upf f d (some ⟨w.heap.size, 0, none⟩) s cp := by rw [hsz]
  have hk := k (some ⟨w.heap.size, 0, none⟩) cp _ h3 hsl _ _ Q (hf ▸ hi.put hd _) h2 hK
  exact hK' _ _ hk
/-- Bytes as a text. -/
theorem ok_b2s {te : TypeId} {v : Value} {l : List UInt8} (hs : sliceK E.P t = some te) (he : E.P.underlying te = some (.int .u8)) (hd : E.P.underlying t' = some .string) (hu : SlR eU8 G v l) (hx : ev f x = v) :
    Ok E f G M ⟨some d, .convert t t' x, ty, pos, aft, none⟩ (.string ⟨l.toArray⟩) := fun w hr => by
  obtain ⟨a, c, css, rfl, hA, h0, hc⟩ := hu.cells
  cases a with
  | none =>
    have := h0 rfl
    subst this
    have h1 : (convert t t' (.slice none 0 c)).run E.P w = .ok (.string ⟨#[]⟩) w := by
      rw [run_convert_bytes_string w t t' te none 0 c (sliceK_und hs) he hd]
      simp [Conv.bytesToString]; rfl
    simp at hx
    simp [execOp, hx, h1]
  | some a =>
    have h1 := run_convert_bytes_back (P := E.P) w t t' te a c l (sliceK_und hs) he hd (fun j hj => hc E M w hr a rfl j _ (by rw [hA.u8]; simp [Lib.byteCells, hj]))
    simp [execOp, hx, h1]

/-! ### A strings.Builder's bytes as a text -/
theorem OwnR.addr {α : Type} {e : Enc α} {T : TypeId} {v : Value} {l : List α} {Ms : MH} (h : OwnR e T G v l Ms) (hl : l ≠ []) : ∃ b cap cur css, v = .slice (some ⟨b, 0, none⟩) l.length cap ∧ l.length ≤ cap ∧ cur.size = cap * e.k ∧ Ms = [(b, .cells cur T (0, 0))] ∧
    AllR e G css l ∧ cur.toList.take (l.length * e.k) = css.flatten := by
  obtain ⟨css, h1, ⟨h2, h3⟩, h4⟩ := h
  rcases h3 with ⟨rfl, hn, _⟩ | ⟨b, cap, cur, rfl, h5, h6, h7, h8, rfl⟩
  · exact absurd (List.eq_nil_of_length_eq_zero hn) hl
  · exact ⟨b, cap, cur, css, rfl, h5, h7, rfl, h1, h8⟩
theorem ok_sdata {at' : Array TypeId} {a : Addr} {n c : Nat} (hx : ev f x = .slice (some a) n c) (hc : 0 < c) :
    Ok E f G M ⟨some d, .call { callee := .builtin .unsafeSliceData, args := #[x], argTypes := at' }, ty, pos, aft, none⟩ (.pointer (some a)) := fun w _ => by
  have h1 := fun t2 => Lib.run_unsafeSliceData_row (P := E.P) w at' t2 a n c (by omega)
  simp [execOp, resolve, invoke, builtin, hx, h1]
/-- unsafe.String of a slice of the call's own: its bytes; the slice is given up. -/
theorem W.ustr {tp ti te : TypeId} {b cap : Nat} {cur : Array Value} {css : List (List Value)} {l : List UInt8} {B : MH} (hp : E.P.underlying tp = some (.pointer te)) (hc1 : E.P.cellsOf te = 1) (hx : ev f x = .pointer (some ⟨b, 0, none⟩)) (hy : ev f y = .int .i64 (l.length : Int))
    (hl : l ≠ []) (hlc : l.length ≤ cap) (hcs : cur.size = cap * eU8.k) (hA : AllR eU8 G css l) (ht : cur.toList.take (l.length * eU8.k) = css.flatten) (h63 : l.length ≤ 140737488355328) (hM : ([(b, Obj.cells cur te (0, 0))] ++ B).Perm M)
    (k : W E ops.toArray false rest (upd f d (.string ⟨l.toArray⟩)) G B K) (hd : Nat.blt d E.n = true := by rfl) :
    W E ops.toArray false (⟨some d, .call { callee := .builtin .unsafeString, args := #[x, y], argTypes := #[tp, ti] }, ty, pos, aft, none⟩ :: rest) f G M K := by
  intro a w Q hi hr hK
  have hr2 := hr.perm hM
  have hb : w.heap[b]? = some (.cells cur te (0, 0)) := hr2.r.mu (b, .cells cur te (0, 0)) (by simp)
  have hk1 : eU8.k = 1 := rfl
  rw [hk1, Nat.mul_one] at hcs
  rw [hk1, Nat.mul_one, hA.u8] at ht
  have h1 := fun t2 => Lib.run_unsafeString_row (P := E.P) w tp ti t2 te hp hc1 b cur.size (by simp [World.shape?, hb]) l hl (by omega) (by omega) (fun j x hj => by
    have h2 : (cur.toList.take l.length)[j]? = some (.int .u8 (x.toNat : Int)) := by rw [ht]; simp [Lib.byteCells, hj]
    rw [List.getElem?_take] at h2
    split at h2
    · rw [Addr.add_lit, Nat.zero_add]
      simp [World.cell?, hb]
      simpa using h2
    · cases h2)
  have hrun : (execOp (ev f) ⟨some d, .call { callee := .builtin .unsafeString, args := #[x, y], argTypes := #[tp, ti] }, ty, pos, aft, none⟩).run E.P w = .ok (.value (.string ⟨l.toArray⟩)) (w.freeze ⟨b, 0, none⟩ l.length) := by
    simp [execOp, resolve, invoke, builtin, hx, hy, h1]
  refine wpList_plain rfl fun K' hK' => ?_
  unfold Oper.wp
  rw [hi.eval, hrun]
  refine hK' _ _ (k _ _ Q (hi.put hd _) ?_ hK)
  have hfz : ∃ o', w.freeze ⟨b, 0, none⟩ l.length = { w with heap := w.heap.setIfInBounds b o' } := by
    have hl0 : l.length ≠ 0 := by simpa using hl
    have hlt : b < w.heap.size := (Array.getElem?_eq_some_iff.1 hb).1
    refine ⟨.cells cur te (0, l.length), ?_⟩
    unfold World.freeze
    rw [if_neg hl0]
    congr 1
    apply Array.ext_getElem?
    intro c
    rw [Array.getElem?_modify, Array.getElem?_setIfInBounds]
    by_cases hc : b = c
    · subst hc
      rw [if_pos rfl, if_pos rfl, if_pos hlt, hb]
      simp
    · simp [hc]
  obtain ⟨o', ho'⟩ := hfz
  rw [ho']
  have hset : E.real G ((b, o') :: B) { w with heap := w.heap.setIfInBounds b o' } := ⟨Real.set (M₁ := []) hr2.r, hr2.le, hr2.nw⟩
  exact hset.sub (List.sublist_cons_self _ _)
def ownA : Value → Option Addr
  | .slice a _ _ => a
  | _ => none
theorem ok_sdataO {at' : Array TypeId} {T : TypeId} {v : Value} {l : List UInt8} {Ms : MH} (h : OwnR eU8 T G v l Ms) (hl : l ≠ []) (hx : ev f x = v) :
    Ok E f G M ⟨some d, .call { callee := .builtin .unsafeSliceData, args := #[x], argTypes := at' }, ty, pos, aft, none⟩ (.pointer (ownA v)) := by
  obtain ⟨b, cap, cur, css, rfl, h1, h2, h3, h4, h5⟩ := h.addr hl
  have : 0 < l.length := List.length_pos_iff.2 hl
  exact ok_sdata hx (by omega)
theorem W.ustrO {tp ti te : TypeId} {v : Value} {l : List UInt8} {Ms B : MH} (hp : E.P.underlying tp = some (.pointer te)) (hc1 : E.P.cellsOf te = 1) (h : OwnR eU8 te G v l Ms) (hl : l ≠ []) (hx : ev f x = .pointer (ownA v)) (hy : ev f y = .int .i64 (l.length : Int)) (hM : (Ms ++ B).Perm M)
    (k : W E ops.toArray false rest (upd f d (.string ⟨l.toArray⟩)) G B K) (hd : Nat.blt d E.n = true := by rfl) :
    W E ops.toArray false (⟨some d, .call { callee := .builtin .unsafeString, args := #[x, y], argTypes := #[tp, ti] }, ty, pos, aft, none⟩ :: rest) f G M K := by
  have h47 := h.len47
  obtain ⟨b, cap, cur, css, rfl, h1, h2, rfl, h4, h5⟩ := h.addr hl
  exact W.ustr hp hc1 hx hy hl h1 h2 h4 h5 h47 hM k hd
end
end Go.Fw
