/- Calls through function values; elements of slices that the call owns, read and written in place; pieces of them; boxes that are given up and read. Nothing of the program is named here. No condition. -/
import Derived.Test.YtipdjeemjiimbaaFs
import Derived.Test.YtipdjeemjiimbaaFv
import Derived.Test.YtipdjeemjiimbaaFx
import Derived.Laws.CopyRow
set_option linter.unusedVariables false
set_option linter.unusedSimpArgs false
set_option linter.unnecessarySimpa false
namespace Go.Fw
open Go Go.RowKit
section
variable {E : Env} {f : Fr} {G : GH} {M : MH} {ops rest : List Oper} {q : Bool} {K : Kt} {Q : Exit → Kt} {d : Nat} {ty : TypeId} {pos : String} {aft : Array Edge} {t t' : TypeId} {x y : Operand}

/-! ### Texts -/
theorem gtr_eq (a b : List UInt8) : (!Op.bytesLess a b && !(a == b)) = Op.bytesLess b a := by
  cases h1 : Op.bytesLess a b
  · cases h2 : Op.bytesLess b a
    · have := bytesLess_total h1 h2; subst this; simp
    · have h3 : a ≠ b := by rintro rfl; rw [bytesLess_irrefl] at h2; cases h2
      simp [h3]
  · cases h2 : Op.bytesLess b a
    · simp
    · have := bytesLess_trans h1 h2; rw [bytesLess_irrefl] at this; cases this
theorem leq_eq (a b : List UInt8) : (Op.bytesLess a b || (a == b)) = !Op.bytesLess b a := by
  rw [← gtr_eq a b]; simp
theorem Ok.str {f : Fr} {G : GH} {M : MH} {o : Oper} {a b : ByteArray} (h : Ok E f G M o (.string a)) (e : a = b) : Ok E f G M o (.string b) := e ▸ h
theorem ok_gtrS {a b : ByteArray} {t2 : TypeId} (hx : ev f x = .string a) (hy : ev f y = .string b) : Ok E f G M ⟨some d, .binOp .gtr t x y t2, ty, pos, aft, none⟩ (.bool (blt b a)) := fun _ _ => by
  simp [execOp, hx, hy, eqGuard, binOp, Op.stringOp, blt, gtr_eq]
theorem ok_leqS {a b : ByteArray} {t2 : TypeId} (hx : ev f x = .string a) (hy : ev f y = .string b) : Ok E f G M ⟨some d, .binOp .leq t x y t2, ty, pos, aft, none⟩ (.bool (!blt b a)) := fun _ _ => by
  simp [execOp, hx, hy, eqGuard, binOp, Op.stringOp, blt, leq_eq]

/-! ### Calls through function values -/
theorem run_callV {g : FuncId} {fst caps : List Value} {args : List Operand} {at' : Array TypeId} {vs : List Value} {w : World} {dst : Option Nat} (hc : Callable E.P g) (hx : ev f x = .func (.func g) fst.toArray caps.toArray) (ha : fst ++ (args.map (ev f) ++ caps) = vs) :
    (execOp (ev f) ⟨dst, .call { callee := .value x, args := args.toArray, argTypes := at' }, ty, pos, aft, none⟩).run E.P w = .ok (.enter g vs.toArray) w := by
  have h4 := hc (fst.toArray ++ (args.map (ev f)).toArray ++ caps.toArray) w
  have e : fst.toArray ++ (args.map (ev f)).toArray ++ caps.toArray = vs.toArray := by rw [← ha]; simp
  simp only [execOp, resolve, hx, Deferred.ofValue, Sem.run_bind, Sem.run_pure, Result.andThen_ok, invoke, List.map_toArray]
  rw [← e]; exact h4
theorem qcalls {g : FuncId} {vs : List Value} {v : Value} (hc : Fc E.P g vs G [] (fun v' _ _ => v' = v)) {w : World} (hr : E.real G M w) : Calls E.P g vs.toArray w fun e w' => e = .returned v ∧ E.real G M w' := by
  have hw : Real w (fun b => b ∈ (([] : MH).map (·.1))) G [] w := ⟨rfl, rfl, rfl, Nat.le_refl _, fun _ _ _ => rfl, hr.r.ro, (fun _ h => nomatch h), (fun _ h => nomatch h), List.nodup_nil, (fun _ h => nomatch h)⟩
  refine (hc.2 w hw).mono ?_
  rintro e w' ⟨v', G', M', rfl, h2, h3, h4, rfl⟩
  have h5 := Real.call (Mp := []) (Mr := M) (by simpa using hr.r) h2 h4
  have h6 : Real E.w0 E.own G' M w' := h5.sub (List.sublist_append_right _ _)
  refine ⟨rfl, Env.real.anti (G' := G') ⟨h6, hr.le.trans h3, ?_⟩ h3 hr.le⟩
  intro b hb hb'
  cases hg : G b with
  | none =>
    rcases h4 b hg hb' with h7 | h7
    · exact .inl (Nat.le_trans hr.r.size h7)
    · simp at h7
  | some o => exact hr.nw b hb (by simp [hg])
/-- A call through a function value that hands back a value that hangs on no address. -/
theorem W.qcallV {g : FuncId} {fst caps : List Value} {args : List Operand} {at' : Array TypeId} {vs : List Value} {v : Value} (hx : ev f x = .func (.func g) fst.toArray caps.toArray) (hc : Fc E.P g vs G [] (fun v' _ _ => v' = v)) (ha : fst ++ (args.map (ev f) ++ caps) = vs)
    (k : W E ops.toArray q rest (upd f d v) G M K) (hd : Nat.blt d E.n = true := by rfl) :
    W E ops.toArray q (⟨some d, .call { callee := .value x, args := args.toArray, argTypes := at' }, ty, pos, aft, none⟩ :: rest) f G M K := by
  cases q
  · intro a w Q hi hr hK
    refine wpList_plain rfl fun K' hK' => ?_
    unfold Oper.wp
    rw [hi.eval, run_callV hc.1 hx ha]
    refine (qcalls hc hr).mono ?_
    rintro e w' ⟨rfl, h⟩
    exact hK' _ _ (k _ w' Q (hi.put hd v) h hK)
  · intro a hi
    refine wpQuiet_step fun K' hK' => ?_
    rw [if_pos (by rfl)]
    refine ⟨v, fun w hr => ?_, hK' _ (k _ (hi.put hd v))⟩
    unfold Oper.quietAt
    rw [hi.eval, run_callV hc.1 hx ha]
    exact ⟨rfl, qcalls hc hr⟩

/-! ### Elements of own slices -/
/-- The cells of an own slice's element. -/
def OwnAt (Ms : MH) (v : Value) (k n : Nat) (cs : List Value) : Prop := ∃ b len cap T cur, v = .slice (some ⟨b, 0, none⟩) len cap ∧ Ms = [(b, Obj.cells cur T (0, 0))] ∧ ∀ j, j < cs.length → cur[n * k + j]? = cs[j]?
theorem OwnAt.form {Ms : MH} {v : Value} {k n : Nat} {cs : List Value} (h : OwnAt Ms v k n cs) : ∃ a n c, v = .slice (some a) n c := by
  obtain ⟨b, len, cap, T, cur, rfl, _⟩ := h; exact ⟨_, _, _, rfl⟩
theorem OwnR.at {α : Type} {e : Enc α} {T : TypeId} {v : Value} {l : List α} {Ms : MH} (ho : OwnR e T G v l Ms) {i : Nat} (hi : i < l.length) : ∃ cs, OwnAt Ms v e.k i cs ∧ e.R G cs l[i] := by
  obtain ⟨css, h1, ⟨h2, h3⟩, h4⟩ := ho
  obtain ⟨h5, h6⟩ := h1.spec
  obtain ⟨cs, h7, h8⟩ := h6 i hi
  refine ⟨cs, ?_, h8⟩
  rcases h3 with ⟨rfl, hn, _⟩ | ⟨b, cap, cur, rfl, h9, h10, h11, h12, rfl⟩
  · omega
  · refine ⟨b, _, cap, T, cur, rfl, rfl, fun j hj => ?_⟩
    have h13 := flatten_get (k := e.k) h1.lens h7 j hj
    have hk : cs.length = e.k := h1.lens cs (List.mem_of_getElem? h7)
    have hlt : i * e.k + j < l.length * e.k := by
      have : (i + 1) * e.k ≤ l.length * e.k := Nat.mul_le_mul_right _ hi
      rw [Nat.add_mul] at this; omega
    rw [← h13, ← h12, List.getElem?_take, if_pos hlt]
    simp
theorem ok_indexAddrO {α : Type} {e : Enc α} {T : TypeId} {v : Value} {l : List α} {Ms : MH} {b : Bool} {k : IntKind} {m : Int} (ht : sliceK E.P t = some t') (hk : tyK E.P t' = some (b, e.k)) (ho : OwnR e T G v l Ms) (hx : ev f x = v) (hy : ev f y = .int k m) {i : Nat} (hi : m = i ∧ i < l.length) :
    Ok E f G M ⟨some d, .indexAddr t x y, ty, pos, aft, none⟩ (.pointer (some (elemA v e.k i 0))) := fun _ _ => by
  obtain ⟨rfl, hi⟩ := hi
  obtain ⟨css, h1, ⟨h2, h3⟩, h4⟩ := ho
  rcases h3 with ⟨rfl, hn, _⟩ | ⟨b, cap, cur, rfl, h9, h10, h11, h12, rfl⟩
  · omega
  · simp [execOp, hx, hy, Instr.indexAt, asIntOf, run_underlying (sliceK_und ht), hi, tyK_size hk, elemA, Addr.add_lit]
theorem ok_loadO {kk i o : Nat} {cs vs : List Value} {v : Value} {b : Bool} {j : Nat} {Ms B : MH} (ht : tyK E.P t = some (b, j)) (he : OwnAt Ms v kk i cs) (hM : (Ms ++ B).Perm M) (hx : ev f x = .pointer (some (elemA v kk i o)))
    (hv : (cs.drop o).take j = vs) (hl : vs.length = j) (hb : b = false → j = 1) : Ok E f G M ⟨some d, .load t x, ty, pos, aft, none⟩ (mkV b vs) := fun w hr => by
  obtain ⟨bb, len, cap, T, cur, rfl, rfl, hc⟩ := he
  subst hv
  have hb' : w.heap[bb]? = some (.cells cur T (0, 0)) := hr.r.mu (bb, .cells cur T (0, 0)) ((hM.mem_iff).1 (by simp))
  have := run_loadVar_cells ht hb (w := w) (a := ⟨bb, 0 + i * kk + o, none⟩) hl (fun j' v' hj' => by
    rw [Addr.add_lit]
    rw [List.getElem?_take] at hj'
    split at hj'
    · rw [List.getElem?_drop] at hj'
      have h1 := hc (o + j') (List.getElem?_eq_some_iff.1 hj').1
      rw [hj'] at h1
      simp only [World.cell?, hb']
      rw [show 0 + i * kk + o + j' = i * kk + (o + j') from by omega]
      exact h1
    · cases hj')
  simp only [Nat.zero_add] at this
  simp [execOp, hx, Instr.loadAt, Instr.sureAddr, elemA, this]

theorem setAt_nil (l : List Value) (o : Nat) : setAt l o [] = l := by cases l <;> cases o <;> rfl
theorem AllR.set {α : Type} {e : Enc α} {G : GH} {a : α} {cs : List Value} (h : e.R G cs a) : ∀ {css : List (List Value)} {l : List α} {i : Nat}, AllR e G css l → i < l.length → AllR e G (css.set i cs) (l.set i a)
  | [], [], _, _, hi => absurd hi (Nat.not_lt_zero _)
  | _ :: _, _ :: _, 0, h2, _ => ⟨h, h2.2⟩
  | _ :: css, _ :: l, i + 1, h2, hi => ⟨h2.1, AllR.set h h2.2 (by simpa using hi)⟩
theorem flatten_set {k : Nat} : ∀ {css : List (List Value)} {i : Nat} {cs : List Value}, (∀ c ∈ css, c.length = k) → cs.length = k → i < css.length → (css.set i cs).flatten = css.flatten.take (i * k) ++ cs ++ css.flatten.drop (i * k + k)
  | c :: css, 0, cs, h, hc, _ => by
    have := h c (by simp)
    simp only [List.set_cons_zero, List.flatten_cons, Nat.zero_mul, List.take_zero, List.nil_append, Nat.zero_add]
    rw [← this, List.drop_left]
  | c :: css, i + 1, cs, h, hc, hi => by
    have h1 := h c (by simp)
    have h2 := flatten_set (k := k) (css := css) (i := i) (cs := cs) (fun c hc => h c (by simp [hc])) hc (by simpa using hi)
    simp only [List.set_cons_succ, List.flatten_cons]
    rw [h2, Nat.add_mul, Nat.one_mul]
    have e1 : List.take (k + i * k) (c ++ css.flatten) = c ++ css.flatten.take (i * k) := by rw [← h1, List.take_length_add_append]
    have e2 : List.drop (k + (i * k + k)) (c ++ css.flatten) = css.flatten.drop (i * k + k) := by rw [← h1, List.drop_length_add_append]
    rw [show i * k + k = k + i * k from by omega] at e2 ⊢
    rw [e1, show k + i * k + k = k + (k + i * k) from by omega, e2]
    simp
theorem splice {α : Type} (X vs : List α) (ik o j k N : Nat) (h1 : vs.length = j) (h2 : o + j ≤ k) (h3 : ik + k ≤ N) (h4 : N ≤ X.length) :
   List.take N (X.take (ik+o) ++ vs ++ X.drop (ik + o + vs.length)) = (X.take N).take ik ++ (((X.drop ik).take k).take o ++ vs ++ ((X.drop ik).take k).drop (o + vs.length)) ++ (X.take N).drop (ik + k) := by
  subst h1
  apply List.ext_getElem?
  intro p
  rcases Nat.lt_or_ge p ik with h | h
  · simp (disch := (first | omega | (simp only [List.length_append, List.length_take, List.length_drop]; omega))) only [List.getElem?_append_left, List.getElem?_take_of_lt]
  · rcases Nat.lt_or_ge p (ik + o) with h5 | h5
    · simp (disch := (first | omega | (simp only [List.length_append, List.length_take, List.length_drop]; omega))) only [List.getElem?_append_left, List.getElem?_append_right, List.getElem?_take_of_lt, List.getElem?_drop]
      congr 1; simp only [List.length_append, List.length_take, List.length_drop]; omega
    · rcases Nat.lt_or_ge p (ik + o + vs.length) with h6 | h6
      · simp (disch := (first | omega | (simp only [List.length_append, List.length_take, List.length_drop]; omega))) only [List.getElem?_append_left, List.getElem?_append_right, List.getElem?_take_of_lt, List.getElem?_drop]
        congr 1; simp only [List.length_append, List.length_take, List.length_drop]; omega
      · rcases Nat.lt_or_ge p (ik + k) with h7 | h7
        · simp (disch := (first | omega | (simp only [List.length_append, List.length_take, List.length_drop]; omega))) only [List.getElem?_append_left, List.getElem?_append_right, List.getElem?_take_of_lt, List.getElem?_drop]
          congr 1; simp only [List.length_append, List.length_take, List.length_drop]; omega
        · rcases Nat.lt_or_ge p N with h8 | h8
          · simp (disch := (first | omega | (simp only [List.length_append, List.length_take, List.length_drop]; omega))) only [List.getElem?_append_left, List.getElem?_append_right, List.getElem?_take_of_lt, List.getElem?_drop]
            congr 1; simp only [List.length_append, List.length_take, List.length_drop]; omega
          · rw [List.getElem?_eq_none (by simp only [List.length_append, List.length_take, List.length_drop]; omega), List.getElem?_eq_none (by simp only [List.length_append, List.length_take, List.length_drop]; omega)]
/-- A store into an element of an own slice. -/
theorem W.storeO {α : Type} {e : Enc α} {T : TypeId} {v z : Value} {l : List α} {Ms B : MH} {a' : α} {vs : List Value} {bb : Bool} {i o j : Nat} (ht : tyK E.P t = some (bb, j)) (hx : ev f x = .pointer (some (elemA v e.k i o))) (hy : ev f y = z) (hv : z.cells.toList = vs) (hl : vs.length = j) (h1 : vs.all Value.oneCell' = true)
    (ho : OwnR e T G v l Ms) (hM : (Ms ++ B).Perm M) (hi : i < l.length) (hoj : o + j ≤ e.k) (hR : ∀ cs, e.R G cs l[i] → e.R G (setAt cs o vs) a')
    (k : ∀ Ms', OwnR e T G v (l.set i a') Ms' → W E ops.toArray false rest f G (Ms' ++ B) K) :
    W E ops.toArray false (⟨none, .store t x y, ty, pos, aft, none⟩ :: rest) f G M K := by
  intro a w Q hia hr0 hK
  have hr := hr0.perm hM
  obtain ⟨css, h2, ⟨h3, h4⟩, h5⟩ := ho
  obtain ⟨h6, h7⟩ := h2.spec
  obtain ⟨cs, h8, h9⟩ := h7 i hi
  have hcl : cs.length = e.k := h2.lens cs (List.mem_of_getElem? h8)
  rcases h4 with ⟨rfl, hn, _⟩ | ⟨b, cap, cur, rfl, h10, h11, h12, h13, rfl⟩
  · omega
  · have hik : i * e.k + e.k ≤ l.length * e.k := by
      have : (i + 1) * e.k ≤ l.length * e.k := Nat.mul_le_mul_right _ hi
      rw [Nat.add_mul] at this; omega
    have hck : l.length * e.k ≤ cap * e.k := Nat.mul_le_mul_right _ h10
    have hsz : cur.toList.length = cap * e.k := by simpa using h12
    have hb' : w.heap[b]? = some (.cells cur.toList.toArray T (0, 0)) := by simpa using hr.r.mu (b, .cells cur T (0, 0)) (by simp)
    have hrun : (execOp (ev f) ⟨none, .store t x y, ty, pos, aft, none⟩).run E.P w = .ok .skip (w.setRow b (setAt cur.toList (i * e.k + o) vs).toArray) := by
      have q3 := run_storeCells_at E.P b (i * e.k + o) T vs 0 cur w (by simpa using hb') (by omega) (oneAll_spec h1)
      simp only [Nat.add_zero] at q3
      rw [← setAt_eq cur.toList (i * e.k + o) vs (by omega)] at q3
      have q4 : z.cells.size = j := by rw [← hl, ← hv]; simp
      simp [execOp, hx, hy, Instr.storeAt, Instr.sureAddr, storeVar, tyK_size ht, q4, hv, q3, elemA]
    have hset : setAt cs o vs = cs.take o ++ vs ++ cs.drop (o + vs.length) := setAt_eq cs o vs (by omega)
    have hcs' : (setAt cs o vs).length = e.k := by rw [setAt_length cs o vs (by omega), hcl]
    refine wpList_plain rfl fun K' hK' => ?_
    unfold Oper.wp
    rw [hia.eval, hrun]
    refine hK' _ _ (k [(b, .cells (setAt cur.toList (i * e.k + o) vs).toArray T (0, 0))] ⟨css.set i (setAt cs o vs), AllR.set (hR cs h9) h2 hi, ⟨?_, .inr ⟨b, cap, _, by simp, by simpa using h10, h11, ?_, ?_, rfl⟩⟩, by simpa using h5⟩ _ _ Q (hia.put_none undef) (setRow_real0 hr) hK)
    · rw [flatten_set h2.lens hcs' (by omega)]
      simp only [List.length_append, List.length_take, List.length_drop, hcs', h3, List.length_set]
      omega
    · simp only [List.size_toArray]
      rw [setAt_length _ _ _ (by omega), hsz]
    · rw [flatten_set h2.lens hcs' (by omega), hset]
      have hfl : css.flatten = cur.toList.take (l.length * e.k) := h13.symm
      have hcs : cs = (cur.toList.drop (i * e.k)).take e.k := by
        apply List.ext_getElem?
        intro p
        rw [List.getElem?_take, List.getElem?_drop]
        by_cases hp : p < e.k
        · have := flatten_get (k := e.k) h2.lens h8 p (by omega)
          rw [if_pos hp, ← this, hfl, List.getElem?_take, if_pos (by omega)]
        · rw [if_neg hp, List.getElem?_eq_none (by omega)]
      simp only [List.toList_toArray, List.length_set]
      rw [setAt_eq _ _ _ (by omega), hfl, hcs]
      exact splice cur.toList vs (i * e.k) o j e.k (l.length * e.k) hl hoj hik (by omega)
end
end Go.Fw
