/- More operations of the calculus: structs built of parts, pieces of slices, slices made of elements, append. Nothing of the program is named here. No condition. -/
import Derived.Test.YtipdjeemjiimbaaFo
import Derived.Laws.StructEq
set_option linter.unusedVariables false
set_option linter.unusedSimpArgs false
set_option linter.unnecessarySimpa false
namespace Go.Fw
open Go Go.RowKit

section
variable {E : Env} {f : Fr} {G : GH} {M : MH} {ops rest : List Oper} {q : Bool} {K : Kt} {d : Nat} {ty : TypeId} {pos : String} {aft : Array Edge} {v : Value} {x y : Operand} {t t' : TypeId} {k : IntKind} {m n : Int}

theorem SlR.form {α : Type} {e : Enc α} {l : List α} (h : SlR e G v l) : ∃ a c, v = .slice a l.length c := by
  obtain ⟨a, cap, h1, _⟩ := h
  exact ⟨a, cap, h1⟩

/-! ### Structs built of parts -/
def placesK (P : Program) (t : TypeId) : Option (List (Nat × Nat)) :=
  match P.underlying t with
  | some (.struct fs) => fs.toList.mapM fun f => (P.info? f.type).map fun i => (f.offset, i.size)
  | _ => none
def fillL (pl : List (Nat × Nat)) (L : List Value) : List (Nat × List Value) → List Value
  | [] => L
  | (i, cs) :: r => match pl[i]? with
    | some (o, _) => fillL pl (setAt L o cs) r
    | none => L
def fillB (pl : List (Nat × Nat)) (n : Nat) : List (Nat × List Value) → Bool
  | [] => true
  | (i, cs) :: r => (match pl[i]? with
    | some (o, k) => Nat.beq cs.length k && Nat.ble (o + k) n
    | none => false) && fillB pl n r

theorem setAt_length (l : List Value) (o : Nat) (vs : List Value) (h : o + vs.length ≤ l.length) : (setAt l o vs).length = l.length := by
  rw [setAt_eq l o vs h]
  simp; omega

theorem foldl_set (cs : List Value) : ∀ (o : Nat) (L : List Value), o + cs.length ≤ L.length → (cs.zipIdx.foldl (fun (a : Array Value) (p : Value × Nat) => a.setIfInBounds (o + p.2) p.1) L.toArray) = (setAt L o cs).toArray := by
  intro o L h
  suffices ∀ (cs : List Value) (j : Nat) (L : List Value), o + j + cs.length ≤ L.length → (cs.zipIdx j).foldl (fun (a : Array Value) (p : Value × Nat) => a.setIfInBounds (o + p.2) p.1) L.toArray = (setAt L (o + j) cs).toArray by
    simpa using this cs 0 L (by simpa using h)
  intro cs
  induction cs with
  | nil => intro j L _; cases L <;> cases h : (o + j) <;> simp [setAt]
  | cons c cs ih =>
    intro j L h
    simp only [List.zipIdx_cons, List.foldl_cons, List.setIfInBounds_toArray]
    rw [ih (j + 1) _ (by simp at h ⊢; omega)]
    congr 1
    simp only [List.length_cons] at h
    rw [setAt_eq _ _ _ (by simp; omega), setAt_eq _ _ _ (by simp; omega)]
    apply List.ext_getElem?
    intro i
    simp only [List.getElem?_append, List.length_take, List.length_set, List.length_cons, List.getElem?_take, List.getElem?_drop, List.getElem?_set, List.getElem?_cons, List.length_append]
    have e1 : min (o + (j + 1)) L.length = o + j + 1 := by omega
    have e2 : min (o + j) L.length = o + j := by omega
    rw [e1, e2]
    by_cases h1 : i < o + j
    · rw [if_pos (by omega), if_pos (by omega), if_pos (by omega), if_neg (by omega), if_pos (by omega), if_pos (by omega), if_pos (by omega)]
    · by_cases h2 : i = o + j
      · subst h2
        rw [if_pos (by omega), if_pos (by omega), if_pos (by omega), if_pos (by omega), if_pos (by omega), if_pos (by omega), if_neg (by omega), if_pos (by omega)]
      · by_cases h3 : i < o + j + 1 + cs.length
        · rw [if_pos (by omega), if_neg (by omega), if_pos (by omega), if_neg (by omega), if_neg (by omega)]
          congr 1
        · rw [if_neg (by omega), if_neg (by omega), if_neg (by omega)]
          congr 1; omega

theorem fill_eq {pl : List (Nat × Nat)} : ∀ (ps : List (Nat × Value)) (L : List Value), fillB pl L.length (ps.map fun p => (p.1, p.2.cells.toList)) = true →
    Instr.fill (fun i => pl[i]?) L.toArray ps = some (fillL pl L (ps.map fun p => (p.1, p.2.cells.toList))).toArray
  | [], L, _ => by simp [Instr.fill, fillL]
  | (i, v) :: ps, L, h => by
    simp only [List.map_cons, fillB, Bool.and_eq_true] at h
    obtain ⟨h1, h2⟩ := h
    cases hp : pl[i]? with
    | none => simp [hp] at h1
    | some p =>
      obtain ⟨o, k⟩ := p
      simp only [hp, Bool.and_eq_true, Nat.ble_eq] at h1
      obtain ⟨h3, h4⟩ := h1
      have h3 := Nat.eq_of_beq_eq_true h3
      have h5 : v.cells.size = k := by simpa using h3
      have h6 := fill_eq ps (setAt L o v.cells.toList) (by rw [setAt_length _ _ _ (by omega)]; exact h2)
      simp only [Instr.fill, hp, List.map_cons, fillL]
      rw [if_neg (by simp [h5]; omega)]
      have h7 := foldl_set v.cells.toList o L (by omega)
      rw [show (v.cells.zipIdx.foldl (fun cs (x : Value × Nat) => cs.setIfInBounds (o + x.2) x.1) L.toArray) = (setAt L o v.cells.toList).toArray from by
        rw [← h7]
        rw [← Array.foldl_toList, Array.toList_zipIdx]]
      exact h6

theorem ok_build {pl : List (Nat × Nat)} {z L : List Value} {parts : List (Nat × Operand)} {ps : List (Nat × List Value)} (ht : placesK E.P t = some pl) (hz : zeroK E.P t = some z)
    (hp : (parts.map fun p => (p.1, (ev f p.2).cells.toList)) = ps) (hb : fillB pl z.length ps = true) (hL : fillL pl z ps = L) :
    Ok E f G M ⟨some d, .build t parts.toArray, ty, pos, aft, none⟩ (.agg L.toArray) := fun w _ => by
  subst hp
  subst hL
  simp only [zeroK, Option.map_eq_some_iff, Option.bind_eq_some_iff] at hz
  obtain ⟨zv, ⟨info, h1, h2⟩, rfl⟩ := hz
  unfold placesK at ht
  split at ht
  · rename_i fs h3
    have h4 : ∀ (l : List Field) (pl : List (Nat × Nat)), (l.mapM fun f => (E.P.info? f.type).map fun i => (f.offset, i.size)) = some pl →
        (l.mapM fun f => (do pure (f.offset, ← sizeOf f.type) : Sem (Nat × Nat))).run E.P w = .ok pl w := by
      intro l
      induction l with
      | nil => intro pl h; simp at h; subst h; simp
      | cons a l ih =>
        intro pl h
        simp only [List.mapM_cons, Option.bind_eq_bind, Option.bind_eq_some_iff, Option.map_eq_some_iff] at h
        obtain ⟨p, ⟨i, h5, rfl⟩, pl', h6, h7⟩ := h
        simp at h7
        subst h7
        have := ih pl' h6
        have hs : (sizeOf a.type).run E.P w = .ok i.size w := by simp [sizeOf, typeInfo, h5]
        simp only [List.mapM_cons, Sem.run_bind, hs, Result.andThen_ok, Sem.run_pure, this]
    have h5 := h4 _ _ ht
    have h6 : (fs.mapM fun f => (do pure (f.offset, ← sizeOf f.type) : Sem (Nat × Nat))).run E.P w = .ok pl.toArray w := by
      rw [← Array.toArray_toList (xs := fs), List.mapM_toArray]
      simp only [Sem.run_map, h5]
      rfl
    have h7 := fill_eq (pl := pl) (parts.map fun p => (p.1, ev f p.2)) zv.cells.toList (by simpa [List.map_map, Function.comp_def] using hb)
    simp only [List.map_map, Function.comp_def] at h7
    simp only [execOp, Instr.build, zeroValue, typeInfo, Sem.run_bind, Result.andThen_ok, h1, h2, Sem.run_pure, run_program, run_underlying h3, h6, List.map_toArray]
    have h8 : (fun (i : Nat) => pl.toArray[i]?) = (fun (i : Nat) => pl[i]?) := by funext i; simp
    simp only [Array.toArray_toList] at h7
    rw [h8, h7]
    simp
  · cases ht
end

/-! ### Two structs, cell by cell -/
def eqCells : List Value → List Value → Bool
  | [], [] => true
  | .string a :: r, .string b :: s => decide (a = b) && eqCells r s
  | .int _ a :: r, .int _ b :: s => decide (a = b) && eqCells r s
  | .bool a :: r, .bool b :: s => decide (a = b) && eqCells r s
  | _, _ => false
def plainK (P : Program) (t : TypeId) : Option TypeDesc :=
  match P.underlying t with
  | some .bool => some .bool
  | some (.int k) => some (.int k)
  | some .string => some .string
  | _ => none
def plainKs (P : Program) : Nat → List Field → Option (List TypeDesc)
  | _, [] => some []
  | i, f :: fs => if f.name = "_" ∨ f.offset ≠ i then none else (plainK P f.type).bind fun k => (plainKs P (i + 1) fs).map (k :: ·)
def fieldKs (P : Program) (t : TypeId) : Option (List TypeDesc) :=
  match P.underlying t with
  | some (.struct fs) => if P.stoodInHeld t || P.eqGuardType P.depth t then none else plainKs P 0 fs.toList
  | _ => none
def kindOk : TypeDesc → Value → Bool
  | .string, .string _ => true
  | .bool, .bool _ => true
  | .int k, .int k' _ => decide (k = k')
  | _, _ => false
def kindsOk : List TypeDesc → List Value → Bool
  | [], [] => true
  | k :: ks, v :: vs => kindOk k v && kindsOk ks vs
  | _, _ => false

theorem run_eqFields {P : Program} (n : Nat) (w : World) : ∀ (fs : List Field) (i : Nat) (ks : List TypeDesc) (X Y L1 L2 : List Value), plainKs P i fs = some ks → X.length = i → Y.length = i → kindsOk ks L1 = true → kindsOk ks L2 = true →
    (Op.eqFields (n + 1) (X ++ L1).toArray (Y ++ L2).toArray fs).run P w = .ok (eqCells L1 L2) w
  | [], i, ks, X, Y, L1, L2, h, hx, hy, h1, h2 => by
    simp only [plainKs, Option.some.injEq] at h
    subst h
    cases L1 <;> simp [kindsOk] at h1
    cases L2 <;> simp [kindsOk] at h2
    simp [Op.eqFields, eqCells]
  | f :: fs, i, ks, X, Y, L1, L2, h, hx, hy, h1, h2 => by
    simp only [plainKs] at h
    split at h
    · cases h
    · rename_i hn
      simp only [not_or, Classical.not_not] at hn
      obtain ⟨hn, ho⟩ := hn
      obtain ⟨k, hk, h3⟩ := Option.bind_eq_some_iff.1 h
      obtain ⟨ks', h4, rfl⟩ := Option.map_eq_some_iff.1 h3
      cases L1 with
      | nil => simp [kindsOk] at h1
      | cons a L1 =>
        cases L2 with
        | nil => simp [kindsOk] at h2
        | cons b L2 =>
          simp only [kindsOk, Bool.and_eq_true] at h1 h2
          have ih := run_eqFields n w fs (i + 1) ks' (X ++ [a]) (Y ++ [b]) L1 L2 h4 (by simp [hx]) (by simp [hy]) h1.2 h2.2
          simp only [List.append_assoc, List.singleton_append] at ih
          have ga : (X ++ a :: L1).toArray[f.offset]? = some a := by simp [ho, ← hx]
          have gb : (Y ++ b :: L2).toArray[f.offset]? = some b := by simp [ho, ← hy]
          unfold plainK at hk
          cases hu : P.underlying f.type with
          | none => simp [hu] at hk
          | some dd =>
            have pa : ∀ (c : Value) (Z : Array Value), Z[f.offset]? = some c → dd = k → (part f.type Z f.offset).run P w = .ok c w := fun c Z hc e => by
              subst e
              cases dd <;> simp [hu] at hk <;> simp [part, isAgg, run_underlying hu, hc]
            have hdk : dd = k := by cases dd <;> simp [hu] at hk <;> exact hk
            have e1 := pa a _ ga hdk
            have e2 := pa b _ gb hdk
            subst hdk
            have hq : (Op.equalIn (n + 1) f.type a b).run P w = .ok (eqCells [a] [b]) w := by
              cases dd <;> simp [hu] at hk
              · cases a <;> simp [kindOk] at h1
                cases b <;> simp [kindOk] at h2
                rw [run_equalIn_bool' w n f.type _ _ hu]
                simp [eqCells]; rfl
              · cases a <;> simp [kindOk] at h1
                cases b <;> simp [kindOk] at h2
                obtain ⟨rfl, _⟩ := h1
                obtain ⟨rfl, _⟩ := h2
                rw [run_equalIn_int w n f.type _ _ _ _ hu]
                simp [eqCells]; rfl
              · cases a <;> simp [kindOk] at h1
                cases b <;> simp [kindOk] at h2
                rw [run_equalIn_string w n f.type _ _ hu, beq_toList]
                simp [eqCells]
            simp only [Op.eqFields, hn, ne_eq, not_false_eq_true, if_true, Sem.run_bind, e1, e2, hq, Result.andThen_ok]
            have hc : eqCells (a :: L1) (b :: L2) = (eqCells [a] [b] && eqCells L1 L2) := by
              cases a <;> cases b <;> simp [eqCells]
            rw [hc]
            cases eqCells [a] [b]
            · simp
            · simp [ih]

section
variable {E : Env} {f : Fr} {G : GH} {M : MH} {d : Nat} {ty : TypeId} {pos : String} {aft : Array Edge} {x y : Operand} {t t' : TypeId}
theorem run_equalA {P : Program} {ks : List TypeDesc} {L1 L2 : List Value} (hk : fieldKs P t = some ks) (h1 : kindsOk ks L1 = true) (h2 : kindsOk ks L2 = true) (w : World) :
    (Op.equal t (.agg L1.toArray) (.agg L2.toArray)).run P w = .ok (eqCells L1 L2) w ∧ P.eqGuardType P.depth t = false := by
  unfold fieldKs at hk
  split at hk
  · rename_i fs hu
    split at hk
    · cases hk
    · rename_i hg
      simp only [Bool.or_eq_true, not_or, Bool.not_eq_true] at hg
      have hf : P.fieldsOf t = fs := by simp [Program.fieldsOf, hu]
      have h3 := run_equalIn_struct (P := P) w 9999 t L1.toArray L2.toArray (by rw [hf]; exact hu) hg.1
      have h4 := run_eqFields (P := P) 9998 w fs.toList 0 ks [] [] L1 L2 hk rfl rfl h1 h2
      rw [hf] at h3
      exact ⟨h3.trans h4, hg.2⟩
  · cases hk
theorem ok_eqlA {ks : List TypeDesc} {L1 L2 : List Value} (hk : fieldKs E.P t = some ks) (hx : ev f x = .agg L1.toArray) (hy : ev f y = .agg L2.toArray) (h1 : kindsOk ks L1 = true) (h2 : kindsOk ks L2 = true) :
    Ok E f G M ⟨some d, .binOp .eql t x y t', ty, pos, aft, none⟩ (.bool (eqCells L1 L2)) := fun w _ => by
  obtain ⟨h3, h4⟩ := run_equalA hk h1 h2 w
  have h5 : (binOp .eql t (.agg L1.toArray) (.agg L2.toArray)).run E.P w = .ok (.bool (eqCells L1 L2)) w := by simp only [binOp]; simp [h3]
  simp [execOp, hx, hy, eqGuard, h4, h5]
theorem ok_neqA {ks : List TypeDesc} {L1 L2 : List Value} (hk : fieldKs E.P t = some ks) (hx : ev f x = .agg L1.toArray) (hy : ev f y = .agg L2.toArray) (h1 : kindsOk ks L1 = true) (h2 : kindsOk ks L2 = true) :
    Ok E f G M ⟨some d, .binOp .neq t x y t', ty, pos, aft, none⟩ (.bool (!eqCells L1 L2)) := fun w _ => by
  obtain ⟨h3, h4⟩ := run_equalA hk h1 h2 w
  have h5 : (binOp .neq t (.agg L1.toArray) (.agg L2.toArray)).run E.P w = .ok (.bool (!eqCells L1 L2)) w := by simp only [binOp]; simp [h3]
  simp [execOp, hx, hy, eqGuard, h4, h5]
end

section
variable {E : Env} {f : Fr} {G : GH} {M : MH} {d : Nat} {ty : TypeId} {pos : String} {aft : Array Edge} {x y : Operand} {t t' : TypeId} {m n : Int}
theorem ok_convU (ht : E.P.underlying t = some (.int .i64)) (ht' : E.P.underlying t' = some (.int .u64)) (hx : ev f x = .int .i64 m) (hb : 0 ≤ m ∧ m ≤ 9223372036854775807) :
    Ok E f G M ⟨some d, .convert t t' x, ty, pos, aft, none⟩ (.int .u64 m) := fun w _ => by
  have := IntWalk.u64_in m (by omega)
  simp [execOp, hx, convert, run_underlying ht, run_underlying ht', Conv.intToInt, this]
theorem ok_convI (ht : E.P.underlying t = some (.int .u64)) (ht' : E.P.underlying t' = some (.int .i64)) (hx : ev f x = .int .u64 m) (hb : 0 ≤ m ∧ m ≤ 9223372036854775807) :
    Ok E f G M ⟨some d, .convert t t' x, ty, pos, aft, none⟩ (.int .i64 m) := fun w _ => by
  have := IntWalk.i64_in m (by omega)
  simp [execOp, hx, convert, run_underlying ht, run_underlying ht', Conv.intToInt, this]
theorem ok_shr1 {k : IntKind} (hx : ev f x = .int .u64 m) (hy : ev f y = .int k 1) (_hb : 0 ≤ m ∧ m ≤ 9223372036854775807) :
    Ok E f G M ⟨some d, .binOp .shr t x y t', ty, pos, aft, none⟩ (.int .u64 (m / 2)) := fun w _ => by
  have h2 : m.fdiv (2 ^ min 1 IntKind.u64.bits) = m / 2 := by
    rw [show (2 : Int) ^ min 1 IntKind.u64.bits = 2 from rfl, Int.fdiv_eq_ediv_of_nonneg _ (by omega)]
  simp [execOp, hx, hy, eqGuard, binOp, Op.shift, h2]
end

/-! ### Slices made of elements -/
theorem fill_slice (sz : Nat) : ∀ (ps : List (Nat × Value)) (i : Nat) (A Z : List Value), A.length = i * sz → Z.length = ps.length * sz → ps.map (·.1) = List.range' i ps.length → (∀ p ∈ ps, p.2.cells.size = sz) →
    Instr.fill (fun i => some (i * sz, sz)) (A ++ Z).toArray ps = some (A ++ (ps.map fun p => p.2.cells.toList).flatten).toArray
  | [], i, A, Z, _, hz, _, _ => by
    have : Z = [] := List.eq_nil_of_length_eq_zero (by simpa using hz)
    simp [Instr.fill, this]
  | (j, v) :: ps, i, A, Z, ha, hz, hi, hs => by
    simp only [List.map_cons, List.length_cons, List.range'_succ, List.cons.injEq] at hi
    obtain ⟨rfl, hi⟩ := hi
    have h1 : v.cells.size = sz := hs (j, v) (by simp)
    have hz' : Z.length = sz + ps.length * sz := by rw [hz]; simp [Nat.add_mul, Nat.add_comm]
    simp only [Instr.fill]
    rw [if_neg (by simp [h1, ha, hz'])]
    have h2 := foldl_set v.cells.toList (j * sz) (A ++ Z) (by simp [h1, ha, hz'])
    rw [show (v.cells.zipIdx.foldl (fun cs (x : Value × Nat) => cs.setIfInBounds (j * sz + x.2) x.1) (A ++ Z).toArray) = (setAt (A ++ Z) (j * sz) v.cells.toList).toArray from by
      rw [← h2, ← Array.foldl_toList, Array.toList_zipIdx]]
    rw [setAt_eq _ _ _ (by simp [h1, ha, hz'])]
    have e1 : (A ++ Z).take (j * sz) = A := by rw [← ha]; exact List.take_left
    have e2 : (A ++ Z).drop (j * sz + v.cells.toList.length) = Z.drop sz := by
      rw [← ha, List.drop_append]; simp [h1]
    rw [e1, e2]
    rw [fill_slice sz ps (j + 1) (A ++ v.cells.toList) (Z.drop sz) (by simp [h1, ha, Nat.add_mul]) (by simp [hz']) hi (fun p hp => hs p (by simp [hp]))]
    simp

def AllR {α : Type} (e : Enc α) (G : GH) : List (List Value) → List α → Prop
  | [], [] => True
  | cs :: css, a :: l => e.R G cs a ∧ AllR e G css l
  | _, _ => False
theorem AllR.spec {α : Type} {e : Enc α} {G : GH} : ∀ {css : List (List Value)} {l : List α}, AllR e G css l → css.length = l.length ∧ ∀ i (h : i < l.length), ∃ cs, css[i]? = some cs ∧ e.R G cs l[i]
  | [], [], _ => ⟨rfl, fun i h => absurd h (by simp)⟩
  | cs :: css, a :: l, h => by
    obtain ⟨h1, h2⟩ := AllR.spec h.2
    refine ⟨by simp [h1], fun i hi => ?_⟩
    cases i with
    | zero => exact ⟨cs, rfl, h.1⟩
    | succ i => simpa using h2 i (by simpa using hi)
theorem AllR.mono {α : Type} {e : Enc α} {G G' : GH} (hl : Le G G') : ∀ {css : List (List Value)} {l : List α}, AllR e G css l → AllR e G' css l
  | [], [], _ => trivial
  | _ :: _, _ :: _, h => ⟨e.mono hl h.1, AllR.mono hl h.2⟩
theorem flatten_get {k : Nat} : ∀ {css : List (List Value)} {i : Nat} {cs : List Value}, (∀ c ∈ css, c.length = k) → css[i]? = some cs → ∀ j, j < cs.length → css.flatten[i * k + j]? = cs[j]?
  | [], _, _, _, h, _, _ => by simp at h
  | c :: css, 0, cs, hk, h, j, hj => by
    simp at h; subst h
    simp [List.getElem?_append_left hj]
  | c :: css, i + 1, cs, hk, h, j, hj => by
    have h1 := hk c (by simp)
    have := flatten_get (css := css) (fun c hc => hk c (by simp [hc])) (by simpa using h) j hj
    rw [List.flatten_cons, List.getElem?_append_right (by rw [h1, Nat.add_mul]; omega), h1, ← this]
    congr 1
    rw [Nat.add_mul]; omega
theorem AllR.lens {α : Type} {e : Enc α} {G : GH} : ∀ {css : List (List Value)} {l : List α}, AllR e G css l → ∀ c ∈ css, c.length = e.k
  | [], [], _, _, hc => by simp at hc
  | cs :: css, a :: l, h, c, hc => by
    rcases List.mem_cons.1 hc with rfl | hc
    · exact e.len h.1
    · exact AllR.lens h.2 c hc
/-- A block that holds elements reads as their slice. -/
theorem SlR.of_block {α : Type} {e : Enc α} {G : GH} {b : Nat} {c : Array Value} {T : TypeId} {fr : Nat × Nat} {css : List (List Value)} {l : List α} {n cap : Nat} (hb : G b = some (.cells c T fr)) (hc : ∀ i, i < css.flatten.length → c[i]? = css.flatten[i]?)
    (hR : AllR e G css l) (hn : n = l.length) (h1 : l.length ≤ cap) (h2 : cap ≤ maxLen) (h3 : l.length * e.w ≤ 140737488355328) : SlR e G (.slice (some ⟨b, 0, none⟩) n cap) l := by
  subst hn
  refine ⟨some ⟨b, 0, none⟩, cap, rfl, h1, ⟨h2, h3⟩, (fun h => nomatch h), fun i hi => ?_⟩
  obtain ⟨h4, h5⟩ := hR.spec
  obtain ⟨cs, h6, h7⟩ := h5 i hi
  refine ⟨cs, ⟨b, 0, l.length, cap, rfl, c, T, fr, hb, fun j hj => ?_⟩, h7⟩
  have h8 := flatten_get hR.lens h6 j hj
  have h9 : i * e.k + j < css.flatten.length := by
    have : (css.flatten[i * e.k + j]?).isSome = true := by rw [h8]; simp [hj]
    simpa using this
  rw [Nat.zero_add, hc _ h9, h8]

section
variable {E : Env} {f : Fr} {G : GH} {M : MH} {ops rest : List Oper} {K : Kt} {d : Nat} {ty : TypeId} {pos : String} {aft : Array Edge} {t t' : TypeId}
/-- A slice of elements, in a new block of the call's own. -/
theorem W.bsl {b : Bool} {sz len : Nat} {parts : List (Nat × Operand)} {css : List (List Value)} {z : List Value} (ht : sliceK E.P t = some t') (hk : tyK E.P t' = some (b, sz)) (hz : zeroK E.P t' = some z)
    (hp : (parts.map fun p => (ev f p.2).cells.toList) = css) (hi : parts.map (·.1) = List.range' 0 len) (hs : css.all (fun c => Nat.beq c.length sz) = true) (hl : Nat.ble (len * sz) 16777216 = true) (hzl : Nat.beq z.length sz = true)
    (k : ∀ bl, W E ops.toArray false rest (upd f d (.slice (some ⟨bl, 0, none⟩) len len)) G ((bl, .cells css.flatten.toArray t' (0, 0)) :: M) K) (hd : Nat.blt d E.n = true := by rfl) :
    W E ops.toArray false (⟨some d, .buildSlice t len parts.toArray, ty, pos, aft, none⟩ :: rest) f G M K := by
  intro a w Q hir hr hK
  have hlen : parts.length = len := by have := congrArg List.length hi; simpa using this
  simp only [zeroK, Option.map_eq_some_iff, Option.bind_eq_some_iff] at hz
  obtain ⟨zv, ⟨info, h1, h2⟩, rfl⟩ := hz
  have hzs : zv.cells.size = sz := by have := Nat.eq_of_beq_eq_true hzl; simpa using this
  have hl' : len * sz ≤ 2 ^ 24 := by simpa using hl
  have hsz : ∀ p ∈ parts.map fun p => (p.1, ev f p.2), p.2.cells.size = sz := fun p hp' => by
    obtain ⟨q, hq, rfl⟩ := List.mem_map.1 hp'
    have h3 := List.all_eq_true.1 hs ((ev f q.2).cells.toList) (by rw [← hp]; exact List.mem_map_of_mem hq)
    have := Nat.eq_of_beq_eq_true h3
    simpa using this
  have hzv : (zeroValue t').run E.P w = .ok zv w := by simp [zeroValue, typeInfo, h1, h2]
  have hfill : ∀ z' : Array Value, Instr.fill (fun i => some (i * sz, sz)) ((Array.range (len * sz)).map (z'[· % z'.size]!)) (parts.map fun p => (p.1, ev f p.2)) = some css.flatten.toArray := fun z' => by
    have h3 := fill_slice sz (parts.map fun p => (p.1, ev f p.2)) 0 [] ((Array.range (len * sz)).map (z'[· % z'.size]!)).toList (by simp) (by simp [hlen]) (by simpa [hlen, List.map_map, Function.comp_def] using hi) hsz
    simp only [List.nil_append, Array.toArray_toList, List.map_map, Function.comp_def] at h3
    rw [hp] at h3
    exact h3
  have hrun : (execOp (ev f) ⟨some d, .buildSlice t len parts.toArray, ty, pos, aft, none⟩).run E.P w = .ok (.value (.slice (some ⟨w.heap.size, 0, none⟩) len len)) (w.alloc (.cells css.flatten.toArray t' (0, 0))) := by
    simp only [execOp, Instr.buildSlice, Sem.run_bind, run_underlying (sliceK_und ht), Result.andThen_ok, tyK_size hk]
    rw [if_neg (by omega)]
    by_cases h0 : len * sz = 0
    · have h4 := hfill #[]
      simp only [List.map_toArray, Sem.run_bind, Sem.run_pure, Result.andThen_ok, if_pos h0, h4]
      simp [newRow]
    · have h4 := hfill zv.cells
      simp only [List.map_toArray, Sem.run_bind, Sem.run_pure, Result.andThen_ok, if_neg h0, hzv, h4]
      simp [newRow]
  refine wpList_plain rfl fun K' hK' => ?_
  unfold Oper.wp
  rw [hir.eval, hrun]
  exact hK' _ _ (k _ _ _ Q (hir.put hd _) (hr.alloc _) hK)
/-- An owned object is given up. -/
theorem W.give {l : List Oper} {p : Nat × Obj} (k : Le G (put G p.1 p.2) → W E ops.toArray false l f (put G p.1 p.2) M K) : W E ops.toArray false l f G (p :: M) K := fun a w Q hi hr hK =>
  k hr.give.2 a w Q hi hr.give.1 hK
/-- A slice literal that is only read from now on. -/
theorem W.lit {α : Type} {e : Enc α} {l : List α} {b : Bool} {sz len : Nat} {parts : List (Nat × Operand)} {css : List (List Value)} {z : List Value} (ht : sliceK E.P t = some t') (hk : tyK E.P t' = some (b, sz)) (hz : zeroK E.P t' = some z)
    (hp : (parts.map fun p => (ev f p.2).cells.toList) = css) (hi : parts.map (·.1) = List.range' 0 len) (hs : css.all (fun c => Nat.beq c.length sz) = true) (hl : Nat.ble (len * sz) 16777216 = true) (hl2 : Nat.ble len 16777216 = true) (hzl : Nat.beq z.length sz = true) (hR : AllR e G css l)
    (k : ∀ bl G', Le G G' → SlR e G' (.slice (some ⟨bl, 0, none⟩) len len) l → W E ops.toArray false rest (upd f d (.slice (some ⟨bl, 0, none⟩) len len)) G' M K) (hd : Nat.blt d E.n = true := by rfl) :
    W E ops.toArray false (⟨some d, .buildSlice t len parts.toArray, ty, pos, aft, none⟩ :: rest) f G M K := by
  refine W.bsl ht hk hz hp hi hs hl hzl (fun bl => W.give fun hle => ?_) hd
  have h1 : parts.length = len := by have := congrArg List.length hi; simpa using this
  have h2 := hR.spec.1
  have h3 : css.length = len := by rw [← hp]; simpa using h1
  have h4 : len ≤ 16777216 := by simpa using hl2
  exact k bl _ hle (SlR.of_block (put_self _ _ _) (fun i hi => by simp) (hR.mono hle) (by omega) (by omega) (by simp [maxLen]; omega) (Nat.le_trans (Nat.mul_le_mul (by omega : l.length ≤ 16777216) e.wle) (by decide)))
end
end Go.Fw
