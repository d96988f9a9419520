/- How data lie in the heap: a value of k cells, a slice of such values that is only read, a slice that the call owns. Nothing of the program is named here. No condition. -/
import Derived.Test.YtipdjeemjiimbaaFr
set_option linter.unusedVariables false
set_option linter.unusedSimpArgs false
set_option linter.unnecessarySimpa false
namespace Go.Fw
open Go Go.RowKit

/-- How a thing of type α is laid in k cells. -/
structure Enc (α : Type) where
  k : Nat
  R : GH → List Value → α → Prop
  mono : ∀ {G G' cs a}, Le G G' → R G cs a → R G' cs a
  len : ∀ {G cs a}, R G cs a → cs.length = k
  one : ∀ {G cs a}, R G cs a → ∀ u ∈ cs, u.oneCell' = true
  /-- its bytes -/
  w : Nat
  wpos : 0 < w := by decide
  wle : w ≤ 1024 := by decide

/-- Cells in the part that is only read. -/
def CellsG (G : GH) (b o : Nat) (cs : List Value) : Prop := ∃ c T fr, G b = some (.cells c T fr) ∧ ∀ j, j < cs.length → c[o + j]? = cs[j]?
theorem CellsG.mono {G G' : GH} {b o cs} (hl : Le G G') (h : CellsG G b o cs) : CellsG G' b o cs := by
  obtain ⟨c, T, fr, h1, h2⟩ := h
  exact ⟨c, T, fr, hl _ _ h1, h2⟩
theorem CellsG.cell {E : Env} {G : GH} {M : MH} {w : World} {b o : Nat} {cs : List Value} (h : CellsG G b o cs) (hr : E.real G M w) {j : Nat} {v : Value} (hj : cs[j]? = some v) : w.cell? ⟨b, o + j, none⟩ = some v := by
  obtain ⟨c, T, fr, h1, h2⟩ := h
  have := hr.r.ro b _ h1
  have hl : j < cs.length := by rw [List.getElem?_eq_some_iff] at hj; exact hj.1
  simp [World.cell?, this, h2 j hl, hj]

/-- The n-th element of the slice v, of k cells, holds cs. -/
def ElemAt (G : GH) (v : Value) (k n : Nat) (cs : List Value) : Prop := ∃ b o len cap, v = .slice (some ⟨b, o, none⟩) len cap ∧ CellsG G b (o + n * k) cs
theorem ElemAt.mono {G G' : GH} {v k n cs} (hl : Le G G') (h : ElemAt G v k n cs) : ElemAt G' v k n cs := by
  obtain ⟨b, o, len, cap, h1, h2⟩ := h
  exact ⟨b, o, len, cap, h1, h2.mono hl⟩
/-- The address of the n-th element, o cells on. -/
def elemA (v : Value) (k n o : Nat) : Addr :=
  match v with
  | .slice (some a) _ _ => ⟨a.block, a.off + n * k + o, none⟩
  | _ => ⟨0, 0, none⟩

/-- A slice that is only read. -/
def SlR {α : Type} (e : Enc α) (G : GH) (v : Value) (l : List α) : Prop :=
  ∃ (a : Option Addr) (cap : Nat), v = .slice a l.length cap ∧ l.length ≤ cap ∧ (cap ≤ maxLen ∧ l.length * e.w ≤ 140737488355328) ∧ (a = none → cap = 0) ∧
    ∀ i (h : i < l.length), ∃ cs, ElemAt G v e.k i cs ∧ e.R G cs l[i]

section
variable {α : Type} {e : Enc α} {G G' : GH} {v : Value} {l : List α}
theorem SlR.mono (hl : Le G G') (h : SlR e G v l) : SlR e G' v l := by
  obtain ⟨a, cap, h1, h2, h3, h4, h6⟩ := h
  exact ⟨a, cap, h1, h2, h3, h4, fun i hi => let ⟨cs, x, y⟩ := h6 i hi; ⟨cs, x.mono hl, e.mono hl y⟩⟩
theorem SlR.at (h : SlR e G v l) {i : Nat} (hi : i < l.length) : ∃ cs, ElemAt G v e.k i cs ∧ e.R G cs l[i] := by
  obtain ⟨a, cap, h1, h2, h3, h4, h6⟩ := h
  exact h6 i hi
theorem SlR.le (h : SlR e G v l) : l.length ≤ maxLen := by
  obtain ⟨a, cap, h1, h2, h3, h4, h5⟩ := h; omega
theorem SlR.bytes (h : SlR e G v l) : l.length * e.w ≤ 140737488355328 := by
  obtain ⟨a, cap, h1, h2, h3, h4, h5⟩ := h; exact h3.2
theorem SlR.len47 (h : SlR e G v l) : l.length ≤ 140737488355328 := Nat.le_trans (Nat.le_mul_of_pos_right _ e.wpos) h.bytes
theorem SlR.one (h : SlR e G v l) : v.oneCell' = true := by
  obtain ⟨a, cap, rfl, h2, h3, h4, h5⟩ := h; rfl
theorem SlR.nil : SlR e G (.slice none 0 0) [] := ⟨none, 0, rfl, Nat.le_refl _, ⟨Nat.zero_le _, by simp⟩, fun _ => rfl, (fun i hi => absurd hi (Nat.not_lt_zero i))⟩
theorem SlR.nil_of (h : SlR e G (.slice none 0 0) l) : l = [] := by
  obtain ⟨a, cap, h1, h2⟩ := h
  simp only [Value.slice.injEq] at h1
  exact List.eq_nil_of_length_eq_zero h1.2.1.symm
end

/-! ### Facts on types -/
/-- Is it a struct or an array; how many cells. -/
def tyK (P : Program) (t : TypeId) : Option (Bool × Nat) :=
  match P.underlying t, P.info? t with
  | some (.struct _), some i | some (.array _ _), some i => some (true, i.size)
  | some _, some i => some (false, i.size)
  | _, _ => none
def sliceK (P : Program) (t : TypeId) : Option TypeId := match P.underlying t with | some (.slice e) => some e | _ => none
def fieldK (P : Program) (s j : Nat) : Option Nat :=
  match P.underlying s with
  | some (.struct fs) => (fs[j]?).bind fun f => if P.cellsOf f.type = 0 ∨ (P.info? f.type).isNone then none else some f.offset
  | _ => none
def zeroK (P : Program) (t : TypeId) : Option (List Value) := ((P.info? t).bind (·.zero)).map (·.cells.toList)
def bytesK (P : Program) (t : TypeId) : Option Nat := (P.info? t).map (·.bytes)
def strK (P : Program) (t : TypeId) : Bool := match P.underlying t with | some .string => true | _ => false

theorem tyK_agg {P : Program} {t : TypeId} {b : Bool} {k : Nat} (h : tyK P t = some (b, k)) (w : World) : (isAgg t).run P w = .ok b w := by
  unfold tyK at h
  cases h1 : P.underlying t with
  | none => simp [h1] at h
  | some d =>
    cases h2 : P.info? t with
    | none => cases d <;> simp [h1, h2] at h
    | some i => cases d <;> simp [h1, h2] at h <;> obtain ⟨rfl, rfl⟩ := h <;> simp [isAgg, run_underlying h1]
theorem tyK_size {P : Program} {t : TypeId} {b : Bool} {k : Nat} (h : tyK P t = some (b, k)) (w : World) : (sizeOf t).run P w = .ok k w := by
  unfold tyK at h
  cases h2 : P.info? t with
  | none => cases h1 : P.underlying t with
    | none => simp [h1] at h
    | some d => cases d <;> simp [h1, h2] at h
  | some i =>
    have : i.size = k := by
      cases h1 : P.underlying t with
      | none => simp [h1] at h
      | some d => cases d <;> simp [h1, h2] at h <;> exact h.2
    simp [sizeOf, typeInfo, h2, this]
theorem sliceK_und {P : Program} {t e : TypeId} (h : sliceK P t = some e) : P.underlying t = some (.slice e) := by
  unfold sliceK at h
  cases h1 : P.underlying t with
  | none => simp [h1] at h
  | some d => cases d <;> simp [h1] at h; rw [h]

/-- A value of these cells. -/
def mkV : Bool → List Value → Value
  | true, cs => .agg cs.toArray
  | false, c :: _ => c
  | false, [] => undef

theorem run_loadVar_cells {P : Program} {t : TypeId} {b : Bool} {k : Nat} (h : tyK P t = some (b, k)) (hk : b = false → k = 1) {w : World} {a : Addr} {cs : List Value} (hl : cs.length = k)
    (hc : ∀ j v, cs[j]? = some v → w.cell? (a.add j) = some v) : (loadVar t a).run P w = .ok (mkV b cs) w := by
  subst hl
  cases b
  · have h1 := hk rfl
    match cs, h1 with
    | [c], _ =>
      have := hc 0 c rfl
      simp [loadVar, tyK_agg h, mkV, load, Sem.run, Addr.add] at this ⊢
      simp [this]
  · have := run_loadCells_list (P := P) w a cs hc
    simp [loadVar, tyK_agg h, tyK_size h, mkV, this]
end Go.Fw
