/- The evaluator's operations on memory: rows of cells. Nothing of the program is named here. No condition. -/
import Derived.Test.YtipdjeemjiimbaaEd
import Derived.MapKept
set_option linter.unusedVariables false
set_option linter.unusedSimpArgs false
set_option linter.unnecessarySimpa false
namespace Go.Fw
open Go Go.RowKit

/-! ## Rows -/
/-- n cells of a block, from off on. -/
def rowA (h : Tr Blk) (id off n : Nat) : Option (List AV) :=
  match h.get id with
  | some (.c _ _ cs) => bif Nat.beq ((cs.drop off).take n).length n then some ((cs.drop off).take n) else none
  | _ => none
/-- These cells hold these values. -/
def CellsAt (w : World) (b off : Nat) (vs : List Value) : Prop := ∀ j v, vs[j]? = some v → w.cell? ⟨b, off + j, none⟩ = some v
section
variable {P : Program} {w0 w : World} {V : Vl} {s : St}
theorem rowA_ok {id off n b : Nat} {l : List AV} (h : rowA s.h id off n = some l) (hs : Sim w0 V s w) (hb : V.ρ id = some b) : ∃ vs, VRs V l vs ∧ vs.length = n ∧ CellsAt w b off vs := by
  unfold rowA at h
  split at h
  · rename_i t k cs hg
    obtain ⟨hl, rfl⟩ := bif_some h
    have hl := Nat.eq_of_beq_eq_true hl
    obtain ⟨b', o, h1, h2, h3, vs, rest, h4, rfl, h6, h7⟩ := hs.live id _ hg
    rw [hb] at h1; cases h1
    refine ⟨(vs.drop off).take n, (h4.drop off).take n, by rw [((h4.drop off).take n).len]; exact hl, fun j v hj => ?_⟩
    rw [List.getElem?_take] at hj
    split at hj
    · rw [List.getElem?_drop] at hj
      have : off + j < vs.length := (List.getElem?_eq_some_iff.1 hj).1
      simp [World.cell?, h3]
      rw [List.getElem?_append_left this]
      exact hj
    · cases hj
  · cases h
theorem CellsAt.load {b off : Nat} {vs : List Value} (h : CellsAt w b off vs) {t : TypeId} {bb : Bool} {k : Nat} (ht : tyK P t = some (bb, k)) (hl : vs.length = k) (hk : bb = false → k = 1) : (loadVar t ⟨b, off, none⟩).run P w = .ok (mkV bb vs) w :=
  run_loadVar_cells ht hk hl (fun j v hj => by rw [Addr.add_lit]; exact h j v hj)
def loadA (P : Program) (h : Tr Blk) (t : TypeId) (x : AV) : Option AV :=
  match x with
  | .p id off => match tyK P t with
    | some (bb, k) => match rowA h id off k with
      | some l => mkA bb l
      | none => none
    | none => none
  | _ => none
/-- What a load leans on. -/
theorem loadA_ok {t : TypeId} {x r : AV} {v : Value} (h : loadA P s.h t x = some r) (hs : Sim w0 V s w) (hv : VR V x v) :
    ∃ id b off vs z, V.ρ id = some b ∧ v = .pointer (some ⟨b, off, none⟩) ∧ CellsAt w b off vs ∧ VR V r z ∧ ∀ w', CellsAt w' b off vs → (Instr.loadAt t v).run P w' = .ok z w' := by
  unfold loadA at h
  split at h
  · rename_i id off
    split at h
    · rename_i bb k ht
      split at h
      · rename_i l hl
        simp only [VR] at hv
        obtain ⟨b, hb, rfl⟩ := hv
        obtain ⟨vs, h1, h2, h3⟩ := rowA_ok hl hs hb
        obtain ⟨h4, h5⟩ := mkA_ok h h1
        exact ⟨id, b, off, vs, mkV bb vs, hb, rfl, h3, h4, fun w' hw' => by
          have := hw'.load (P := P) ht h2 (fun e => by rw [← h2]; exact h5 e)
          simp [Instr.loadAt, Instr.sureAddr, this]⟩
      · cases h
    · cases h
  · cases h

/-! ### Cells are written -/
/-- A block with cells written anew. -/
def updA (s : St) (id off : Nat) (l : List AV) : Option St :=
  match s.h.get id with
  | some (.c t k cs) => bif AV.ones l && Nat.ble (off + l.length) cs.length then some ⟨s.h.set id (some (.c t k (setA cs off l))), s.n⟩ else none
  | _ => none
theorem setAt_append : ∀ (vs rest : List Value) (o : Nat) (ws : List Value), o + ws.length ≤ vs.length → setAt (vs ++ rest) o ws = setAt vs o ws ++ rest := by
  intro vs rest o ws h
  rw [setAt_eq _ _ _ (by simp; omega), setAt_eq _ _ _ h, List.take_append_of_le_length (by omega), List.drop_append_of_le_length (by omega)]
  simp
theorem setRow_size (w : World) (b : Nat) (c : Array Value) : (w.setRow b c).heap.size = w.heap.size := by simp [World.setRow]
theorem setRow_self' {w : World} {b : Nat} {c c' : Array Value} {t : TypeId} {fr : Nat × Nat} (h : w.heap[b]? = some (.cells c t fr)) : (w.setRow b c').heap[b]? = some (.cells c' t fr) := by
  simp [World.setRow, Array.getElem?_modify, h]
theorem setRow_ne {w : World} {b j : Nat} {c' : Array Value} (h : j ≠ b) : (w.setRow b c').heap[j]? = w.heap[j]? := by
  simp only [World.setRow, Array.getElem?_modify]
  rw [if_neg (fun e => h e.symm)]
theorem setRow_eq (w : World) (b : Nat) (c : Array Value) : w.setRow b c = { w with heap := (w.setRow b c).heap } := rfl
theorem updA_ok {id off b : Nat} {l : List AV} {ws : List Value} {s' : St} (h : updA s id off l = some s') (hs : Sim w0 V s w) (hb : V.ρ id = some b) (hl : VRs V l ws) :
    ∃ w', (storeCells ⟨b, off, none⟩ ws).run P w = .ok () w' ∧ Sim w0 V s' w' ∧ s'.n = s.n := by
  unfold updA at h
  split at h
  · rename_i t k cs hg
    obtain ⟨hc, rfl⟩ := bif_some h
    simp only [Bool.and_eq_true, Nat.ble_eq] at hc
    obtain ⟨c1, c2⟩ := hc
    obtain ⟨b', o, h1, h2, h3, vs, rest, h4, rfl, h6, h7⟩ := hs.live id _ hg
    rw [hb] at h1; cases h1
    have hle : off + ws.length ≤ vs.length := by rw [hl.len, h4.len]; exact c2
    have hst := run_storeCells_at P b off t ws 0 (vs ++ rest).toArray w h3 (by simp; omega) (hl.ones c1)
    simp only [Nat.add_zero, List.toList_toArray] at hst
    rw [← setAt_eq (vs ++ rest) off ws (by simp; omega), setAt_append _ _ _ _ hle] at hst
    refine ⟨_, hst, ?_, rfl⟩
    rw [setRow_eq]
    refine hs.put hg hb (o := .cells (setAt vs off ws ++ rest).toArray t (0, 0)) ?_ (setRow_size _ _ _) (fun j hj => setRow_ne hj) (setRow_self' h3)
    refine ⟨setAt vs off ws, rest, setA_ok h4 hl, rfl, h6, fun hk => ?_⟩
    have := h7 hk
    rw [List.length_append, setAt_length _ _ _ hle, ← List.length_append]
    exact this
  · cases h
def storeA (P : Program) (s : St) (t : TypeId) (x y : AV) : Option St :=
  match x with
  | .p id off => match tyK P t with
    | some (_, k) => match y.cells with
      | some l => bif Nat.beq l.length k then updA s id off l else none
      | none => none
    | none => none
  | _ => none
theorem storeA_ok {t : TypeId} {x y : AV} {v u : Value} {s' : St} (h : storeA P s t x y = some s') (hs : Sim w0 V s w) (hv : VR V x v) (hu : VR V y u) :
    ∃ w', (Instr.storeAt t v u).run P w = .ok () w' ∧ Sim w0 V s' w' ∧ s'.n = s.n := by
  unfold storeA at h
  split at h
  · rename_i id off
    split at h
    · rename_i bb k ht
      split at h
      · rename_i l hl
        cases hc : Nat.beq l.length k
        · simp [hc] at h
        · simp only [hc, cond_true] at h
          have hc := Nat.eq_of_beq_eq_true hc
          simp only [VR] at hv
          obtain ⟨b, hb, rfl⟩ := hv
          have hcs := hu.cells hl
          obtain ⟨w', h1, h2, h3⟩ := updA_ok (P := P) h hs hb hcs
          refine ⟨w', ?_, h2, h3⟩
          have h4 : u.cells.size = k := by have := hcs.len; simp at this; omega
          simp [Instr.storeAt, Instr.sureAddr, storeVar, tyK_size ht, h4, h1]
      · cases h
    · cases h
  · cases h

/-! ### New rows -/
/-- A new row of cells. -/
def newA (s : St) (nm : Option Nat) (t buf : Nat) (l : List AV) : Option (Nat × St) :=
  match s.fresh nm with
  | some (q, n') => some (q, ⟨s.h.set q (some (.c t buf l)), n'⟩)
  | none => none
theorem newA_ok {nm : Option Nat} {t q : Nat} {l : List AV} {s' : St} (h : newA s nm t 0 l = some (q, s')) (hs : Sim w0 V s w) (hn : ∀ p, nm = some p → V.ρ p = none) {vs : List Value} (hl : VRs V l vs) :
    ∃ V', Vx V V' s.n nm ∧ V'.ρ q = some w.heap.size ∧ Sim w0 V' s' (w.alloc (.cells vs.toArray t (0, 0))) ∧ s.n ≤ s'.n := by
  unfold newA at h
  split at h
  · rename_i q' n' hq
    simp only [Option.some.injEq, Prod.mk.injEq] at h
    obtain ⟨rfl, rfl⟩ := h
    have hqn := hs.fresh' hq hn
    refine ⟨V.add q' w.heap.size 0, Vx.add hq hqn, by simp [Vl.add], ?_, (St.fresh_spec hq).2.1⟩
    exact hs.alloc hq hn 0 ⟨vs, [], hl.mono (Vl.le_add hqn), by simp, fun _ => rfl, fun h => absurd h (Nat.lt_irrefl _)⟩
  · cases h
def allocA (P : Program) (s : St) (nm : Option Nat) (t : TypeId) : Option (AV × St) :=
  match zeroK P t with
  | some z => match newA s nm t 0 (ofVs z) with
    | some (q, s') => some (.p q 0, s')
    | none => none
  | none => none
theorem allocA_ok {nm : Option Nat} {t : TypeId} {r : AV} {s' : St} (h : allocA P s nm t = some (r, s')) (hs : Sim w0 V s w) (hn : ∀ p, nm = some p → V.ρ p = none) :
    ∃ V' z w', Vx V V' s.n nm ∧ VR V' r z ∧ (Instr.alloc t true (.tuple #[])).run P w = .ok z w' ∧ Sim w0 V' s' w' ∧ s.n ≤ s'.n := by
  unfold allocA at h
  split at h
  · rename_i z hz
    split at h
    · rename_i q s1 hq
      simp only [Option.some.injEq, Prod.mk.injEq] at h
      obtain ⟨rfl, rfl⟩ := h
      obtain ⟨V', h1, h2, h3, h4⟩ := newA_ok hq hs hn (ofVs_ok V z)
      refine ⟨V', .pointer (some ⟨w.heap.size, 0, none⟩), _, h1, by simp only [VR]; exact ⟨_, h2, rfl⟩, ?_, h3, h4⟩
      simp only [zeroK, Option.map_eq_some_iff, Option.bind_eq_some_iff] at hz
      obtain ⟨z', ⟨info, e1, e2⟩, rfl⟩ := hz
      simp [Instr.alloc, zeroValue, typeInfo, e1, e2, newVar, newRow]
    · cases h
  · cases h
def boxA (s : St) (nm : Option Nat) (t : TypeId) (x : AV) : Option (AV × St) :=
  match x.cells with
  | some l => match newA s nm t 0 l with
    | some (q, s') => some (.p q 0, s')
    | none => none
  | none => none
theorem boxA_ok {nm : Option Nat} {t : TypeId} {x r : AV} {v : Value} {s' : St} (h : boxA s nm t x = some (r, s')) (hs : Sim w0 V s w) (hn : ∀ p, nm = some p → V.ρ p = none) (hv : VR V x v) :
    ∃ V' z w', Vx V V' s.n nm ∧ VR V' r z ∧ (Instr.box t v).run P w = .ok z w' ∧ Sim w0 V' s' w' ∧ s.n ≤ s'.n := by
  unfold boxA at h
  split at h
  · rename_i l hl
    split at h
    · rename_i q s1 hq
      simp only [Option.some.injEq, Prod.mk.injEq] at h
      obtain ⟨rfl, rfl⟩ := h
      obtain ⟨V', h1, h2, h3, h4⟩ := newA_ok hq hs hn (hv.cells hl)
      refine ⟨V', .pointer (some ⟨w.heap.size, 0, none⟩), _, h1, by simp only [VR]; exact ⟨_, h2, rfl⟩, ?_, h3, h4⟩
      simp [Instr.box, newVar, newRow]
    · cases h
  · cases h
/-- The parts of a slice literal, every one of k cells. -/
def partsA (k : Nat) : Nat → List (Nat × AV) → Option (List AV)
  | _, [] => some []
  | i, (j, x) :: r => bif Nat.beq i j then (match x.cells with
    | some l => bif Nat.beq l.length k then (match partsA k (i + 1) r with
      | some m => some (l ++ m)
      | none => none) else none
    | none => none) else none
theorem partsA_ok {n : Nat} {f : Tr AV} {a : Act} (hf : FA V n f a) {k : Nat} : ∀ {ps : List (Nat × Operand)} {i : Nat} {l : List AV}, partsA k i (evPs f ps) = some l →
    ps.map (·.1) = List.range' i ps.length ∧ (∀ p ∈ ps, (a.eval p.2).cells.size = k) ∧ VRs V l (ps.map fun p => (a.eval p.2).cells.toList).flatten
  | [], i, l, h => by simp only [evPs, partsA, Option.some.injEq] at h; subst h; exact ⟨rfl, by simp, by simpa using VRs.nil⟩
  | (j, x) :: ps, i, l, h => by
    simp only [evPs, partsA] at h
    cases hij : Nat.beq i j
    · simp [hij] at h
    · simp only [hij, cond_true] at h
      have hij := Nat.eq_of_beq_eq_true hij
      subst hij
      split at h
      · rename_i m hm
        cases hl : Nat.beq m.length k
        · simp [hl] at h
        · simp only [hl, cond_true] at h
          have hl := Nat.eq_of_beq_eq_true hl
          split at h
          · rename_i r hr
            cases h
            obtain ⟨h1, h2, h3⟩ := partsA_ok hf hr
            have hc := (hf.eval x).cells hm
            refine ⟨by simp [List.range'_succ, h1], ?_, by simpa using hc.append h3⟩
            intro p hp
            rcases List.mem_cons.1 hp with rfl | hp
            · have := hc.len; simp at this; simp; omega
            · exact h2 p hp
          · cases h
      · cases h
def buildSliceA (P : Program) (s : St) (nm : Option Nat) (t : TypeId) (len : Nat) (ps : List (Nat × AV)) : Option (AV × St) :=
  match sliceK P t with
  | some e => match tyK P e with
    | some (_, k) => match zeroK P e with
      | some z => match partsA k 0 ps with
        | some l => bif Nat.beq ps.length len && Nat.ble (len * k) 65536 && Nat.beq z.length k then
            (match newA s nm e 0 l with
            | some (q, s') => some (.sl q 0 len len, s')
            | none => none) else none
        | none => none
      | none => none
    | none => none
  | none => none
theorem evPs_len (f : Tr AV) : ∀ l : List (Nat × Operand), (evPs f l).length = l.length
  | [] => rfl
  | _ :: l => by simp [evPs, evPs_len f l]
theorem buildSliceA_ok {nm : Option Nat} {t : TypeId} {len n : Nat} {f : Tr AV} {a : Act} (hf : FA V n f a) {ps : Array (Nat × Operand)} {r : AV} {s' : St} (h : buildSliceA P s nm t len (evPs f ps.toList) = some (r, s')) (hs : Sim w0 V s w) (hn : ∀ p, nm = some p → V.ρ p = none) :
    ∃ V' z w', Vx V V' s.n nm ∧ VR V' r z ∧ (Instr.buildSlice t len (ps.map fun (i, x) => (i, a.eval x))).run P w = .ok z w' ∧ Sim w0 V' s' w' ∧ s.n ≤ s'.n := by
  unfold buildSliceA at h
  split at h
  · rename_i e he
    split at h
    · rename_i bb k hk
      split at h
      · rename_i z hz
        split at h
        · rename_i l hl
          cases hc : Nat.beq (evPs f ps.toList).length len && Nat.ble (len * k) 65536 && Nat.beq z.length k
          · simp [hc] at h
          · simp only [hc, cond_true] at h
            simp only [Bool.and_eq_true, Nat.ble_eq] at hc
            obtain ⟨⟨c1, c2⟩, c3⟩ := hc
            have c1 := Nat.eq_of_beq_eq_true c1
            have c3 := Nat.eq_of_beq_eq_true c3
            rw [evPs_len] at c1
            split at h
            · rename_i q s1 hq
              simp only [Option.some.injEq, Prod.mk.injEq] at h
              obtain ⟨rfl, rfl⟩ := h
              obtain ⟨h1, h2, h3⟩ := partsA_ok hf hl
              obtain ⟨V', k1, k2, k3, k4⟩ := newA_ok hq hs hn h3
              refine ⟨V', .slice (some ⟨w.heap.size, 0, none⟩) len len, _, k1, by simp only [VR]; exact ⟨_, k2, rfl⟩, ?_, k3, k4⟩
              simp only [zeroK, Option.map_eq_some_iff, Option.bind_eq_some_iff] at hz
              obtain ⟨zv, ⟨info, e1, e2⟩, rfl⟩ := hz
              have hzs : zv.cells.size = k := by simpa using c3
              have hzv : (zeroValue e).run P w = .ok zv w := by simp [zeroValue, typeInfo, e1, e2]
              have hfill : ∀ z' : Array Value, Instr.fill (fun i => some (i * k, k)) ((Array.range (len * k)).map (z'[· % z'.size]!)) (ps.toList.map fun p => (p.1, a.eval p.2)) = some (ps.toList.map fun p => (a.eval p.2).cells.toList).flatten.toArray := fun z' => by
                have h5 := fill_slice k (ps.toList.map fun p => (p.1, a.eval p.2)) 0 [] ((Array.range (len * k)).map (z'[· % z'.size]!)).toList (by simp) (by have := c1; simp at this; simp [this]) (by simpa [List.map_map, Function.comp_def] using h1)
                  (fun p hp => by obtain ⟨q, hq, rfl⟩ := List.mem_map.1 hp; exact h2 q hq)
                simp only [List.nil_append, Array.toArray_toList, List.map_map, Function.comp_def] at h5
                exact h5
              have hps : (ps.map fun (x : Nat × Operand) => (x.1, a.eval x.2)).toList = ps.toList.map fun p => (p.1, a.eval p.2) := by simp
              have hc2 : ¬ len * k > 2 ^ 24 := by omega
              simp only [Instr.buildSlice, Sem.run_bind, run_underlying (sliceK_und he), Result.andThen_ok, tyK_size hk]
              rw [if_neg hc2]
              by_cases h0 : len * k = 0
              · have h4 := hfill #[]
                simp only [Sem.run_bind, Sem.run_pure, Result.andThen_ok, if_pos h0, hps, h4]
                simp [newRow]
              · have h4 := hfill zv.cells
                simp only [Sem.run_bind, Sem.run_pure, Result.andThen_ok, if_neg h0, hzv, hps, h4]
                simp [newRow]
            · cases h
        · cases h
      · cases h
    · cases h
  · cases h
end
end Go.Fw
