/- The evaluator's operations on memory: copy, clear, make, maps. Nothing of the program is named here. No condition. -/
import Derived.Test.YtipdjeemjiimbaaEf
import Derived.Lib.AppendZerosOnto
set_option linter.unusedVariables false
set_option linter.unusedSimpArgs false
set_option linter.unnecessarySimpa false
namespace Go.Fw
open Go Go.RowKit

section
variable {P : Program} {w0 w : World} {V : Vl} {s : St}

/-! ### Zero values, many times -/
def repA : Nat → List AV → List AV
  | 0, _ => []
  | n + 1, l => l ++ repA n l
theorem repA_ok {l : List AV} {vs : List Value} (h : VRs V l vs) : ∀ n, VRs V (repA n l) (List.replicate n vs).flatten
  | 0 => by simpa [repA] using VRs.nil
  | n + 1 => by simpa [repA, List.replicate_succ] using h.append (repA_ok h n)
theorem made_eq (z : Array Value) (n : Nat) : (madeCells z (n * z.size)).toList = (List.replicate n z.toList).flatten := by
  apply List.ext_getElem?
  intro j
  simp only [madeCells, Array.toList_map, Array.toList_range, List.getElem?_map]
  by_cases hj : j < n * z.size
  · have hz : 0 < z.size := by
      rcases Nat.eq_zero_or_pos z.size with h | h
      · simp [h] at hj
      · exact h
    have hd : j / z.size < n := (Nat.div_lt_iff_lt_mul hz).2 hj
    have hm : j % z.size < z.size := Nat.mod_lt _ hz
    have h1 := flatten_get (k := z.size) (css := List.replicate n z.toList) (i := j / z.size) (cs := z.toList) (fun c hc => by rw [List.eq_of_mem_replicate hc]; simp) (by simp [hd]) (j % z.size) (by simpa using hm)
    rw [show j / z.size * z.size + j % z.size = j from by rw [Nat.mul_comm]; exact Nat.div_add_mod j z.size] at h1
    rw [h1]
    simp [hj, hm, getElem!_pos]
  · have h2 : (List.replicate n z.toList).flatten.length = n * z.size := by simp
    rw [List.getElem?_eq_none (by simpa using hj), List.getElem?_eq_none (by rw [h2]; omega)]
    rfl
def makeSliceA (P : Program) (s : St) (nm : Option Nat) (t : TypeId) (x y : AV) : Option (AV × St) :=
  match sliceK P t with
  | some e => match tyK P e with
    | some (_, k) => match zeroK P e with
      | some z => match bytesK P e with
        | some by' => match natOf x with
          | some n => match natOf y with
            | some m => bif Nat.ble n m && Nat.ble (m * by') 16777216 && Nat.ble (m * k) 16777216 && Nat.ble m 16777216 && Nat.beq z.length k then (match newA s nm e 0 (repA m (ofVs z)) with
              | some (q, s') => some (.sl q 0 n m, s')
              | none => none) else none
            | none => none
          | none => none
        | none => none
      | none => none
    | none => none
  | none => none
theorem makeSliceA_ok {nm : Option Nat} {t : TypeId} {x y r : AV} {v u : Value} {s' : St} (h : makeSliceA P s nm t x y = some (r, s')) (hs : Sim w0 V s w) (hn : ∀ p, nm = some p → V.ρ p = none) (hv : VR V x v) (hu : VR V y u) :
    ∃ V' z w', Vx V V' s.n nm ∧ VR V' r z ∧ (Instr.makeSlice t v u).run P w = .ok z w' ∧ Sim w0 V' s' w' ∧ s.n ≤ s'.n := by
  unfold makeSliceA at h
  split at h
  · rename_i e he
    have hund := sliceK_und he
    split at h
    · rename_i bb k hk
      split at h
      · rename_i z hz
        split at h
        · rename_i by' hby
          split at h
          · rename_i n hn1
            split at h
            · rename_i m hm1
              obtain ⟨info, zv, hi1, hi2, hi3, hi4, hi5⟩ := elem_info hk hz hby
              obtain ⟨k1, rfl⟩ := natOf_ok hn1 hv
              obtain ⟨k2, rfl⟩ := natOf_ok hm1 hu
              cases hc : Nat.ble n m && Nat.ble (m * by') 16777216 && Nat.ble (m * k) 16777216 && Nat.ble m 16777216 && Nat.beq z.length k
              case false => simp [hc] at h
              simp only [hc, cond_true] at h
              simp only [Bool.and_eq_true, Nat.ble_eq] at hc
              obtain ⟨⟨⟨⟨c1, c2⟩, c3⟩, c4⟩, c5⟩ := hc
              have c5 := Nat.eq_of_beq_eq_true c5
              split at h
              · rename_i q s1 hq
                simp only [Option.some.injEq, Prod.mk.injEq] at h
                obtain ⟨rfl, rfl⟩ := h
                obtain ⟨V', e1, e2, e3, e4⟩ := newA_ok hq hs hn (repA_ok (ofVs_ok V z) m)
                subst hi3
                have hrun := run_makeSlice (P := P) w t e info zv hund hi1 hi2 k1 k2 (n : Int) (m : Int) (by omega) (by omega) (by simpa using c3) (by
                  rw [hi4]
                  have : (by' : Int) * (m : Int) = ((m * by' : Nat) : Int) := by rw [Nat.mul_comm]; simp
                  rw [this]; omega) (by omega)
                have hzs : zv.cells.size = info.size := by rw [← hi5] at c5; simpa using c5
                have hmade : madeCells zv.cells ((m : Int).toNat * info.size) = (List.replicate m z).flatten.toArray := by
                  apply Array.toList_inj.1
                  rw [← hzs, Int.toNat_natCast, made_eq, hi5]
                rw [hmade] at hrun
                refine ⟨V', _, _, e1, by simp only [VR]; exact ⟨_, e2, rfl⟩, by simpa using hrun, e3, e4⟩
              · cases h
            · cases h
          · cases h
        · cases h
      · cases h
    · cases h
  · cases h

/-! ### append of so many zero values -/
def isInt : Option TypeDesc → Bool
  | some (.int _) => true
  | _ => false
def appZA (P : Program) (s : St) (nm : Option Nat) (t tn : TypeId) (x y : AV) : Option (AV × St) :=
  match sliceK P t with
  | some e => match tyK P e with
    | some (_, k) => match zeroK P e with
      | some z => match bytesK P e with
        | some by' => match natOf y with
          | some n => bif Nat.beq k 0 || !Nat.beq z.length k || Nat.beq n 0 || !isInt (P.underlying tn) then none else (match x with
            | .sn => growA s nm e k by' 0 n (repA n (ofVs z))
            | .sl id off len cap => bif Nat.ble (len + n) cap then none else (bif Nat.beq len 0 then growA s nm e k by' 0 n (repA n (ofVs z)) else (match rowA s.h id off (len * k) with
                | some olds => growA s nm e k by' len n (olds ++ repA n (ofVs z))
                | none => none))
            | _ => none)
          | none => none
        | none => none
      | none => none
    | none => none
  | none => none
theorem zeroCells_eq (z : Array Value) (n : Nat) : (Builtin.zeroCells z n).toList = (List.replicate n z.toList).flatten := made_eq z n
/-- What the arm that grows by zero values makes. -/
theorem growZ_ok {nm : Option Nat} {t tn ty e : TypeId} {info : TypeInfo} {z : Value} {kn kq : IntKind} (ht : P.underlying t = some (.slice e)) (htn : P.underlying tn = some (.int kn)) (hi : P.info? e = some info) (hz : info.zero = some z) (hzs : z.cells.size = info.size) {len cap n : Nat} {bo : Option Addr}
    {olds : List Value} {l : List AV} {r : AV} {s' : St} (h : growA s nm e info.size info.bytes len n l = some (r, s')) (hs : Sim w0 V s w) (hn : ∀ p, nm = some p → V.ρ p = none) (hk : 0 < info.size) (hn0 : 0 < n)
    (hold : (Builtin.firstCells info.size len (.slice bo len cap)).run P w.drew = .ok olds.toArray w.drew) (hg : cap < len + n)
    (hl : VRs V l (olds ++ (List.replicate n z.cells.toList).flatten)) (hlen : olds.length = len * info.size) :
    ∃ V' z' w', Vx V V' s.n nm ∧ VR V' r z' ∧ (Builtin.append_ #[t, tn] ty #[.slice bo len cap, .int kq n]).run P w = .ok z' w' ∧ Sim w0 V' s' w' ∧ s.n ≤ s'.n := by
  unfold growA at h
  cases hc : Nat.ble ((len + n) * info.bytes) 140737488355328 && Nat.ble (len + n) 1000000
  · simp [hc] at h
  · simp only [hc, cond_true] at h
    simp only [Bool.and_eq_true, Nat.ble_eq] at hc
    split at h
    · rename_i q s1 hq
      simp only [Option.some.injEq, Prod.mk.injEq] at h
      obtain ⟨rfl, rfl⟩ := h
      unfold newA at hq
      split at hq
      · rename_i q' n' hq'
        simp only [Option.some.injEq, Prod.mk.injEq] at hq
        obtain ⟨rfl, rfl⟩ := hq
        have hge := grownCap_ge w (len + n) cap e
        have hcm := grownCap_le_maxLen w (len + n) cap e (by simp only [maxLen]; omega)
        have hnb : n * info.bytes ≤ (len + n) * info.bytes := Nat.mul_le_mul_right _ (by omega)
        have hrun := Lib.run_append_grow_zeros (P := P) w t tn ty e info z kq kn ht htn hi hz bo len cap olds hold n hn0 hk hg (by omega) (by omega) (growslice_fits hg hc.1)
        have hd : Sim w0 V s w.drew := hs.drew
        have hqn := hs.fresh' hq' hn
        have hobj : (olds.toArray ++ Builtin.zeroCells z.cells n ++ Builtin.zeroCells z.cells (grownCap w (len + n) cap e - (len + n))) = (olds ++ (List.replicate n z.cells.toList).flatten ++ (Builtin.zeroCells z.cells (grownCap w (len + n) cap e - (len + n))).toList).toArray := by
          apply Array.toList_inj.1
          simp only [Array.toList_append, zeroCells_eq, List.toList_toArray]
        rw [hobj] at hrun
        have hlz : (olds ++ (List.replicate n z.cells.toList).flatten).length = (len + n) * info.size := by
          rw [List.length_append, hlen, ← hzs]; simp [Nat.add_mul]
        refine ⟨V.add q' w.heap.size (grownCap w (len + n) cap e), _, _, Vx.add hq' hqn, ?_, hrun, hd.alloc hq' hn _ ?_, (St.fresh_spec hq').2.1⟩
        · simp only [VR]
          exact ⟨w.heap.size, by simp [Vl.add], by simp [Vl.add]; omega, by simp [Vl.add]⟩
        · refine ⟨olds ++ (List.replicate n z.cells.toList).flatten, _, hl.mono (Vl.le_add hqn), rfl, fun h => by omega, fun _ => ⟨?_, ?_⟩⟩
          · simp only [Vl.add, if_true]
            rw [List.length_append, hlz, Array.length_toList, size_zeroCells, hzs, ← Nat.add_mul]
            congr 1; omega
          · simp only [Vl.add, if_true]; exact hcm
      · cases hq
    · cases h
theorem appZA_ok {nm : Option Nat} {t tn ty : TypeId} {x y r : AV} {v u : Value} {s' : St} (h : appZA P s nm t tn x y = some (r, s')) (hs : Sim w0 V s w) (hn : ∀ p, nm = some p → V.ρ p = none) (hv : VR V x v) (hu : VR V y u) :
    ∃ V' z w', Vx V V' s.n nm ∧ VR V' r z ∧ (Builtin.append_ #[t, tn] ty #[v, u]).run P w = .ok z w' ∧ Sim w0 V' s' w' ∧ s.n ≤ s'.n := by
  unfold appZA at h
  split at h
  · rename_i e he
    have hund := sliceK_und he
    split at h
    · rename_i bb k hk
      split at h
      · rename_i z hz
        split at h
        · rename_i by' hby
          split at h
          · rename_i n hn1
            obtain ⟨info, zv, hi1, hi2, hi3, hi4, hi5⟩ := elem_info hk hz hby
            obtain ⟨kq, rfl⟩ := natOf_ok hn1 hu
            cases hc : Nat.beq k 0 || !Nat.beq z.length k || Nat.beq n 0 || !isInt (P.underlying tn)
            case true => simp [hc] at h
            simp only [hc, cond_false] at h
            simp only [Bool.or_eq_false_iff, Bool.not_eq_false'] at hc
            obtain ⟨⟨⟨c1, c2⟩, c3⟩, c4⟩ := hc
            have hk0 : 0 < k := by rw [nbeq] at c1; have := of_decide_eq_false c1; omega
            have hn0 : 0 < n := by rw [nbeq] at c3; have := of_decide_eq_false c3; omega
            have hzs : zv.cells.size = info.size := by have := Nat.eq_of_beq_eq_true c2; rw [← hi5] at this; simp at this; omega
            obtain ⟨kn, htn⟩ : ∃ kn, P.underlying tn = some (.int kn) := by
              unfold isInt at c4
              split at c4
              · rename_i kn hk; exact ⟨kn, hk⟩
              · cases c4
            have hrep := repA_ok (ofVs_ok V z) n
            rw [← hi5] at hrep
            subst hi3
            subst hi4
            subst hi5
            split at h
            · simp only [VR] at hv; subst hv
              exact growZ_ok hund htn hi1 hi2 hzs h hs hn hk0 hn0 (olds := []) (by simp [Builtin.firstCells]) (by omega) (by simpa using hrep) (by simp)
            · rename_i id off len cap
              simp only [VR] at hv
              obtain ⟨b, hb, rfl⟩ := hv
              cases hroom : Nat.ble (len + n) cap
              case true => simp [hroom] at h
              simp only [hroom, cond_false] at h
              have hroom : cap < len + n := by
                rcases Nat.lt_or_ge cap (len + n) with h9 | h9
                · exact h9
                · have : Nat.ble (len + n) cap = true := by simpa using h9
                  rw [this] at hroom; cases hroom
              cases h1 : Nat.beq len 0
              · simp only [h1, cond_false] at h
                split at h
                · rename_i olds hol
                  obtain ⟨vs, k1, k2, k3⟩ := rowA_ok hol hs hb
                  exact growZ_ok hund htn hi1 hi2 hzs h hs hn hk0 hn0 (olds := vs) (cells_first k2 (k3.same rfl)) hroom (k1.append hrep) k2
                · cases h
              · simp only [h1, cond_true] at h
                have h1 := Nat.eq_of_beq_eq_true h1
                subst h1
                exact growZ_ok hund htn hi1 hi2 hzs h hs hn hk0 hn0 (olds := []) (cells_first (by simp) CellsAt.nil) hroom (by simpa using hrep) (by simp)
            · cases h
          · cases h
        · cases h
      · cases h
    · cases h
  · cases h

/-! ### copy and clear -/
/-- Where a slice's cells begin: the block, the offset; none for a slice without elements. -/
def headA : AV → Option (Option (Nat × Nat) × Nat)
  | .sn => some (none, 0)
  | .sz => some (none, 0)
  | .sl id off len _ => some (some (id, off), len)
  | .so id _ off len => some (some (id, off), len)
  | _ => none
def putA (s : St) (hd : Option (Nat × Nat)) (l : List AV) : Option St :=
  match l with
  | [] => some s
  | l => match hd with
    | some (id, off) => updA s id off l
    | none => none
theorem headA_ok {x : AV} {hd : Option (Nat × Nat)} {n : Nat} {v : Value} (h : headA x = some (hd, n)) (hv : VR V x v) : ∃ ao c, v = .slice ao n c ∧ (n ≠ 0 → hd ≠ none) ∧ ∀ id off, hd = some (id, off) → ∃ b, V.ρ id = some b ∧ ao = some ⟨b, off, none⟩ := by
  unfold headA at h
  split at h <;> simp only [Option.some.injEq, Prod.mk.injEq, reduceCtorEq] at h <;> obtain ⟨rfl, rfl⟩ := h <;> simp only [VR] at hv
  · subst hv; exact ⟨none, 0, rfl, fun h => absurd rfl h, fun _ _ h => by cases h⟩
  · obtain ⟨a, c, rfl⟩ := hv; exact ⟨some a, c, rfl, fun h => absurd rfl h, fun _ _ h => by cases h⟩
  · obtain ⟨b, hb, rfl⟩ := hv; exact ⟨_, _, rfl, fun _ => by simp, fun _ _ h => by cases h; exact ⟨b, hb, rfl⟩⟩
  · obtain ⟨b, hb, _, rfl⟩ := hv; exact ⟨_, _, rfl, fun _ => by simp, fun _ _ h => by cases h; exact ⟨b, hb, rfl⟩⟩
/-- The storing of cells at a slice's head. -/
theorem putA_ok {hd : Option (Nat × Nat)} {l : List AV} {ws : List Value} {s' : St} {ao : Option Addr} (h : putA s hd l = some s') (hs : Sim w0 V s w) (hl : VRs V l ws)
    (hh : ∀ id off, hd = some (id, off) → ∃ b, V.ρ id = some b ∧ ao = some ⟨b, off, none⟩) : ∃ w', (match ao with | some a => (storeCells a ws) | none => pure () : Sem Unit).run P w = .ok () w' ∧ Sim w0 V s' w' ∧ s'.n = s.n := by
  unfold putA at h
  split at h
  · cases h
    simp only [VRs] at hl
    subst hl
    exact ⟨w, by cases ao <;> simp [storeCells], hs, rfl⟩
  · split at h
    · rename_i id off
      obtain ⟨b, hb, rfl⟩ := hh id off rfl
      obtain ⟨w', h1, h2, h3⟩ := updA_ok (P := P) h hs hb hl
      exact ⟨w', h1, h2, h3⟩
    · cases h
def copyA (P : Program) (s : St) (t : TypeId) (x y : AV) : Option (AV × St) :=
  match sliceK P t with
  | some e => match tyK P e with
    | some (_, k) => match headA x with
      | some (hd, n) => match srcA s.h k y with
        | some (m, l) => match putA s hd (l.take (Nat.min m n * k)) with
          | some s' => some (.i .i64 (.ofNat (Nat.min m n)), s')
          | none => none
        | none => none
      | none => none
    | none => none
  | none => none
theorem copyA_ok {t t' ty : TypeId} {x y r : AV} {v u : Value} {s' : St} (h : copyA P s t x y = some (r, s')) (hs : Sim w0 V s w) (hv : VR V x v) (hu : VR V y u) :
    ∃ z w', VR V r z ∧ (Builtin.copy_ #[t, t'] ty #[v, u]).run P w = .ok z w' ∧ Sim w0 V s' w' ∧ s'.n = s.n := by
  unfold copyA at h
  split at h
  · rename_i e he
    have hund := sliceK_und he
    split at h
    · rename_i bb k hk
      split at h
      · rename_i hd n hhd
        split at h
        · rename_i m l hsrc
          split at h
          · rename_i s1 hput
            simp only [Option.some.injEq, Prod.mk.injEq] at h
            obtain ⟨rfl, rfl⟩ := h
            obtain ⟨ao, c, rfl, h1, h2⟩ := headA_ok hhd hv
            obtain ⟨ao', c', ws, rfl, h3, h4, h5⟩ := srcA_ok (P := P) hsrc hs hu
            obtain ⟨w', h6, h7, h8⟩ := putA_ok (P := P) hput hs (h3.take _) h2
            have hf := h5 w (Nat.min m n) rfl (Nat.min_le_left _ _)
            refine ⟨.int .i64 (Int.ofNat (Nat.min m n)), w', by simp only [VR], ?_, h7, h8⟩
            cases ao with
            | none =>
              simp only [Sem.run_pure, Result.ok.injEq] at h6
              obtain ⟨_, rfl⟩ := h6
              simp [Builtin.copy_, run_underlying hund, tyK_size hk, Builtin.lenOf, hf, goInt]
            | some a =>
              simp only at h6
              simp [Builtin.copy_, run_underlying hund, tyK_size hk, Builtin.lenOf, hf, h6, goInt]
          · cases h
        · cases h
      · cases h
    · cases h
  · cases h
theorem zero_eq (z : Array Value) (n : Nat) : Builtin.zeroCells z n = madeCells z (n * z.size) := rfl
def clearA (P : Program) (s : St) (t : TypeId) (x : AV) : Option (AV × St) :=
  match sliceK P t with
  | some e => match zeroK P e with
    | some z => match headA x with
      | some (hd, n) => match putA s hd (repA n (ofVs z)) with
        | some s' => some (.tup [], s')
        | none => none
      | none => none
    | none => none
  | none => none
theorem clearA_ok {t ty : TypeId} {x r : AV} {v : Value} {s' : St} (h : clearA P s t x = some (r, s')) (hs : Sim w0 V s w) (hv : VR V x v) :
    ∃ z w', VR V r z ∧ (Builtin.clear_ #[t] ty #[v]).run P w = .ok z w' ∧ Sim w0 V s' w' ∧ s'.n = s.n := by
  unfold clearA at h
  split at h
  · rename_i e he
    have hund := sliceK_und he
    split at h
    · rename_i z hz
      split at h
      · rename_i hd n hhd
        split at h
        · rename_i s1 hput
          simp only [Option.some.injEq, Prod.mk.injEq] at h
          obtain ⟨rfl, rfl⟩ := h
          obtain ⟨ao, c, rfl, h1, h2⟩ := headA_ok hhd hv
          simp only [zeroK, Option.map_eq_some_iff, Option.bind_eq_some_iff] at hz
          obtain ⟨zv, ⟨info, e1, e2⟩, rfl⟩ := hz
          obtain ⟨w', h6, h7, h8⟩ := putA_ok (P := P) hput hs (repA_ok (ofVs_ok V _) n) h2
          refine ⟨.tuple #[], w', by simp only [VR]; exact ⟨[], VRs.nil, rfl⟩, ?_, h7, h8⟩
          cases ao with
          | none =>
            simp only [Sem.run_pure, Result.ok.injEq] at h6
            obtain ⟨_, rfl⟩ := h6
            simp [Builtin.clear_, run_underlying hund]
          | some a =>
            simp only at h6
            have hzc : (Builtin.zeroCells zv.cells n).toList = (List.replicate n zv.cells.toList).flatten := by rw [zero_eq, made_eq]
            cases n with
            | zero =>
              simp only [List.replicate_zero, List.flatten_nil, storeCells, Sem.run_pure, Result.ok.injEq] at h6
              obtain ⟨_, rfl⟩ := h6
              simp [Builtin.clear_, run_underlying hund]
            | succ n => simp [Builtin.clear_, run_underlying hund, zeroValue, typeInfo, e1, e2, hzc, h6]
        · cases h
      · cases h
    · cases h
  · cases h

/-! ### Maps -/
def keyEq : TypeDesc → AV → AV → Option Bool
  | .int _, .i k a, .i k' b => if k = k' then some (iEq a b) else none
  | .string, .s a, .s b => some (sEq a b)
  | _, _, _ => none
def findA (d : TypeDesc) (k : AV) : List (AV × AV × Nat) → Nat → Option (Option (Nat × AV))
  | [], _ => some none
  | (k', x, _) :: es, i => match keyEq d k k' with
    | some true => some (some (i, x))
    | some false => findA d k es (i + 1)
    | none => none
theorem ERs.len : ∀ {l : List (AV × AV × Nat)} {es : List MapEntry}, ERs V l es → es.length = l.length
  | [], _, h => by simp only [ERs] at h; subst h; rfl
  | (_, _, _) :: l, _, h => by simp only [ERs] at h; obtain ⟨_, _, t, _, _, h3, rfl⟩ := h; simp [h3.len]
theorem baEq (a b : List UInt8) : ((ByteArray.mk a.toArray) == ⟨b.toArray⟩) = decide (a = b) := by
  show (a.toArray == b.toArray) = _
  rw [Bool.eq_iff_iff]; simp
theorem keyEq_ok {d : TypeDesc} {k k' : AV} {b : Bool} {v v' : Value} (h : keyEq d k k' = some b) (hv : VR V k v) (hv' : VR V k' v') : Instr.sameNow d v v' = some b ∧ (b = true → Instr.sameBits 10000 v' v = true) := by
  unfold keyEq at h
  split at h
  · split at h
    · rename_i hk
      cases h
      simp only [VR] at hv hv'
      subst hv; subst hv'; subst hk
      rw [iEq_eq]
      refine ⟨by simp [Instr.sameNow]; rfl, fun e => ?_⟩
      have := of_decide_eq_true e
      simp [Instr.sameBits, this]
    · cases h
  · cases h
    simp only [VR] at hv hv'
    subst hv; subst hv'
    rw [sEq_eq]
    refine ⟨?_, fun e => ?_⟩
    · simp only [Instr.sameNow, baEq]
    · have := of_decide_eq_true e
      subst this
      simp only [Instr.sameBits, baEq, decide_true]
  · cases h
theorem findA_ok {d : TypeDesc} {k : AV} {v : Value} (hv : VR V k v) : ∀ {l : List (AV × AV × Nat)} {es : List MapEntry} {i : Nat} {r : Option (Nat × AV)}, findA d k l i = some r → ERs V l es →
    match r with
    | none => Instr.findNow d v es i = some none
    | some (j, x) => ∃ v' e, Instr.findNow d v es i = some (some (j, v')) ∧ VR V x v' ∧ i ≤ j ∧ es[j - i]? = some e ∧ e.val = v' ∧ Instr.sameBits 10000 e.key v = true
  | [], es, i, r, h, he => by
    simp only [findA, Option.some.injEq] at h; subst h
    simp only [ERs] at he; subst he
    rfl
  | (k', x, n) :: l, es, i, r, h, he => by
    simp only [ERs] at he
    obtain ⟨kv, xv, t, h1, h2, h3, rfl⟩ := he
    simp only [findA] at h
    split at h
    · rename_i hk
      cases h
      obtain ⟨h4, h5⟩ := keyEq_ok hk hv h1
      exact ⟨xv, ⟨kv, xv, n⟩, by simp [Instr.findNow, h4], h2, Nat.le_refl _, by simp, rfl, h5 rfl⟩
    · rename_i hk
      obtain ⟨h4, h5⟩ := keyEq_ok hk hv h1
      have ih := findA_ok hv h h3
      cases r with
      | none => simpa [Instr.findNow, h4] using ih
      | some p =>
        obtain ⟨j, y⟩ := p
        obtain ⟨v', e, i1, i2, i3, i4, i5, i6⟩ := ih
        refine ⟨v', e, by simpa [Instr.findNow, h4] using i1, i2, by omega, ?_, i5, i6⟩
        rw [show j - i = (j - (i + 1)) + 1 from by omega]
        simpa using i4
    · cases h
/-- Key and element of a map's type; the key is a number or a text. -/
def mapK (P : Program) (t : TypeId) : Option (TypeDesc × TypeId × TypeId) :=
  match P.underlying t with
  | some (.map kt e) => match P.underlying kt with
    | some (.int k) => some (.int k, kt, e)
    | some .string => some (.string, kt, e)
    | _ => none
  | _ => none
theorem mapK_ok {t kt e : TypeId} {d : TypeDesc} (h : mapK P t = some (d, kt, e)) : P.underlying t = some (.map kt e) ∧ P.underlying kt = some d ∧ ∀ b n v (w : World), (Instr.checkKey b (n + 1) kt v).run P w = .ok () w := by
  unfold mapK at h
  split at h
  · rename_i kt' e' h1
    split at h
    · rename_i k h2
      simp only [Option.some.injEq, Prod.mk.injEq] at h
      obtain ⟨rfl, rfl, rfl⟩ := h
      refine ⟨h1, h2, fun b n v w => ?_⟩
      simp only [Instr.checkKey, Sem.run_bind, run_underlying h2, Result.andThen_ok]
      rfl
    · rename_i h2
      simp only [Option.some.injEq, Prod.mk.injEq] at h
      obtain ⟨rfl, rfl, rfl⟩ := h
      refine ⟨h1, h2, fun b n v w => ?_⟩
      simp only [Instr.checkKey, Sem.run_bind, run_underlying h2, Result.andThen_ok]
      rfl
    · cases h
  · cases h
theorem mapB {id : Nat} {es : List (AV × AV × Nat)} {clock : Nat} {v : Value} (hg : s.h.get id = some (.m es clock)) (hs : Sim w0 V s w) (hv : VR V (.m id) v) :
    ∃ b es', v = .map (some b) ∧ V.ρ id = some b ∧ ERs V es es' ∧ w.heap[b]? = some (.map es'.toArray clock) := by
  simp only [VR] at hv
  obtain ⟨b, hb, rfl⟩ := hv
  obtain ⟨b', o, h1, h2, h3, es', h4, rfl⟩ := hs.live id _ hg
  rw [hb] at h1; cases h1
  exact ⟨b, es', rfl, hb, h4, h3⟩
def makeMapA (P : Program) (s : St) (nm : Option Nat) : Option (AV × St) :=
  match s.fresh nm with
  | some (q, n') => some (.m q, ⟨s.h.set q (some (.m [] 0)), n'⟩)
  | none => none
theorem makeMapA_ok {nm : Option Nat} {t : TypeId} {r : AV} {s' : St} (h : makeMapA P s nm = some (r, s')) (hs : Sim w0 V s w) (hn : ∀ p, nm = some p → V.ρ p = none) :
    ∃ V' z w', Vx V V' s.n nm ∧ VR V' r z ∧ (Instr.makeMap t none).run P w = .ok z w' ∧ Sim w0 V' s' w' ∧ s.n ≤ s'.n := by
  unfold makeMapA at h
  split at h
  · rename_i q n' hq
    simp only [Option.some.injEq, Prod.mk.injEq] at h
    obtain ⟨rfl, rfl⟩ := h
    have hqn := hs.fresh' hq hn
    refine ⟨V.add q w.heap.size 0, .map (some w.heap.size), _, Vx.add hq hqn, by simp only [VR]; exact ⟨_, by simp [Vl.add], rfl⟩, ?_, hs.alloc hq hn 0 (x := .m [] 0) ⟨[], by simp only [ERs], rfl⟩, (St.fresh_spec hq).2.1⟩
    simp [Instr.makeMap, newObj, Sem.run, bind, Sem.bind, pure]
  · cases h
def lookupA (P : Program) (h : Tr Blk) (t : TypeId) (x k : AV) (ok : Bool) : Option AV :=
  match mapK P t with
  | some (d, _, e) => match x with
    | .m id => match h.get id with
      | some (.m es _) => match findA d k es 0 with
        | some (some (_, y)) => some (bif ok then .tup [y, .b true] else y)
        | some none => match P.info? e with
          | some info => match info.zero with
            | some z => some (bif ok then .tup [ofV z, .b false] else ofV z)
            | none => none
          | none => none
        | none => none
      | _ => none
    | .mn => match P.info? e with
      | some info => match info.zero with
        | some z => bif keyShape d k then some (bif ok then .tup [ofV z, .b false] else ofV z) else none
        | none => none
      | none => none
    | _ => none
  | none => none
where
  keyShape : TypeDesc → AV → Bool
    | .int _, .i _ _ => true
    | .string, .s _ => true
    | _, _ => false
theorem lookupA_ok {t : TypeId} {x k r : AV} {ok : Bool} {v u : Value} (h : lookupA P s.h t x k ok = some r) (hs : Sim w0 V s w) (hv : VR V x v) (hu : VR V k u) :
    ∃ z, VR V r z ∧ (Instr.lookup t v u ok).run P w = .ok z w := by
  unfold lookupA at h
  split at h
  · rename_i d kt e hm
    obtain ⟨h1, h2, h3⟩ := mapK_ok hm
    have fin : ∀ (y : AV) (yv : Value) (b : Bool), VR V y yv → VR V (bif ok then .tup [y, .b b] else y) (if ok then .tuple #[yv, .bool b] else yv) := fun y yv b hy => by
      cases ok
      · exact hy
      · simp only [cond_true, VR, if_true]; exact ⟨[yv, .bool b], VRs.cons hy (VRs.cons (by simp only [VR]) VRs.nil), rfl⟩
    split at h
    · rename_i id
      split at h
      · rename_i es clock hg
        obtain ⟨b, es', rfl, hb, h4, h5⟩ := mapB hg hs hv
        have hgo := MapKept.run_getObj_map (P := P) h5
        split at h
        · rename_i j y hfi
          cases h
          obtain ⟨yv, ee, f1, f2, _, f4, f5, _⟩ := findA_ok hu hfi h4
          have hfk := MapKept.run_findKey (P := P) (w := w) h2 f1
          refine ⟨_, fin y yv true f2, ?_⟩
          simp only [Instr.lookup, Sem.run_bind, run_underlying h1, Result.andThen_ok, hgo, Sem.run_pure]
          rw [h3]
          simp only [Result.andThen_ok, List.toList_toArray] at hfk ⊢
          rw [hfk]
          simp
        · rename_i hfi
          have f1 := findA_ok hu hfi h4
          have hfk := MapKept.run_findKey (P := P) (w := w) h2 f1
          split at h
          · rename_i info hi
            split at h
            · rename_i z hz
              cases h
              refine ⟨_, fin _ z false (ofV_ok V z), ?_⟩
              have hzv : (zeroValue e).run P w = .ok z w := by simp [zeroValue, typeInfo, hi, hz]
              simp only [Instr.lookup, Sem.run_bind, run_underlying h1, Result.andThen_ok, hgo, Sem.run_pure]
              rw [h3]
              simp only [Result.andThen_ok, List.toList_toArray] at hfk ⊢
              rw [hfk]
              simp [hzv]
            · cases h
          · cases h
        · cases h
      · cases h
    · split at h
      · rename_i info hi
        split at h
        · rename_i z hz
          obtain ⟨hks, rfl⟩ := bif_some h
          simp only [VR] at hv; subst hv
          refine ⟨_, fin _ z false (ofV_ok V z), ?_⟩
          have hzv : (zeroValue e).run P w = .ok z w := by simp [zeroValue, typeInfo, hi, hz]
          have hfk := MapKept.run_findKey (P := P) (w := w) (kt := kt) (k := u) (l := []) (a := none) h2 rfl
          simp only [Instr.lookup, Sem.run_bind, run_underlying h1, Result.andThen_ok, Sem.run_pure]
          rw [h3]
          simp only [Result.andThen_ok]
          rw [hfk]
          simp [hzv]
        · cases h
      · cases h
    · cases h
  · cases h
def modA (l : List (AV × AV × Nat)) (i : Nat) (k x : AV) : List (AV × AV × Nat) :=
  match l, i with
  | [], _ => []
  | (_, _, n) :: l, 0 => (k, x, n) :: l
  | e :: l, i + 1 => e :: modA l i k x
theorem modA_ok : ∀ {l : List (AV × AV × Nat)} {es : List MapEntry} {i : Nat} {k x : AV} {kv xv : Value}, ERs V l es → VR V k kv → VR V x xv → ERs V (modA l i k x) (es.modify i fun e => { e with key := kv, val := xv })
  | [], es, i, k, x, kv, xv, h, hk, hx => by simp only [ERs] at h; subst h; simp only [modA, ERs]; simp
  | (_, _, n) :: l, es, 0, k, x, kv, xv, h, hk, hx => by
    simp only [ERs] at h
    obtain ⟨a, b, t, h1, h2, h3, rfl⟩ := h
    simp only [modA, ERs]
    exact ⟨kv, xv, t, hk, hx, h3, by simp⟩
  | (_, _, n) :: l, es, i + 1, k, x, kv, xv, h, hk, hx => by
    simp only [ERs] at h
    obtain ⟨a, b, t, h1, h2, h3, rfl⟩ := h
    simp only [modA, ERs]
    exact ⟨a, b, _, h1, h2, modA_ok h3 hk hx, by simp⟩
theorem ERs.append : ∀ {l m : List (AV × AV × Nat)} {es fs : List MapEntry}, ERs V l es → ERs V m fs → ERs V (l ++ m) (es ++ fs)
  | [], _, _, _, h, k => by simp only [ERs] at h; subst h; exact k
  | (_, _, _) :: l, m, _, fs, h, k => by
    simp only [ERs] at h
    obtain ⟨a, b, t, h1, h2, h3, rfl⟩ := h
    simp only [List.cons_append, ERs]
    exact ⟨a, b, t ++ fs, h1, h2, ERs.append h3 k, rfl⟩
def mapUpdA (P : Program) (s : St) (t : TypeId) (x k y : AV) : Option St :=
  match mapK P t with
  | some (d, _, _) => match x with
    | .m id => match s.h.get id with
      | some (.m es clock) => bif y.fine then (match findA d k es 0 with
        | some (some (i, _)) => some ⟨s.h.set id (some (.m (modA es i k y) clock)), s.n⟩
        | some none => some ⟨s.h.set id (some (.m (es ++ [(k, y, clock)]) (clock + 1))), s.n⟩
        | none => none) else none
      | _ => none
    | _ => none
  | none => none
theorem setIf_size (h : Array Obj) (b : Nat) (o : Obj) : (h.setIfInBounds b o).size = h.size := by simp
theorem setIf_ne (h : Array Obj) {b j : Nat} (o : Obj) (e : j ≠ b) : (h.setIfInBounds b o)[j]? = h[j]? := by rw [Array.getElem?_setIfInBounds, if_neg (fun x => e x.symm)]
theorem setIf_self {h : Array Obj} {b : Nat} {o o' : Obj} (e : h[b]? = some o) : (h.setIfInBounds b o')[b]? = some o' := by
  rw [Array.getElem?_setIfInBounds, if_pos rfl, if_pos (Array.getElem?_eq_some_iff.1 e).1]
theorem mapUpdA_ok {t : TypeId} {x k y : AV} {v u z : Value} {s' : St} (h : mapUpdA P s t x k y = some s') (hs : Sim w0 V s w) (hv : VR V x v) (hu : VR V k u) (hz : VR V y z) :
    ∃ w', (Instr.mapUpdate t v u z).run P w = .ok () w' ∧ Sim w0 V s' w' ∧ s'.n = s.n := by
  unfold mapUpdA at h
  split at h
  · rename_i d kt e hm
    obtain ⟨h1, h2, h3⟩ := mapK_ok hm
    split at h
    · rename_i id
      split at h
      · rename_i es clock hg
        obtain ⟨b, es', rfl, hb, h4, h5⟩ := mapB hg hs hv
        have hgo := MapKept.run_getObj_map (P := P) h5
        cases hy : y.fine
        · simp [hy] at h
        simp only [hy, cond_true] at h
        split at h
        · rename_i j yo hfi
          cases h
          obtain ⟨yv, ee, f1, f2, _, f4, f5, f6⟩ := findA_ok hu hfi h4
          have hfk := MapKept.run_findKey (P := P) (w := w) h2 f1
          have hset := MapKept.run_setObj_map (P := P) (.map ((es'.toArray).modify j fun e => { e with key := u, val := z }) clock) h5
          refine ⟨_, ?_, hs.put hg hb (o := .map ((es'.toArray).modify j fun e => { e with key := u, val := z }) clock) ⟨es'.modify j fun e => { e with key := u, val := z }, modA_ok h4 hu hz, by simp⟩ (setIf_size _ _ _) (fun j hj => setIf_ne _ _ hj) (setIf_self h5), rfl⟩
          have hkey : (Instr.keyThatStays (((es'.toArray[j]?).map (·.key)).getD u) u).run P w = .ok u w := by
            simp only [Nat.sub_zero] at f4
            simp [Instr.keyThatStays, f4, f6]
          simp only [Instr.mapUpdate, Sem.run_bind, run_underlying h1, Result.andThen_ok, hgo]
          rw [h3]
          simp only [Result.andThen_ok, List.toList_toArray] at hfk ⊢
          rw [hfk]
          simp only [Sem.run_bind, Result.andThen_ok]
          rw [hkey]
          exact hset
        · rename_i hfi
          cases h
          have f1 := findA_ok hu hfi h4
          have hfk := MapKept.run_findKey (P := P) (w := w) h2 f1
          have hset := MapKept.run_setObj_map (P := P) (.map (es'.toArray.push { key := u, val := z, born := clock }) (clock + 1)) h5
          refine ⟨_, ?_, hs.put hg hb (o := .map (es'.toArray.push { key := u, val := z, born := clock }) (clock + 1)) ⟨es' ++ [⟨u, z, clock⟩], h4.append (by simp only [ERs]; exact ⟨u, z, [], hu, hz, rfl, rfl⟩), by simp⟩ (setIf_size _ _ _) (fun j hj => setIf_ne _ _ hj) (setIf_self h5), rfl⟩
          simp only [Instr.mapUpdate, Sem.run_bind, run_underlying h1, Result.andThen_ok, hgo]
          rw [h3]
          simp only [Result.andThen_ok, List.toList_toArray] at hfk ⊢
          rw [hfk]
          exact hset
        · cases h
      · cases h
    · cases h
  · cases h
def eraseA : List (AV × AV × Nat) → Nat → List (AV × AV × Nat)
  | [], _ => []
  | _ :: l, 0 => l
  | e :: l, i + 1 => e :: eraseA l i
theorem eraseA_ok : ∀ {l : List (AV × AV × Nat)} {es : List MapEntry} {i : Nat}, ERs V l es → ERs V (eraseA l i) (es.eraseIdx i)
  | [], es, i, h => by simp only [ERs] at h; subst h; simp only [eraseA, ERs]; simp
  | (_, _, n) :: l, es, 0, h => by
    simp only [ERs] at h
    obtain ⟨a, b, t, h1, h2, h3, rfl⟩ := h
    simpa [eraseA] using h3
  | (_, _, n) :: l, es, i + 1, h => by
    simp only [ERs] at h
    obtain ⟨a, b, t, h1, h2, h3, rfl⟩ := h
    simp only [eraseA, ERs]
    exact ⟨a, b, _, h1, h2, eraseA_ok h3, by simp⟩
def deleteA (P : Program) (s : St) (t : TypeId) (x k : AV) : Option St :=
  match mapK P t with
  | some (d, _, _) => match x with
    | .m id => match s.h.get id with
      | some (.m es clock) => match findA d k es 0 with
        | some (some (i, _)) => some ⟨s.h.set id (some (.m (eraseA es i) clock)), s.n⟩
        | some none => some s
        | none => none
      | _ => none
    | _ => none
  | none => none
theorem deleteA_ok {t t' ty : TypeId} {x k : AV} {v u : Value} {s' : St} (h : deleteA P s t x k = some s') (hs : Sim w0 V s w) (hv : VR V x v) (hu : VR V k u) :
    ∃ w', (Builtin.delete_ #[t, t'] ty #[v, u]).run P w = .ok (.tuple #[]) w' ∧ Sim w0 V s' w' ∧ s'.n = s.n := by
  unfold deleteA at h
  split at h
  · rename_i d kt e hm
    obtain ⟨h1, h2, h3⟩ := mapK_ok hm
    split at h
    · rename_i id
      split at h
      · rename_i es clock hg
        obtain ⟨b, es', rfl, hb, h4, h5⟩ := mapB hg hs hv
        have hgo := MapKept.run_getObj_map (P := P) h5
        split at h
        · rename_i j yo hfi
          cases h
          obtain ⟨yv, ee, f1, f2, _, f4, f5, f6⟩ := findA_ok hu hfi h4
          have hfk := MapKept.run_findKey (P := P) (w := w) h2 f1
          have hset := MapKept.run_setObj_map (P := P) (.map (es'.toArray.eraseIdxIfInBounds j) clock) h5
          refine ⟨_, ?_, hs.put hg hb (o := .map (es'.toArray.eraseIdxIfInBounds j) clock) ⟨es'.eraseIdx j, eraseA_ok h4, by
            congr 1
            simp only [Array.eraseIdxIfInBounds]
            split
            · simp
            · rename_i hlt; simp at hlt; rw [List.eraseIdx_of_length_le hlt]⟩ (setIf_size _ _ _) (fun j hj => setIf_ne _ _ hj) (setIf_self h5), rfl⟩
          simp only [Builtin.delete_, List.getElem?_toArray, List.getElem?_cons_zero, List.getElem?_cons_succ, Sem.run_bind, run_underlying h1, Result.andThen_ok, hgo]
          rw [h3]
          simp only [Result.andThen_ok, List.toList_toArray] at hfk ⊢
          rw [hfk]
          simp only [Result.andThen_ok]
          rw [Sem.run_bind, hset]
          rfl
        · rename_i hfi
          cases h
          have f1 := findA_ok hu hfi h4
          have hfk := MapKept.run_findKey (P := P) (w := w) h2 f1
          have hset := MapKept.run_setObj_map (P := P) (.map es'.toArray clock) h5
          have hsame : ({ w with heap := w.heap.setIfInBounds b (.map es'.toArray clock) } : World) = w := by
            cases w
            simp only [World.mk.injEq, and_true]
            apply Array.ext_getElem?
            intro j
            rw [Array.getElem?_setIfInBounds]
            split
            · rename_i e; subst e
              split
              · exact h5.symm
              · rename_i hlt; exact (Array.getElem?_eq_none (by omega)).symm
            · rfl
          rw [hsame] at hset
          refine ⟨w, ?_, hs, rfl⟩
          simp only [Builtin.delete_, List.getElem?_toArray, List.getElem?_cons_zero, List.getElem?_cons_succ, Sem.run_bind, run_underlying h1, Result.andThen_ok, hgo]
          rw [h3]
          simp only [Result.andThen_ok, List.toList_toArray] at hfk ⊢
          rw [hfk]
          simp only [Result.andThen_ok]
          rw [Sem.run_bind, hset]
          rfl
        · cases h
      · cases h
    · cases h
  · cases h
def lenMA (P : Program) (h : Tr Blk) (t : TypeId) (x : AV) : Option AV :=
  match P.underlying t with
  | some (.map _ _) => match x with
    | .m id => match h.get id with
      | some (.m es _) => some (.i .i64 (.ofNat es.length))
      | _ => none
    | _ => none
  | _ => none
theorem lenMA_ok {t ty : TypeId} {x r : AV} {v : Value} (h : lenMA P s.h t x = some r) (hs : Sim w0 V s w) (hv : VR V x v) : ∃ z, VR V r z ∧ (Builtin.len_ #[t] ty #[v]).run P w = .ok z w := by
  unfold lenMA at h
  split at h
  · rename_i hu
    split at h
    · rename_i id
      split at h
      · rename_i es clock hg
        cases h
        obtain ⟨b, es', rfl, hb, h4, h5⟩ := mapB hg hs hv
        have hgo := MapKept.run_getObj_map (P := P) h5
        refine ⟨.int .i64 (Int.ofNat es.length), by simp only [VR], ?_⟩
        simp [Builtin.len_, run_underlying hu, hgo, goInt, h4.len]
      · cases h
    · cases h
  · cases h
end
end Go.Fw
