/- The evaluator's operations on memory: append, copy, clear, make. Nothing of the program is named here. No condition. -/
import Derived.Test.YtipdjeemjiimbaaEe
set_option linter.unusedVariables false
set_option linter.unusedSimpArgs false
set_option linter.unnecessarySimpa false
namespace Go.Fw
open Go Go.RowKit

section
variable {P : Program} {w0 w : World} {V : Vl} {s : St}

theorem Sim.congr {s' : St} (h : Sim w0 V s w) (e : ∀ id, s'.h.get id = s.h.get id) (en : s'.n = s.n) : Sim w0 V s' w :=
  ⟨h.os, h.tape, h.output, h.size, h.keep, fun id b hb => by rw [en]; exact h.fresh id b hb, fun id x hx => h.live id x (by rw [← e]; exact hx),
    fun id id' b x x' h1 h2 => h.inj id id' b x x' (by rw [← e]; exact h1) (by rw [← e]; exact h2)⟩
/-- Facts on an element's type. -/
theorem elem_info {e : TypeId} {bb : Bool} {k by' : Nat} {z : List Value} (hk : tyK P e = some (bb, k)) (hz : zeroK P e = some z) (hb : bytesK P e = some by') :
    ∃ info zv, P.info? e = some info ∧ info.zero = some zv ∧ info.size = k ∧ info.bytes = by' ∧ zv.cells.toList = z := by
  simp only [zeroK, Option.map_eq_some_iff, Option.bind_eq_some_iff] at hz
  obtain ⟨zv, ⟨info, h1, h2⟩, rfl⟩ := hz
  have h3 := tyK_size hk (default : World)
  simp [sizeOf, typeInfo, h1] at h3
  simp only [bytesK, h1, Option.map_some, Option.some.injEq] at hb
  exact ⟨info, zv, h1, h2, h3, hb, rfl⟩

/-- All elements of a slice: their number, their cells. -/
def srcA (h : Tr Blk) (k : Nat) (y : AV) : Option (Nat × List AV) :=
  match y with
  | .sn => some (0, [])
  | .sz => some (0, [])
  | .sl id off len _ => bif Nat.beq len 0 then some (0, []) else (match rowA h id off (len * k) with
    | some l => some (len, l)
    | none => none)
  | .so id _ off len => bif Nat.beq len 0 then some (0, []) else (match rowA h id off (len * k) with
    | some l => some (len, l)
    | none => none)
  | _ => none
theorem cells_first {b off n k len cap : Nat} {vs : List Value} (hl : vs.length = n * k) (hc : CellsAt w b off vs) : (Builtin.firstCells k n (.slice (some ⟨b, off, none⟩) len cap)).run P w = .ok vs.toArray w :=
  run_firstCells_some (P := P) w k n ⟨b, off, none⟩ len cap vs hl (fun j v hj => by rw [Addr.add_lit]; exact hc j v hj)
theorem CellsAt.same {b off : Nat} {vs : List Value} {w' : World} (h : CellsAt w b off vs) (e : w'.heap = w.heap) : CellsAt w' b off vs := fun j v hj => by
  have := h j v hj
  unfold World.cell? at this ⊢
  rw [e]
  exact this
theorem CellsAt.nil {b off : Nat} : CellsAt w b off [] := fun j v hj => by simp at hj
theorem CellsAt.take {b off : Nat} {vs : List Value} (h : CellsAt w b off vs) (n : Nat) : CellsAt w b off (vs.take n) := fun j v hj => by
  rw [List.getElem?_take] at hj
  split at hj
  · exact h j v hj
  · cases hj
theorem srcA_ok {k n : Nat} {y : AV} {l : List AV} {u : Value} (h : srcA s.h k y = some (n, l)) (hs : Sim w0 V s w) (hu : VR V y u) :
    ∃ ao c vs, u = .slice ao n c ∧ VRs V l vs ∧ vs.length = n * k ∧ (∀ w' m, w'.heap = w.heap → m ≤ n → (Builtin.firstCells k m u).run P w' = .ok (vs.take (m * k)).toArray w') := by
  unfold srcA at h
  split at h
  · cases h
    simp only [VR] at hu; subst hu
    exact ⟨none, 0, [], rfl, VRs.nil, by simp, fun w' m _ _ => by simp [Builtin.firstCells]⟩
  · cases h
    simp only [VR] at hu; obtain ⟨a, c, rfl⟩ := hu
    refine ⟨some a, c, [], rfl, VRs.nil, by simp, fun w' m _ hm => ?_⟩
    have : m = 0 := by omega
    subst this
    have := run_firstCells_some (P := P) w' k 0 a 0 c [] (by simp) (fun j v hj => by simp at hj)
    simpa using this
  · rename_i id off len cap
    simp only [VR] at hu; obtain ⟨b, hb, rfl⟩ := hu
    cases h0 : Nat.beq len 0
    · simp only [h0, cond_false] at h
      split at h
      · rename_i m hm
        simp only [Option.some.injEq, Prod.mk.injEq] at h
        obtain ⟨rfl, rfl⟩ := h
        obtain ⟨vs, h1, h2, h3⟩ := rowA_ok hm hs hb
        refine ⟨some ⟨b, off, none⟩, cap, vs, rfl, h1, h2, fun w' m' e hm => cells_first ?_ ((h3.same e).take _)⟩
        rw [List.length_take, h2]
        exact Nat.min_eq_left (Nat.mul_le_mul_right _ hm)
      · cases h
    · simp only [h0, cond_true, Option.some.injEq, Prod.mk.injEq] at h
      obtain ⟨rfl, rfl⟩ := h
      have h0 := Nat.eq_of_beq_eq_true h0
      subst h0
      refine ⟨some ⟨b, off, none⟩, cap, [], rfl, VRs.nil, by simp, fun w' m e hm => ?_⟩
      have : m = 0 := by omega
      subst this
      exact cells_first (by simp) (by simpa using CellsAt.nil)
  · rename_i id a0 off len
    simp only [VR] at hu; obtain ⟨b, hb, hle, rfl⟩ := hu
    cases h0 : Nat.beq len 0
    · simp only [h0, cond_false] at h
      split at h
      · rename_i m hm
        simp only [Option.some.injEq, Prod.mk.injEq] at h
        obtain ⟨rfl, rfl⟩ := h
        obtain ⟨vs, h1, h2, h3⟩ := rowA_ok hm hs hb
        refine ⟨some ⟨b, off, none⟩, _, vs, rfl, h1, h2, fun w' m' e hm => cells_first ?_ ((h3.same e).take _)⟩
        rw [List.length_take, h2]
        exact Nat.min_eq_left (Nat.mul_le_mul_right _ hm)
      · cases h
    · simp only [h0, cond_true, Option.some.injEq, Prod.mk.injEq] at h
      obtain ⟨rfl, rfl⟩ := h
      have h0 := Nat.eq_of_beq_eq_true h0
      subst h0
      refine ⟨some ⟨b, off, none⟩, _, [], rfl, VRs.nil, by simp, fun w' m e hm => ?_⟩
      have : m = 0 := by omega
      subst this
      exact cells_first (by simp) (by simpa using CellsAt.nil)
  · cases h

/-- append: the arm with room. -/
theorem run_app_room {t ty e : TypeId} {info : TypeInfo} (ht : P.underlying t = some (.slice e)) (hi : P.info? e = some info) {b off len cap n c : Nat} {ao : Option Addr} {news : List Value} {w' : World}
    (hroom : len + n ≤ cap) (hf : (Builtin.firstCells info.size n (.slice ao n c)).run P w = .ok news.toArray w) (hst : (storeCells ⟨b, off + len * info.size, none⟩ news).run P w = .ok () w') :
    (Builtin.append_ #[t, t] ty #[.slice (some ⟨b, off, none⟩) len cap, .slice ao n c]).run P w = .ok (.slice (some ⟨b, off, none⟩) (len + n) cap) w' := by
  simp [Builtin.append_, run_underlying ht, sizeOf, typeInfo, hi, Builtin.lenOf, hroom, hf, Addr.add_lit, hst]
/-- append: the arm that grows. -/
theorem run_app_grow {t ty e : TypeId} {info : TypeInfo} {z : Value} (ht : P.underlying t = some (.slice e)) (hi : P.info? e = some info) (hz : info.zero = some z) {len cap n c : Nat} {ao bo : Option Addr} {olds news : List Value}
    (hold : (Builtin.firstCells info.size len (.slice bo len cap)).run P w.drew = .ok olds.toArray w.drew) (hf : (Builtin.firstCells info.size n (.slice ao n c)).run P w.drew = .ok news.toArray w.drew) (hg : cap < len + n)
    (hsz : (len + n) * info.bytes ≤ 140737488355328) (h63 : len + n ≤ 9223372036854775807) :
    (Builtin.append_ #[t, t] ty #[.slice bo len cap, .slice ao n c]).run P w =
      .ok (.slice (some ⟨w.heap.size, 0, none⟩) (len + n) (grownCap w (len + n) cap e)) (w.drew.alloc (.cells (olds ++ news ++ (Builtin.zeroCells z.cells (grownCap w (len + n) cap e - (len + n))).toList).toArray e (0, 0))) := by
  have hn : ¬ (len + n ≤ cap) := by omega
  have h63' : ¬ (9223372036854775807 < ((len : Int) + (n : Int))) := by omega
  have h48' : ¬ (281474976710656 < Builtin.nextslicecap (len + n) cap * info.bytes) := by have := growslice_fits hg hsz; omega
  simp [Builtin.append_, run_underlying ht, sizeOf, typeInfo, zeroValue, hi, hz, Builtin.lenOf, hn, h63', h48', Question.forced, hold, hf, newRow, grownCap]
  congr 2
  apply Array.ext'
  simp [List.append_assoc]

def growA (s : St) (nm : Option Nat) (e k by' len n : Nat) (l : List AV) : Option (AV × St) :=
  bif Nat.ble ((len + n) * by') 140737488355328 && Nat.ble (len + n) 1000000 then (match newA s nm e k l with
    | some (q, s') => some (.so q 0 0 (len + n), s')
    | none => none) else none
/-- 'append(x, y...)'. -/
def appA (P : Program) (s : St) (nm : Option Nat) (t : TypeId) (x y : AV) : Option (AV × St) :=
  match sliceK P t with
  | some e => match tyK P e with
    | some (_, k) => match zeroK P e with
      | some z => match bytesK P e with
        | some by' => match srcA s.h k y with
          | some (n2, news) => bif Nat.beq k 0 || !Nat.beq z.length k then none else (match x with
            | .sn => bif Nat.beq n2 0 then some (.sn, s) else growA s nm e k by' 0 n2 news
            | .sz => bif Nat.beq n2 0 then some (.sz, s) else none
            | .sl id off len cap => bif Nat.ble (len + n2) cap then (bif Nat.beq n2 0 then some (.sl id off len cap, s) else (match updA s id (off + len * k) news with
                | some s' => some (.sl id off (len + n2) cap, s')
                | none => none)) else (bif Nat.beq len 0 then growA s nm e k by' 0 n2 news else (match rowA s.h id off (len * k) with
                | some olds => growA s nm e k by' len n2 (olds ++ news)
                | none => none))
            | .so id a off len => bif Nat.beq n2 0 then some (.so id a off len, s) else (match s.h.get id with
              | some (.c t0 k' cs) => bif Nat.beq k k' && Nat.beq off (a * k) then
                (bif Nat.ble (off + (len + n2) * k) cs.length then (match updA s id (off + len * k) news with
                  | some s' => some (.so id a off (len + n2), s')
                  | none => none)
                else (bif Nat.beq a 0 && Nat.beq cs.length (len * k) && Nat.beq t0 e && Nat.ble ((len + n2) * by') 140737488355328 && Nat.ble (len + n2) 1000000 && AV.ones news then (match s.fresh nm with
                  | some (q, n') => some (.so q 0 0 (len + n2), ⟨(s.h.set id none).set q (some (.c t0 k (cs ++ news))), n'⟩)
                  | none => none) else none)) else none
              | _ => none)
            | _ => none)
          | none => none
        | none => none
      | none => none
    | none => none
  | none => none

theorem ones_append : ∀ {l m : List AV}, AV.ones l = true → AV.ones m = true → AV.ones (l ++ m) = true
  | [], _, _, h => h
  | x :: l, m, h, k => by
    simp only [AV.ones, Bool.and_eq_true, List.cons_append] at h ⊢
    exact ⟨h.1, ones_append h.2 k⟩

/-- What the arm that grows makes. -/
theorem growA_ok {nm : Option Nat} {t ty e : TypeId} {info : TypeInfo} {z : Value} (ht : P.underlying t = some (.slice e)) (hi : P.info? e = some info) (hz : info.zero = some z) (hzs : z.cells.size = info.size) {len cap n c : Nat} {ao bo : Option Addr}
    {olds news : List Value} {l : List AV} {r : AV} {s' : St} (h : growA s nm e info.size info.bytes len n l = some (r, s')) (hs : Sim w0 V s w) (hn : ∀ p, nm = some p → V.ρ p = none) (hk : 0 < info.size)
    (hold : (Builtin.firstCells info.size len (.slice bo len cap)).run P w.drew = .ok olds.toArray w.drew) (hf : (Builtin.firstCells info.size n (.slice ao n c)).run P w.drew = .ok news.toArray w.drew) (hg : cap < len + n)
    (hl : VRs V l (olds ++ news)) (hlen : (olds ++ news).length = (len + n) * info.size) :
    ∃ V' z' w', Vx V V' s.n nm ∧ VR V' r z' ∧ (Builtin.append_ #[t, t] ty #[.slice bo len cap, .slice ao n c]).run P w = .ok z' w' ∧ Sim w0 V' s' w' ∧ s.n ≤ s'.n := by
  unfold growA at h
  cases hc : Nat.ble ((len + n) * info.bytes) 140737488355328 && Nat.ble (len + n) 1000000
  · simp [hc] at h
  · simp only [hc, cond_true] at h
    simp only [Bool.and_eq_true, Nat.ble_eq] at hc
    split at h
    · rename_i q s1 hq
      simp only [Option.some.injEq, Prod.mk.injEq] at h
      obtain ⟨rfl, rfl⟩ := h
      unfold newA at hq
      split at hq
      · rename_i q' n' hq'
        simp only [Option.some.injEq, Prod.mk.injEq] at hq
        obtain ⟨rfl, rfl⟩ := hq
        have hge := grownCap_ge w (len + n) cap e
        have hcm := grownCap_le_maxLen w (len + n) cap e (by simp only [maxLen]; omega)
        have hrun := run_app_grow (ty := ty) ht hi hz hold hf hg hc.1 (by omega)
        have hd : Sim w0 V s w.drew := hs.drew
        have hqn := hs.fresh' hq' hn
        refine ⟨V.add q' w.heap.size (grownCap w (len + n) cap e), _, _, Vx.add hq' hqn, ?_, hrun, hd.alloc hq' hn _ ?_, (St.fresh_spec hq').2.1⟩
        · simp only [VR]
          exact ⟨w.heap.size, by simp [Vl.add], by simp [Vl.add]; omega, by simp [Vl.add]⟩
        · refine ⟨olds ++ news, _, hl.mono (Vl.le_add hqn), rfl, fun h => by omega, fun _ => ⟨?_, ?_⟩⟩
          · simp only [Vl.add, if_true]
            rw [List.length_append, hlen, Array.length_toList, size_zeroCells, hzs, ← Nat.add_mul]
            congr 1; omega
          · simp only [Vl.add, if_true]; exact hcm
      · cases hq
    · cases h

theorem appA_ok {nm : Option Nat} {t ty : TypeId} {x y r : AV} {v u : Value} {s' : St} (h : appA P s nm t x y = some (r, s')) (hs : Sim w0 V s w) (hn : ∀ p, nm = some p → V.ρ p = none) (hv : VR V x v) (hu : VR V y u) :
    ∃ V' z w', Vx V V' s.n nm ∧ VR V' r z ∧ (Builtin.append_ #[t, t] ty #[v, u]).run P w = .ok z w' ∧ Sim w0 V' s' w' ∧ s.n ≤ s'.n := by
  unfold appA at h
  split at h
  · rename_i e he
    have hund := sliceK_und he
    split at h
    · rename_i bb k hk
      split at h
      · rename_i z hz
        split at h
        · rename_i by' hby
          split at h
          · rename_i n2 news hsrc
            obtain ⟨info, zv, hi1, hi2, hi3, hi4, hi5⟩ := elem_info hk hz hby
            obtain ⟨ao, c, ws, rfl, hws, hwl, hwf⟩ := srcA_ok (P := P) hsrc hs hu
            have hnews := fun w' (e : w'.heap = w.heap) => hwf w' n2 e (Nat.le_refl _)
            rw [show ws.take (n2 * k) = ws from by rw [← hwl]; exact List.take_length] at hnews
            cases hc : Nat.beq k 0 || !Nat.beq z.length k
            case true => simp [hc] at h
            simp only [hc, cond_false] at h
            simp only [Bool.or_eq_false_iff, Bool.not_eq_false'] at hc
            have hk0 : 0 < k := by have := hc.1; rw [nbeq] at this; have := of_decide_eq_false this; omega
            have hzs : zv.cells.size = info.size := by have := Nat.eq_of_beq_eq_true hc.2; rw [← hi5] at this; simp at this; omega
            subst hi3
            subst hi4
            split at h
            · -- nil
              simp only [VR] at hv; subst hv
              cases h0 : Nat.beq n2 0
              · simp only [h0, cond_false] at h
                have h0 : n2 ≠ 0 := by rw [nbeq] at h0; exact of_decide_eq_false h0
                exact growA_ok hund hi1 hi2 hzs h hs hn hk0 (olds := []) (by simp [Builtin.firstCells]) (hnews _ rfl) (by omega) (by simpa using hws) (by simpa using hwl)
              · simp only [h0, cond_true, Option.some.injEq, Prod.mk.injEq] at h
                obtain ⟨rfl, rfl⟩ := h
                have h0 := Nat.eq_of_beq_eq_true h0
                subst h0
                have hw0 : ws = [] := List.eq_nil_of_length_eq_zero (by simpa using hwl)
                subst hw0
                have hf := hnews w rfl
                refine ⟨V, .slice none 0 0, w, Vx.rfl, by simp only [VR], ?_, hs, Nat.le_refl _⟩
                simp [Builtin.append_, run_underlying hund, sizeOf, typeInfo, hi1, Builtin.lenOf, hf]
            · -- some empty slice
              simp only [VR] at hv; obtain ⟨a, cc, rfl⟩ := hv
              cases h0 : Nat.beq n2 0
              · simp [h0] at h
              · simp only [h0, cond_true, Option.some.injEq, Prod.mk.injEq] at h
                obtain ⟨rfl, rfl⟩ := h
                have h0 := Nat.eq_of_beq_eq_true h0
                subst h0
                have hw0 : ws = [] := List.eq_nil_of_length_eq_zero (by simpa using hwl)
                subst hw0
                have hf := hnews w rfl
                refine ⟨V, .slice (some a) 0 cc, w, Vx.rfl, by simp only [VR]; exact ⟨a, cc, rfl⟩, ?_, hs, Nat.le_refl _⟩
                simp [Builtin.append_, run_underlying hund, sizeOf, typeInfo, hi1, Builtin.lenOf, hf, storeCells]
            · -- known room
              rename_i id off len cap
              simp only [VR] at hv
              obtain ⟨b, hb, rfl⟩ := hv
              cases hroom : Nat.ble (len + n2) cap
              · simp only [hroom, cond_false] at h
                have hroom : cap < len + n2 := by
                  rcases Nat.lt_or_ge cap (len + n2) with h9 | h9
                  · exact h9
                  · have : Nat.ble (len + n2) cap = true := by simpa using h9
                    rw [this] at hroom; cases hroom
                cases h1 : Nat.beq len 0
                · simp only [h1, cond_false] at h
                  split at h
                  · rename_i olds hol
                    obtain ⟨vs, k1, k2, k3⟩ := rowA_ok hol hs hb
                    exact growA_ok hund hi1 hi2 hzs h hs hn hk0 (olds := vs) (cells_first k2 (k3.same rfl)) (hnews _ rfl) hroom (k1.append hws) (by rw [List.length_append, k2, hwl, Nat.add_mul])
                  · cases h
                · simp only [h1, cond_true] at h
                  have h1 := Nat.eq_of_beq_eq_true h1
                  subst h1
                  exact growA_ok hund hi1 hi2 hzs h hs hn hk0 (olds := []) (cells_first (by simp) CellsAt.nil) (hnews _ rfl) hroom (by simpa using hws) (by simpa using hwl)
              · simp only [hroom, cond_true] at h
                have hroom : len + n2 ≤ cap := by simpa using hroom
                cases h1 : Nat.beq n2 0
                · simp only [h1, cond_false] at h
                  split at h
                  · rename_i s1 hup
                    simp only [Option.some.injEq, Prod.mk.injEq] at h
                    obtain ⟨rfl, rfl⟩ := h
                    obtain ⟨w', k1, k2, k3⟩ := updA_ok (P := P) hup hs hb hws
                    exact ⟨V, _, w', Vx.rfl, by simp only [VR]; exact ⟨b, hb, rfl⟩, run_app_room hund hi1 hroom (hnews w rfl) k1, k2, by omega⟩
                  · cases h
                · simp only [h1, cond_true, Option.some.injEq, Prod.mk.injEq] at h
                  obtain ⟨rfl, rfl⟩ := h
                  have h1 := Nat.eq_of_beq_eq_true h1
                  subst h1
                  have hw0 : ws = [] := List.eq_nil_of_length_eq_zero (by simpa using hwl)
                  subst hw0
                  exact ⟨V, _, w, Vx.rfl, by simp only [VR]; exact ⟨b, hb, rfl⟩, run_app_room (n := 0) hund hi1 hroom (hnews w rfl) (by simp [storeCells]), hs, Nat.le_refl _⟩
            · -- a block of ours
              rename_i id a0 off len
              have hv' := hv
              simp only [VR] at hv
              obtain ⟨b, hb, hle, rfl⟩ := hv
              cases h1 : Nat.beq n2 0
              case true =>
                simp only [h1, cond_true, Option.some.injEq, Prod.mk.injEq] at h
                obtain ⟨rfl, rfl⟩ := h
                have h1 := Nat.eq_of_beq_eq_true h1
                subst h1
                have hw0 : ws = [] := List.eq_nil_of_length_eq_zero (by simpa using hwl)
                subst hw0
                exact ⟨V, _, w, Vx.rfl, hv', run_app_room (n := 0) hund hi1 (by omega) (hnews w rfl) (by simp [storeCells]), hs, Nat.le_refl _⟩
              simp only [h1, cond_false] at h
              have h1 : n2 ≠ 0 := by rw [nbeq] at h1; exact of_decide_eq_false h1
              split at h
              · rename_i t0 k' cs hg
                cases hkk : Nat.beq info.size k' && Nat.beq off (a0 * info.size)
                case false => simp [hkk] at h
                simp only [hkk, cond_true] at h
                simp only [Bool.and_eq_true] at hkk
                have e1 := Nat.eq_of_beq_eq_true hkk.1
                have e2 := Nat.eq_of_beq_eq_true hkk.2
                subst e1
                have hkn := hs.kn id t0 info.size cs hg hk0
                cases hin : Nat.ble (off + (len + n2) * info.size) cs.length
                · simp only [hin, cond_false] at h
                  cases hcc : Nat.beq a0 0 && Nat.beq cs.length (len * info.size) && Nat.beq t0 e && Nat.ble ((len + n2) * info.bytes) 140737488355328 && Nat.ble (len + n2) 1000000 && AV.ones news
                  case false => simp [hcc] at h
                  simp only [hcc, cond_true] at h
                  simp only [Bool.and_eq_true, Nat.ble_eq] at hcc
                  obtain ⟨⟨⟨⟨⟨c1, c2⟩, c3⟩, c4⟩, c5⟩, c6⟩ := hcc
                  have c1 := Nat.eq_of_beq_eq_true c1
                  have c2 := Nat.eq_of_beq_eq_true c2
                  have c3 := Nat.eq_of_beq_eq_true c3
                  subst c1
                  subst c3
                  simp only [Nat.zero_mul] at e2
                  subst e2
                  split at h
                  · rename_i q n' hq
                    simp only [Option.some.injEq, Prod.mk.injEq] at h
                    obtain ⟨rfl, rfl⟩ := h
                    have hqn := hs.fresh' hq hn
                    obtain ⟨b', o, h1', h2', h3', vs, rest, h4', rfl, h6', h7'⟩ := hs.live id _ hg
                    rw [hb] at h1'; cases h1'
                    have hvl : vs.length = len * info.size := by rw [h4'.len]; exact c2
                    by_cases hroom : len + n2 ≤ V.κ id
                    · -- there is room
                      have hfull := h7' hk0
                      have hfit : vs.length + ws.length ≤ (vs ++ rest).length := by
                        rw [hfull.1, hvl, hwl, ← Nat.add_mul]; exact Nat.mul_le_mul_right _ hroom
                      have hst := run_storeCells_at P b (len * info.size) t0 ws 0 (vs ++ rest).toArray w h3' (by simp at hfit ⊢; omega) (hws.ones c6)
                      simp only [Nat.add_zero, List.toList_toArray] at hst
                      rw [show (vs ++ rest).take (len * info.size) = vs from by rw [← hvl]; exact List.take_left] at hst
                      have hst' : (storeCells ⟨b, 0 + len * info.size, none⟩ ws).run P w = .ok () (w.setRow b (vs ++ ws ++ List.drop (len * info.size + ws.length) (vs ++ rest)).toArray) := by rw [Nat.zero_add]; exact hst
                      have hrun := run_app_room (ty := ty) (cap := V.κ id - 0) hund hi1 (by omega) (hnews w rfl) hst'
                      have hput := hs.put (x' := .c t0 info.size (cs ++ news)) (o := .cells (vs ++ ws ++ (vs ++ rest).drop (len * info.size + ws.length)).toArray t0 (0, 0)) hg hb
                        ⟨vs ++ ws, (vs ++ rest).drop (len * info.size + ws.length), h4'.append hws, rfl, fun h => by omega, fun _ => ⟨by
                          rw [← hfull.1]
                          simp only [List.length_append, List.length_drop] at hfit ⊢
                          omega, hfull.2⟩⟩
                        (setRow_size w b _) (fun j hj => setRow_ne hj) (setRow_self' h3')
                      rw [← setRow_eq] at hput
                      have hren := hput.rename (x' := .c t0 info.size (cs ++ news)) (nm := nm) (q := q) (n' := n') (by simpa [St.fresh] using hq) hn (by rw [Tr.get_set, if_pos rfl]) hb (setRow_self' h3') (V.κ id)
                        ⟨vs ++ ws, (vs ++ rest).drop (len * info.size + ws.length), (h4'.append hws).mono (Vl.le_add hqn), rfl, fun h => by omega, fun _ => ⟨by
                          simp only [Vl.add, if_true]
                          rw [← hfull.1]
                          simp only [List.length_append, List.length_drop] at hfit ⊢
                          omega, by simp only [Vl.add, if_true]; exact hfull.2⟩⟩
                      refine ⟨V.add q b (V.κ id), _, _, Vx.add hq hqn, ?_, hrun, ?_, (St.fresh_spec hq).2.1⟩
                      · simp only [VR]
                        exact ⟨b, by simp [Vl.add], by simp [Vl.add]; omega, by simp [Vl.add]⟩
                      · refine hren.congr (fun j => ?_) rfl
                        simp only [Tr.get_set]
                        by_cases e1 : j = q
                        · simp [e1]
                        · by_cases e2 : j = id
                          · simp [e2]
                          · simp [e1, e2]
                    · -- it grows
                      have hca : CellsAt w b 0 vs := fun j v hj => by
                        have hlt : j < vs.length := (List.getElem?_eq_some_iff.1 hj).1
                        simp [World.cell?, h3']
                        rw [List.getElem?_append_left hlt]
                        exact hj
                      have hrun := run_app_grow (ty := ty) (cap := V.κ id - 0) (bo := some ⟨b, 0, none⟩) (olds := vs) hund hi1 hi2 (cells_first hvl (hca.same rfl)) (hnews w.drew rfl) (by omega) c4 (by omega)
                      have hge := grownCap_ge w (len + n2) (V.κ id - 0) t0
                      have hcm := grownCap_le_maxLen w (len + n2) (V.κ id - 0) t0 (by simp only [maxLen]; omega)
                      have hd : Sim w0 V ⟨s.h.set id none, s.n⟩ w.drew := (hs.del id).drew
                      have hqn' : ∀ p, nm = some p → V.ρ p = none := hn
                      refine ⟨V.add q w.heap.size (grownCap w (len + n2) (V.κ id - 0) t0), _, _, Vx.add hq hqn, ?_, hrun, hd.alloc (nm := nm) (by simpa [St.fresh] using hq) hn _ ?_, (St.fresh_spec hq).2.1⟩
                      · simp only [VR]
                        exact ⟨w.heap.size, by simp [Vl.add], by simp [Vl.add]; omega, by simp [Vl.add]⟩
                      · refine ⟨vs ++ ws, _, (h4'.append hws).mono (Vl.le_add hqn), rfl, fun h => by omega, fun _ => ⟨?_, ?_⟩⟩
                        · simp only [Vl.add, if_true]
                          rw [List.length_append, List.length_append, hvl, hwl, Array.length_toList, size_zeroCells, hzs, ← Nat.add_mul, ← Nat.add_mul]
                          congr 1; omega
                        · simp only [Vl.add, if_true]; exact hcm
                  · cases h
                · simp only [hin, cond_true] at h
                  have hin : off + (len + n2) * info.size ≤ cs.length := by simpa using hin
                  have hroom : a0 + (len + n2) ≤ V.κ id := by
                    have : (a0 + (len + n2)) * info.size ≤ V.κ id * info.size := by rw [Nat.add_mul, ← e2]; omega
                    exact Nat.le_of_mul_le_mul_right this hk0
                  split at h
                  · rename_i s1 hup
                    simp only [Option.some.injEq, Prod.mk.injEq] at h
                    obtain ⟨rfl, rfl⟩ := h
                    obtain ⟨w', k1, k2, k3⟩ := updA_ok (P := P) hup hs hb hws
                    exact ⟨V, _, w', Vx.rfl, by simp only [VR]; exact ⟨b, hb, hroom, rfl⟩, run_app_room hund hi1 (by omega) (hnews w rfl) k1, k2, by omega⟩
                  · cases h
              · cases h
            · cases h
          · cases h
        · cases h
      · cases h
    · cases h
  · cases h
end
end Go.Fw
