/- Arguments that are structs of numbers, truth values and texts, and are not looked into. Nothing of the program is named here. No condition. -/
import Derived.Test.YtipdjeemjiimbaaEm
import Derived.Test.YtipdjeemjiimbaaDc
set_option linter.unusedVariables false
set_option linter.unusedSimpArgs false
set_option linter.unnecessarySimpa false
namespace Go.Fw
open Go Go.RowKit

def scalT (P : Program) (t : TypeId) : Bool :=
  match P.underlying t with
  | some .bool | some (.int _) | some .string => true
  | _ => false
def scalFs (P : Program) : Nat → List Field → Bool
  | _, [] => true
  | i, f :: fs => Nat.beq f.offset i && Nat.beq (P.cellsOf f.type) 1 && scalT P f.type && scalFs P (i + 1) fs
/-- A struct of so many numbers, truth values and texts. -/
def scalK (P : Program) (t : TypeId) : Option Nat :=
  match P.underlying t with
  | some (.struct fs) => bif scalFs P 0 fs.toList && Nat.beq (P.cellsOf t) fs.size then some fs.size else none
  | _ => none
theorem scalFs_get {P : Program} : ∀ {fs : List Field} {i : Nat}, scalFs P i fs = true → ∀ j f, fs[j]? = some f → f.offset = i + j ∧ P.cellsOf f.type = 1 ∧ scalT P f.type = true
  | [], _, _, j, f, h => by simp at h
  | g :: fs, i, h, j, f, hj => by
    simp only [scalFs, Bool.and_eq_true] at h
    obtain ⟨⟨⟨h1, h2⟩, h3⟩, h4⟩ := h
    cases j with
    | zero => simp at hj; subst hj; exact ⟨Nat.eq_of_beq_eq_true h1, Nat.eq_of_beq_eq_true h2, h3⟩
    | succ j => obtain ⟨k1, k2, k3⟩ := scalFs_get h4 j f (by simpa using hj); exact ⟨by omega, k2, k3⟩
section
open Go.ChangeShapes Go.WideShapes Go.ChangeAt
variable {H : Type} {enc : TypeId × Value → H} {P : Program} {W : World} {base : Nat} {t : TypeId} {v : Value} {d : DataW H} {p : List MemPlace}
theorem arg_scal {n : Nat} (ht : scalK P t = some n) (hv : Value.okWide P W .any base t v) (h : DataW.Trod enc P W 0 (fun _ => true) true t v d p) : ∃ cs, v = .agg (List.toArray cs) ∧ cs.length = n ∧ ∀ c ∈ cs, c.oneCell' = true := by
  unfold scalK at ht
  split at ht
  · rename_i fs hu
    obtain ⟨hc, rfl⟩ := bif_some ht
    simp only [Bool.and_eq_true] at hc
    obtain ⟨c1, c2⟩ := hc
    have c2 := Nat.eq_of_beq_eq_true c2
    obtain ⟨cs, rfl, hsz⟩ := okWide_struct hu hv
    obtain ⟨fuel, hf⟩ := h
    obtain ⟨xs, m, rfl, hx, hl, hlen, hfl⟩ := DataW.trod_struct hu hf
    have hcs : (Value.agg cs).cells.toList = cs.toList := rfl
    rw [hcs] at hl hfl
    refine ⟨cs.toList, by simp, by rw [hl, c2], fun c hc => ?_⟩
    obtain ⟨i, hi, rfl⟩ := List.getElem_of_mem hc
    have hi2 : i < fs.toList.length := by rw [hl, c2] at hi; simpa using hi
    obtain ⟨k1, k2, k3⟩ := scalFs_get c1 i fs.toList[i] (List.getElem?_eq_getElem hi2)
    have k4 := hfl i fs.toList[i] (by simp)
    rw [k1, k2] at k4
    simp only [Nat.zero_add] at k4
    have e1 : (cs.toList.drop i).take 1 = [cs.toList[i]] := by
      rw [List.take_one, List.head?_drop, List.getElem?_eq_getElem hi]
      rfl
    rw [e1] at k4
    rw [List.getElem?_eq_getElem (by rw [hlen]; simpa using hi2)] at k4
    unfold scalT at k3
    split at k3
    · rename_i hu1
      obtain ⟨b, h1, _⟩ := DataW.trod_bool hu1 k4
      simp only [List.cons.injEq, and_true] at h1
      rw [h1]; rfl
    · rename_i kk hu1
      obtain ⟨b, h1, _⟩ := DataW.trod_int hu1 k4
      simp only [List.cons.injEq, and_true] at h1
      rw [h1]; rfl
    · rename_i hu1
      obtain ⟨b, h1, _⟩ := DataW.trod_string hu1 k4
      simp only [List.cons.injEq, and_true] at h1
      rw [h1]; rfl
    · cases k3
  · cases ht
end
/-- So many unknown values. -/
def opq : Nat → Nat → List AV
  | _, 0 => []
  | i, n + 1 => .o i :: opq (i + 1) n
theorem opq_ok {V : Vl} : ∀ (vs : List Value) (i : Nat), (∀ j (h : j < vs.length), V.σ (i + j) = vs[j]) → VRs V (opq i vs.length) vs
  | [], _, _ => VRs.nil
  | v :: vs, i, h => by
    refine VRs.cons (by simp only [VR]; exact (h 0 (by simp)).symm) (opq_ok vs (i + 1) fun j hj => ?_)
    have := h (j + 1) (by simp; omega)
    rw [show i + 1 + j = i + (j + 1) from by omega, this]
    simp
/-- The evaluator's word for a call with one struct that is not looked into. -/
theorem evB_scal {C : Ctx} (hC : COk C) {n g k : Nat} {b : Bool} (h : evB C n g [.agg (opq 0 k)] = some b) {cs : List Value} (hl : cs.length = k) (h1 : ∀ c ∈ cs, c.oneCell' = true) (G : GH) :
    Fc C.P g [.agg cs.toArray] G [] (fun v _ _ => v = .bool b) := by
  subst hl
  refine evB_ok hC h (fun j => (cs[j]?).getD (.bool false)) (fun j => ?_) (VRs.cons ?_ VRs.nil) G
  · cases e : cs[j]? with
    | none => rfl
    | some c => exact h1 c (List.mem_of_getElem? e)
  · simp only [VR]
    exact ⟨cs, opq_ok cs 0 (fun j hj => by simp [hj]), rfl⟩
end Go.Fw
