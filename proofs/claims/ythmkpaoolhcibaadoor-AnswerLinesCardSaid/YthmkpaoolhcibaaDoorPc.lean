/- Numbers as digits: what is asked of a table of the library's, and digits by definition. Nothing of the program is named here. No condition. -/
import Derived.Test.YthmkpaoolhcibaaDoorPb
import Derived.Sort.Grow
import Derived.Lib.LaidTab
set_option linter.unusedVariables false
set_option linter.unusedSimpArgs false
namespace Go.Fw
open Go Go.RowKit

/-- The part that is only read bears the library's table of powers of ten. -/
def TabG (P : Program) (G : GH) : Prop := ∃ g T fr, P.globalNamed "internal/strconv.uint64pow10" = some g ∧ G g = some (.cells (Lib.pow10Tab.map fun z => Value.int .u64 z).toArray T fr)
theorem TabG.mono {P : Program} {G G' : GH} (hl : Le G G') (h : TabG P G) : TabG P G' := by
  obtain ⟨g, T, fr, h1, h2⟩ := h
  exact ⟨g, T, fr, h1, hl _ _ h2⟩
theorem TabG.is {P : Program} {w0 w : World} {own : Nat → Prop} {G : GH} {M : MH} (h : TabG P G) (hr : Real w0 own G M w) : Lib.TabIs P w "internal/strconv.uint64pow10" .u64 Lib.pow10Tab := by
  obtain ⟨g, T, fr, h1, h2⟩ := h
  have h3 := hr.ro _ _ h2
  simp [Lib.TabIs, World.var?, h1, h3]
theorem TabG.of {P : Program} {w : World} (h : Lib.TabIs P w "internal/strconv.uint64pow10" .u64 Lib.pow10Tab) : TabG P (allG w) := by
  unfold Lib.TabIs World.var? at h
  cases hg : P.globalNamed "internal/strconv.uint64pow10" with
  | none => simp [hg] at h
  | some g =>
    simp only [hg, Option.bind_some] at h
    split at h
    · rename_i cs T fr hh
      cases h
      exact ⟨g, T, fr, hg, hh⟩
    · cases h
/-- A function that makes new blocks only. -/
theorem Fc.ofGrow {P : Program} {g : FuncId} {args : List Value} {G : GH} {v : Value} (hc : Callable P g) (h : ∀ w, Real w (fun b => b ∈ (([] : MH).map (·.1))) G [] w → Calls P g args.toArray w fun e w' => e = .returned v ∧ ∃ k os, w' = Go.Sort.grow (w.drewN k) os) :
    Fc P g args G [] (fun v' _ _ => v' = v) := by
  refine ⟨hc, fun w hw => (h w hw).mono ?_⟩
  rintro e w' ⟨rfl, k, os, rfl⟩
  have hk : ∀ n (u : World), (u.drewN n).heap = u.heap ∧ (u.drewN n).os = u.os ∧ (u.drewN n).tape = u.tape ∧ (u.drewN n).output = u.output := fun n u => by
    induction n generalizing u with
    | zero => exact ⟨rfl, rfl, rfl, rfl⟩
    | succ n ih => have := ih u.drew; exact ⟨this.1, this.2.1, this.2.2.1, this.2.2.2⟩
  obtain ⟨k1, k2, k3, k4⟩ := hk k w
  have hg : ∀ b, b < w.heap.size → (Go.Sort.grow (w.drewN k) os).heap[b]? = w.heap[b]? := fun b hb => by
    simp only [Go.Sort.grow, k1]
    rw [Array.getElem?_append_left hb]
  refine ⟨v, G, [], rfl, ⟨k2, k3, k4, ?_, fun b hb _ => hg b hb, fun b o hb => ?_, (fun _ h => nomatch h), (fun _ h => nomatch h), List.nodup_nil, (fun _ h => nomatch h)⟩, Le.rfl, fun b h1 h2 => absurd h1 h2, rfl⟩
  · simp [Go.Sort.grow, k1]
  · rw [hg b (hw.lt hb)]; exact hw.ro b o hb

section
variable {E : Env} {f : Fr} {G : GH} {M : MH} {d : Nat} {ty : TypeId} {pos : String} {aft : Array Edge} {t t' : TypeId} {x y : Operand} {m n : Int}
theorem ok_negI (hx : ev f x = .int .i64 m) (hb : -9223372036854775808 ≤ 0 - m ∧ 0 - m ≤ 9223372036854775807) : Ok E f G M ⟨some d, .unOp .neg t x, ty, pos, aft, none⟩ (.int .i64 (0 - m)) := fun w _ => by
  have h1 := IntWalk.i64_in _ hb
  have h2 : Op.unary .neg (.int .i64 m) = pure (.int .i64 (IntKind.i64.wrap (0 - m))) := rfl
  simp only [execOp, hx, h2, h1]
  rfl
theorem ok_convU8 (ht : E.P.underlying t = some (.int .i64)) (ht' : E.P.underlying t' = some (.int .u8)) (hx : ev f x = .int .i64 m) (hb : 0 ≤ m ∧ m ≤ 255) :
    Ok E f G M ⟨some d, .convert t t' x, ty, pos, aft, none⟩ (.int .u8 m) := fun w _ => by
  have : IntKind.u8.wrap m = m := by simp [IntKind.wrap, IntKind.bits, IntKind.signed]; omega
  simp [execOp, hx, convert, run_underlying ht, run_underlying ht', Conv.intToInt, this]
end

/-! ### Digits -/
def dgB (u : Nat) : UInt8 := UInt8.ofNat (48 + u % 10)
theorem dgB_nat (u : Nat) : (dgB u).toNat = 48 + u % 10 := by
  simp only [dgB, UInt8.toNat_ofNat']
  omega
theorem dec_small {u : Nat} (h : u / 10 = 0) : Lib.decDigits u = [dgB u] := by
  rw [Lib.decDigits, dif_pos (by omega), dgB, Nat.mod_eq_of_lt (by omega)]
theorem dec_big {u : Nat} (h : u / 10 ≠ 0) : Lib.decDigits u = Lib.decDigits (u / 10) ++ [dgB u] := by
  rw [Lib.decDigits, dif_neg (by omega), dgB]
theorem nDig_le : ∀ (k u : Nat), u < 10 ^ (k + 1) → Lib.nDigits u ≤ k + 1
  | 0, u, h => by rw [Lib.nDigits_small (by simpa using h)]; omega
  | k + 1, u, h => by
    by_cases h2 : u < 10
    · rw [Lib.nDigits_small h2]; omega
    · rw [Lib.nDigits_big h2]
      have := nDig_le k (u / 10) (by rw [Nat.pow_succ] at h; omega)
      omega
theorem dec_len {u : Nat} (h : u ≤ 9223372036854775808) : (Lib.decDigits u).length ≤ 19 := by
  rw [Lib.decDigits_length]
  exact nDig_le 18 u (Nat.lt_of_le_of_lt h (by decide))
theorem tmod_abs (m : Int) : (0 ≤ m.tmod 10 → m.tmod 10 = ((m.natAbs % 10 : Nat) : Int)) ∧ (m.tmod 10 < 0 → 0 - m.tmod 10 = ((m.natAbs % 10 : Nat) : Int)) := by
  have h := Int.natAbs_tmod m 10
  have h2 : (10 : Int).natAbs = 10 := rfl
  rw [h2] at h
  omega
theorem tdiv_abs (m : Int) : (m.tdiv 10).natAbs = m.natAbs / 10 := by rw [Int.natAbs_tdiv]; rfl
theorem tdiv_i64 {m : Int} (h : i64 m) : -9223372036854775808 ≤ m.tdiv 10 ∧ m.tdiv 10 ≤ 9223372036854775807 := by
  have := tdiv_abs m
  obtain ⟨h1, h2⟩ := h
  omega
theorem one_add {c : UInt8} {l : List UInt8} (h : l.length + 1 ≤ 140737488355328) : (⟨([c] : List UInt8).toArray⟩ : ByteArray) ++ (mkStr l).b = (mkStr (c :: l)).b := by
  rw [mkStr_b (by omega), b_add, mkStr_b (by simpa using h)]; rfl
theorem b_add_neg {l : List UInt8} (h : l.length + 1 ≤ 140737488355328) : (⟨#[45]⟩ : ByteArray) ++ (mkStr l).b = (mkStr (45 :: l)).b := one_add h
def DecI (n m : Int) (ds : List UInt8) : Prop := Lib.decDigits n.natAbs = Lib.decDigits m.natAbs ++ ds ∧ i64 m ∧ ds.length ≤ 20
theorem DecI.step {n m : Int} {ds : List UInt8} (hn : i64 n) (h : DecI n m ds ∨ m = n ∧ ds = []) (h0 : m.tdiv 10 ≠ 0) : DecI n (m.tdiv 10) (dgB m.natAbs :: ds) := by
  have h1 := tdiv_abs m
  have key : ∀ ds', Lib.decDigits n.natAbs = Lib.decDigits m.natAbs ++ ds' → i64 m → DecI n (m.tdiv 10) (dgB m.natAbs :: ds') := fun ds' e hm => by
    have h2 := dec_big (u := m.natAbs) (by omega)
    rw [h2] at e
    refine ⟨by rw [h1, e]; simp, tdiv_i64 hm, ?_⟩
    have h3 := congrArg List.length e
    have h4 := dec_len (u := n.natAbs) (by obtain ⟨a, b⟩ := hn; omega)
    simp at h3 ⊢; omega
  rcases h with ⟨e, hm, hl⟩ | ⟨rfl, rfl⟩
  · exact key ds e hm
  · exact key [] (by simp) hn
theorem DecI.last {n m : Int} {ds : List UInt8} (h : DecI n m ds ∨ m = n ∧ ds = []) (h0 : m.tdiv 10 = 0) : Lib.decDigits n.natAbs = dgB m.natAbs :: ds := by
  have h1 := tdiv_abs m
  have h2 := dec_small (u := m.natAbs) (by omega)
  rcases h with ⟨e, _⟩ | ⟨rfl, rfl⟩
  · rw [e, h2]; rfl
  · exact h2
theorem itoa_neg {n : Int} (h : n < 0) : Lib.itoa n = 45 :: Lib.decDigits n.natAbs := by rw [Lib.itoa, if_pos h]
theorem itoa_pos {n : Int} (h : ¬ n < 0) : Lib.itoa n = Lib.decDigits n.natAbs := by rw [Lib.itoa, if_neg h, show n.toNat = n.natAbs by omega]
theorem itoa_len {n : Int} (h : i64 n) : (Lib.itoa n).length ≤ 20 := by
  have := dec_len (u := n.natAbs) (by obtain ⟨a, b⟩ := h; omega)
  by_cases h1 : n < 0
  · rw [itoa_neg h1]; simp; omega
  · rw [itoa_pos h1]; omega
theorem decN_le {n : Int} (h : i64 n) : (decN n).l.length ≤ 20 := Nat.le_trans (mkStr_le _) (itoa_len h)
end Go.Fw
