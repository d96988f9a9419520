/- From the form's reading of an argument to the data of the walks. Nothing of the program is named here. No condition. -/
import Derived.Test.YtipdjeemjiimbaaDt
import Derived.ProofKit
import Derived.SizedLaws
import Derived.Carry
set_option linter.unusedVariables false
set_option linter.unusedSimpArgs false
set_option linter.unnecessarySimpa false
namespace Go.Fw
open Go Go.RowKit

/-- The whole heap, as a part that is only read. -/
def allG (w : World) : GH := fun b => w.heap[b]?

/-- Whatever reads at type t is laid as e says. -/
def Dec {α : Type} (P : Program) (t : TypeId) (e : Enc α) : Prop :=
  ∀ {H : Type} (enc : TypeId × Value → H) (w : World) (fuel : Nat) (cs : List Value) (x : DataW H × List MemPlace),
    DataW.trod enc P w 0 (fun _ => true) true fuel t cs = some x → (∀ n ∈ x.1.weights P t, n ≤ 140737488351232) → ∃ a, e.R (allG w) cs a

theorem dec_str {P : Program} {t : TypeId} (ht : P.underlying t = some .string) : Dec P t eStr := by
  intro H enc w fuel cs x h hw
  obtain ⟨s, rfl, rfl, hs⟩ := DataW.trod_string ht h
  have := hw s.data.toList.length (by simp [DataW.weights])
  exact ⟨⟨s, by simp at this; have e : s.size = s.data.size := rfl; omega⟩, rfl⟩
theorem i64_of_wf {n : Int} (h : (Lit.int .i64 n).wf = true) : i64 n := by
  simp [Lit.wf, IntKind.min, IntKind.max, IntKind.bits, IntKind.signed] at h
  exact ⟨by omega, by omega⟩
theorem dec_int {P : Program} {t : TypeId} (ht : P.underlying t = some (.int .i64)) : Dec P t eInt := by
  intro H enc w fuel cs x h hw
  obtain ⟨n, rfl, rfl, hn⟩ := DataW.trod_int ht h
  exact ⟨n, rfl, i64_of_wf hn⟩

theorem cellsG_of {w : World} {b o n : Nat} {cs : List Value} (h : w.cells? 0 ⟨b, o, none⟩ n = some cs) (hn : 0 < n) : cs.length = n ∧ CellsG (allG w) b o cs := by
  obtain ⟨_, hl, hc⟩ := World.cells?_some h
  refine ⟨hl, ?_⟩
  have h0 : ∀ j, j < cs.length → ∃ v, cs[j]? = some v ∧ w.cell? ⟨b, o + j, none⟩ = some v := fun j hj => by
    have := hc j (by omega)
    rw [Addr.add_lit] at this
    exact ⟨cs[j], List.getElem?_eq_getElem hj, by rw [this, List.getElem?_eq_getElem hj]⟩
  obtain ⟨v0, _, hv0⟩ := h0 0 (by omega)
  cases hb : w.heap[b]? with
  | none => simp [World.cell?, hb] at hv0
  | some ob =>
    cases ob <;> simp [World.cell?, hb] at hv0
    rename_i c T fr
    refine ⟨c, T, fr, hb, fun j hj => ?_⟩
    obtain ⟨v, e1, e2⟩ := h0 j hj
    simp [World.cell?, hb] at e2
    rw [e1, e2]

theorem weightsAll_mem {H : Type} {P : Program} {e : TypeId} : ∀ {l : List (DataW H)} {d : DataW H}, d ∈ l → ∀ n ∈ d.weights P e, n ∈ DataW.weightsAll P e l
  | [], _, h, _, _ => by cases h
  | a :: l, d, h, n, hn => by
    simp only [DataW.weightsAll, List.mem_append]
    rcases List.mem_cons.1 h with rfl | h
    · exact .inl hn
    · exact .inr (weightsAll_mem h n hn)

/-- Whatever reads as a slice of things that are laid as e says. -/
def DecS {α : Type} (P : Program) (t : TypeId) (e : Enc α) : Prop :=
  ∀ {H : Type} (enc : TypeId × Value → H) (w : World) (fuel : Nat) (cs : List Value) (x : DataW H × List MemPlace),
    DataW.trod enc P w 0 (fun _ => true) true fuel t cs = some x → (∀ n ∈ x.1.weights P t, n ≤ 140737488351232) → ∃ v l, cs = [v] ∧ SlR e (allG w) v l
theorem dec_slice {α : Type} {P : Program} {t t' : TypeId} {e : Enc α} (ht : sliceK P t = some t') (hd : Dec P t' e) (hk : P.cellsOf t' = e.k) (hp : 0 < e.k) (hb : bytesK P t' = some e.w) : DecS P t e := by
  intro H enc w fuel cs x h hw
  have hu := sliceK_und ht
  have hbo : P.bytesOf t' = e.w := by
    simp only [bytesK, Option.map_eq_some_iff] at hb
    obtain ⟨i, h1, h2⟩ := hb
    simp [Program.bytesOf, h1, h2]
  rcases DataW.trod_slice hu h with ⟨rfl, rfl⟩ | ⟨a, len, cap, ys, zs, n, hf, rfl, rfl, h1, h2, h3, h4, h5, h6, h7⟩
  · exact ⟨_, [], rfl, SlR.nil⟩
  · have hw2 : (ys.length + zs.length) * e.w ≤ 140737488351232 := by
      have h9 := hw (((ys.map (·.1)).length + (zs.map (·.1)).length) * P.bytesOf t') (by simp [DataW.weights, hu])
      simpa [hbo] using h9
    have hlen : ys.length ≤ 140737488351232 := by
      have h8 : ys.length ≤ (ys.length + zs.length) * e.w := Nat.le_trans (Nat.le_add_right _ zs.length) (Nat.le_mul_of_pos_right _ e.wpos)
      omega
    obtain ⟨b, o, spot⟩ := a
    rw [hk] at h5
    have hspot : 0 < len → spot = none := fun h0 => by
      have h8 := h5 0 h0
      rw [List.getElem?_eq_getElem (by omega), Option.bind_eq_some_iff] at h8
      obtain ⟨cs, h9, h10⟩ := h8
      rw [Nat.zero_mul, Addr.add_zero'] at h9
      obtain ⟨_, hl, hc⟩ := World.cells?_some h9
      have h11 := hc 0 hp
      rw [Addr.add_zero', List.getElem?_eq_getElem (by omega)] at h11
      exact World.cell?_spot h11
    have hel : ∀ i, i < len → ∃ a', ∃ cs, ElemAt (allG w) (.slice (some ⟨b, o, spot⟩) len cap) e.k i cs ∧ e.R (allG w) cs a' := fun i hi => by
      have h8 := h5 i hi
      rw [List.getElem?_eq_getElem (by omega), Option.bind_eq_some_iff] at h8
      obtain ⟨cs, h9, h10⟩ := h8
      obtain ⟨a', ha'⟩ := hd enc w n cs _ h10 (fun m hm => hw m (by
        simp only [DataW.weights, hu, List.mem_cons, List.mem_append]
        exact .inr (.inl (weightsAll_mem (List.mem_map_of_mem (List.getElem_mem (by omega : i < ys.length))) m hm))))
      obtain rfl := hspot (by omega)
      rw [Addr.add_lit] at h9
      obtain ⟨_, h12⟩ := cellsG_of h9 hp
      exact ⟨a', cs, ⟨b, o, len, cap, rfl, h12⟩, ha'⟩
    obtain ⟨l, hl, hL⟩ : ∃ l : List α, l.length = len ∧ ∀ i (h : i < l.length), ∃ cs, ElemAt (allG w) (.slice (some ⟨b, o, spot⟩) len cap) e.k i cs ∧ e.R (allG w) cs l[i] := by
      have key : ∀ m, m ≤ len → ∃ l : List α, l.length = m ∧ ∀ i (h : i < l.length), ∃ cs, ElemAt (allG w) (.slice (some ⟨b, o, spot⟩) len cap) e.k i cs ∧ e.R (allG w) cs l[i] := by
        intro m
        induction m with
        | zero => exact fun _ => ⟨[], rfl, fun i h => absurd h (by simp)⟩
        | succ m ih =>
          intro hm
          obtain ⟨l, h8, h9⟩ := ih (by omega)
          obtain ⟨a', cs, h10, h11⟩ := hel m (by omega)
          refine ⟨l ++ [a'], by simp [h8], fun i h => ?_⟩
          by_cases hi : i < l.length
          · obtain ⟨cs', h12, h13⟩ := h9 i hi
            exact ⟨cs', h12, by rw [List.getElem_append_left hi]; exact h13⟩
          · have : i = m := by simp at h; omega
            subst this
            exact ⟨cs, h10, by rw [List.getElem_append_right (by omega)]; simpa [h8] using h11⟩
      exact key len (Nat.le_refl _)
    have h1' : ys.length = l.length := by omega
    subst hl
    exact ⟨_, l, rfl, some ⟨b, o, spot⟩, cap, rfl, h2, ⟨h3, by rw [Nat.add_mul, h1'] at hw2; omega⟩, (fun h => nomatch h), hL⟩

/-- From the contract of a law to what the form asks. -/
theorem Fc.law {P : Program} {g : FuncId} {vs : List Value} {w : World} (h : Fc P g vs (allG w) [] (fun v _ _ => v = .bool true)) :
    Calls P g vs.toArray w fun e w' => e = .returned (.bool true) ∧ Below w.heap.size w w' := by
  have hw : Real w (fun b => b ∈ (([] : MH).map (·.1))) (allG w) [] w := ⟨rfl, rfl, rfl, Nat.le_refl _, fun _ _ _ => rfl, fun _ _ h => h, (fun _ h => nomatch h), (fun _ h => nomatch h), List.nodup_nil, (fun _ h => nomatch h)⟩
  refine (h.2 w hw).mono ?_
  rintro e w' ⟨v, G', M', rfl, h1, h2, h3, rfl⟩
  exact ⟨rfl, h1.os, h1.tape, h1.output, h1.size, fun k hk => h1.keep k hk (fun h => nomatch h)⟩

/-! ## The arguments of a law -/
section
open Go.ChangeShapes Go.WideShapes Go.ChangeAt
open Go.ChangeMaps (open_string)
variable {H : Type} {enc : TypeId × Value → H} {P : Program} {W : World} {base : Nat} {t t' : TypeId} {v : Value} {d : DataW H} {p : List MemPlace}
theorem arg_int (ht : P.underlying t = some (.int .i64)) (hv : Value.okWide P W .any base t v) (h : DataW.Trod enc P W 0 (fun _ => true) true t v d p) : ∃ n, v = .int .i64 n ∧ i64 n := by
  obtain ⟨x, rfl, _, _, wx⟩ := open_int ht hv h
  exact ⟨x, rfl, i64_of_wf wx⟩
theorem arg_bool (ht : P.underlying t = some .bool) (hv : Value.okWide P W .any base t v) (h : DataW.Trod enc P W 0 (fun _ => true) true t v d p) : ∃ b, v = .bool b := by
  obtain ⟨x, rfl, _⟩ := open_bool ht hv h
  exact ⟨x, rfl⟩
theorem arg_str (ht : P.underlying t = some .string) (hv : Value.okWide P W .any base t v) (h : DataW.Trod enc P W 0 (fun _ => true) true t v d p) (hw : ∀ n ∈ d.weights P t, n ≤ 140737488351232) : ∃ s : Str, v = .string s.b := by
  obtain ⟨s, rfl, rfl, _⟩ := open_string ht hv h
  have := hw s.data.toList.length (by simp [DataW.weights])
  exact ⟨⟨s, by simp at this; have e : s.size = s.data.size := rfl; omega⟩, rfl⟩
theorem arg_slice {α : Type} {e : Enc α} (ht : sliceK P t = some t') (hd : DecS P t e) (hv : Value.okWide P W .any base t v) (h : DataW.Trod enc P W 0 (fun _ => true) true t v d p) (hw : ∀ n ∈ d.weights P t, n ≤ 140737488351232) :
    ∃ l, SlR e (allG W) v l := by
  obtain ⟨a, len, cap, rfl⟩ := okWide_slice (sliceK_und ht) hv
  obtain ⟨fuel, hf⟩ := h
  obtain ⟨v', l, h1, h2⟩ := hd enc W fuel _ _ hf hw
  simp [Value.cells] at h1
  subst h1
  exact ⟨l, h2⟩
theorem arg_agg {α : Type} {e : Enc α} {fs : Array Field} (ht : P.underlying t = some (.struct fs)) (hd : Dec P t e) (hv : Value.okWide P W .any base t v) (h : DataW.Trod enc P W 0 (fun _ => true) true t v d p) (hw : ∀ n ∈ d.weights P t, n ≤ 140737488351232) :
    ∃ cs a, v = .agg (List.toArray cs) ∧ e.R (allG W) cs a := by
  obtain ⟨cs, rfl, _⟩ := okWide_struct ht hv
  obtain ⟨fuel, hf⟩ := h
  obtain ⟨a, h1⟩ := hd enc W fuel _ _ hf hw
  exact ⟨cs.toList, a, by simp, by simpa [Value.cells] using h1⟩
end
end Go.Fw
