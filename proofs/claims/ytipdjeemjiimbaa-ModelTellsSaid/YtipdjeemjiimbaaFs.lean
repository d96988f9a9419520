/- Slices that the call owns: append, length, reading, giving up. Nothing of the program is named here. No condition. -/
import Derived.Test.YtipdjeemjiimbaaFq
import Derived.Lib.AppendZeros
set_option linter.unusedVariables false
set_option linter.unusedSimpArgs false
set_option linter.unnecessarySimpa false
namespace Go.Fw
open Go Go.RowKit

/-- A slice that the call owns: nil, or at the head of a block of its own. -/
def OwnS (T : TypeId) (k : Nat) (v : Value) (n : Nat) (xs : List Value) (Ms : MH) : Prop :=
  xs.length = n * k ∧ ((v = .slice none 0 0 ∧ n = 0 ∧ Ms = []) ∨
    ∃ b cap cur, v = .slice (some ⟨b, 0, none⟩) n cap ∧ n ≤ cap ∧ cap ≤ maxLen ∧ cur.size = cap * k ∧ cur.toList.take (n * k) = xs ∧ Ms = [(b, .cells cur T (0, 0))])
def OwnR {α : Type} (e : Enc α) (T : TypeId) (G : GH) (v : Value) (l : List α) (Ms : MH) : Prop :=
  ∃ css, AllR e G css l ∧ OwnS T e.k v l.length css.flatten Ms ∧ l.length * e.w ≤ 140737488355328

section
variable {α : Type} {e : Enc α} {T : TypeId} {G G' : GH} {v : Value} {l : List α} {Ms : MH}
theorem OwnR.mono (hl : Le G G') (h : OwnR e T G v l Ms) : OwnR e T G' v l Ms := by
  obtain ⟨css, h1, h2⟩ := h
  exact ⟨css, h1.mono hl, h2⟩
theorem OwnR.nil : OwnR e T G (.slice none 0 0) [] [] := ⟨[], trivial, ⟨by simp, .inl ⟨rfl, rfl, rfl⟩⟩, by simp⟩
theorem OwnR.form (h : OwnR e T G v l Ms) : ∃ a c, v = .slice a l.length c := by
  obtain ⟨css, h1, ⟨h2, h3⟩, h4⟩ := h
  rcases h3 with ⟨rfl, hn, _⟩ | ⟨b, cap, cur, rfl, _⟩
  · exact ⟨none, 0, by rw [hn]⟩
  · exact ⟨_, _, rfl⟩
theorem OwnR.bytes (h : OwnR e T G v l Ms) : l.length * e.w ≤ 140737488355328 := by obtain ⟨css, h1, h2, h3⟩ := h; exact h3
theorem OwnR.len47 (h : OwnR e T G v l Ms) : l.length ≤ 140737488355328 := Nat.le_trans (Nat.le_mul_of_pos_right _ e.wpos) h.bytes
end

theorem AllR.append {α : Type} {e : Enc α} {G : GH} : ∀ {c1 : List (List Value)} {l1 : List α} {c2 : List (List Value)} {l2 : List α}, AllR e G c1 l1 → AllR e G c2 l2 → AllR e G (c1 ++ c2) (l1 ++ l2)
  | [], [], _, _, _, h => h
  | _ :: _, _ :: _, _, _, h, h2 => ⟨h.1, AllR.append h.2 h2⟩
theorem AllR.one {α : Type} {e : Enc α} {G : GH} : ∀ {css : List (List Value)} {l : List α}, AllR e G css l → ∀ u ∈ css.flatten, u.oneCell' = true
  | [], [], _, u, hu => by simp at hu
  | cs :: css, a :: l, h, u, hu => by
    simp only [List.flatten_cons, List.mem_append] at hu
    rcases hu with hu | hu
    · exact e.one h.1 u hu
    · exact AllR.one h.2 u hu
theorem AllR.flat_len {α : Type} {e : Enc α} {G : GH} : ∀ {css : List (List Value)} {l : List α}, AllR e G css l → css.flatten.length = l.length * e.k
  | [], [], _ => by simp
  | cs :: css, a :: l, h => by
    simp only [List.flatten_cons, List.length_append, AllR.flat_len h.2, e.len h.1, List.length_cons, Nat.add_mul]
    omega

theorem flatten_get_inv {k : Nat} : ∀ {css : List (List Value)} {j : Nat} {u : Value}, (∀ c ∈ css, c.length = k) → css.flatten[j]? = some u → ∃ i o cs, css[i]? = some cs ∧ cs[o]? = some u ∧ j = i * k + o ∧ o < k
  | [], j, u, _, h => by simp at h
  | c :: css, j, u, hk, h => by
    have h1 := hk c (by simp)
    simp only [List.flatten_cons] at h
    by_cases hj : j < c.length
    · rw [List.getElem?_append_left hj] at h
      exact ⟨0, j, c, rfl, h, by simp, by omega⟩
    · rw [List.getElem?_append_right (by omega)] at h
      obtain ⟨i, o, cs, h2, h3, h4, h5⟩ := flatten_get_inv (fun c hc => hk c (by simp [hc])) h
      exact ⟨i + 1, o, cs, by simpa using h2, h3, by rw [Nat.add_mul]; omega, h5⟩

/-- What a slice that is only read holds, cell by cell. -/
theorem SlR.cells {α : Type} {e : Enc α} {G : GH} {v : Value} {l : List α} (h : SlR e G v l) : ∃ a c css, v = .slice a l.length c ∧ AllR e G css l ∧ (a = none → l = []) ∧
    ∀ (E : Env) (M : MH) (w : World), E.real G M w → ∀ ad, a = some ad → ∀ j u, css.flatten[j]? = some u → w.cell? (ad.add j) = some u := by
  obtain ⟨a, cap, rfl, h1, h2, h3, h4⟩ := h
  have key : ∀ m, m ≤ l.length → ∃ css, AllR e G css (l.take m) ∧ ∀ i cs, css[i]? = some cs → ElemAt G (.slice a l.length cap) e.k i cs := by
    intro m
    induction m with
    | zero => exact fun _ => ⟨[], by simp [AllR], fun i cs h => by simp at h⟩
    | succ m ih =>
      intro hm
      obtain ⟨css, h5, h6⟩ := ih (by omega)
      obtain ⟨cs, h7, h8⟩ := h4 m (by omega)
      refine ⟨css ++ [cs], by rw [List.take_succ_eq_append_getElem (by omega)]; exact h5.append ⟨h8, trivial⟩, fun i c hi => ?_⟩
      have hl : css.length = m := by have := h5.spec.1; simp at this; omega
      by_cases him : i < css.length
      · rw [List.getElem?_append_left him] at hi; exact h6 i c hi
      · rw [List.getElem?_append_right (by omega)] at hi
        have : i = m := by
          rcases Nat.lt_or_ge (i - css.length) 1 with h9 | h9
          · omega
          · rw [List.getElem?_eq_none (by simpa using h9)] at hi; cases hi
        subst this
        simp [hl] at hi
        subst hi
        exact h7
  obtain ⟨css, h5, h6⟩ := key l.length (Nat.le_refl _)
  rw [List.take_length] at h5
  refine ⟨a, cap, css, rfl, h5, fun ha => ?_, fun E M w hr ad had j u hj => ?_⟩
  · subst ha
    have := h3 rfl
    exact List.eq_nil_of_length_eq_zero (by omega)
  · obtain ⟨i, o, cs, h7, h8, rfl, h9⟩ := flatten_get_inv h5.lens hj
    obtain ⟨b, oo, len, cap', h10, h11⟩ := h6 i cs h7
    simp only [Value.slice.injEq] at h10
    obtain ⟨h12, _, _⟩ := h10
    rw [h12] at had
    cases had
    rw [Addr.add_lit]
    have := h11.cell hr h8
    rwa [Nat.add_assoc] at this

section
variable {E : Env} {f : Fr} {G : GH} {M : MH} {ops rest : List Oper} {q : Bool} {K : Kt} {Q : Exit → Kt} {d : Nat} {ty : TypeId} {pos : String} {aft : Array Edge} {t t' : TypeId} {x y : Operand}

theorem Env.real.perm {M' : MH} {w : World} (h : E.real G M w) (hp : M'.Perm M) : E.real G M' w := ⟨h.r.perm hp, h.le, h.nw⟩
theorem Env.real.sub {M' : MH} {w : World} (h : E.real G M w) (hp : M'.Sublist M) : E.real G M' w := ⟨h.r.sub hp, h.le, h.nw⟩

theorem setRow_real0 {w : World} {b : Nat} {cur : Array Value} {L : List Value} {T : TypeId} {B : MH} (hr : E.real G ((b, .cells cur T (0, 0)) :: B) w) : E.real G ((b, .cells L.toArray T (0, 0)) :: B) (w.setRow b L.toArray) := by
  have h1 : nthM ((b, Obj.cells cur T (0, 0)) :: B) 0 = some (b, .cells cur.toList.toArray T (0, 0)) := by simp [nthM]
  exact setRow_real (i := 0) hr h1

/-- What append does to a slice that the call owns. -/
theorem run_app {w : World} {α : Type} {e : Enc α} {ty : TypeId} {bb : Bool} {z : List Value} {v u : Value} {l1 l2 : List α} {Ms B : MH} (ht : sliceK E.P t = some t') (hk : tyK E.P t' = some (bb, e.k)) (hz : zeroK E.P t' = some z) (hzl : z.length = e.k) (hb : bytesK E.P t' = some e.w)
    (ho : OwnR e t' G v l1 Ms) (hu : SlR e G u l2) (hsz : (l1.length + l2.length) * e.w ≤ 140737488355328) (hr : E.real G (Ms ++ B) w) :
    ∃ v' Ms' w', (Builtin.append_ #[t, t] ty #[v, u]).run E.P w = .ok v' w' ∧ OwnR e t' G v' (l1 ++ l2) Ms' ∧ E.real G (Ms' ++ B) w' := by
  obtain ⟨a, c, css2, rfl, hA2, ha0, hcell⟩ := hu.cells
  obtain ⟨css1, hA1, ⟨hxl, hv⟩, hl47⟩ := ho
  have hund := sliceK_und ht
  have hinfo : ∃ info zv, E.P.info? t' = some info ∧ info.zero = some zv ∧ info.size = e.k ∧ info.bytes = e.w ∧ zv.cells.size = e.k := by
    simp only [zeroK, Option.map_eq_some_iff, Option.bind_eq_some_iff] at hz
    obtain ⟨zv, ⟨info, h1, h2⟩, rfl⟩ := hz
    have h3 := tyK_size hk w
    simp [sizeOf, typeInfo, h1] at h3
    simp only [bytesK, h1, Option.map_some, Option.some.injEq] at hb
    exact ⟨info, zv, h1, h2, h3, hb, by simpa using hzl⟩
  obtain ⟨info, zv, hi1, hi2, hi3, hi4, hi5⟩ := hinfo
  have hcss := hA1.append hA2
  have hflat : (css1 ++ css2).flatten = css1.flatten ++ css2.flatten := by simp
  have hn2 : css2.flatten.length = l2.length * info.size := by rw [hA2.flat_len, hi3]
  have htot : l1.length + l2.length ≤ 140737488355328 := Nat.le_trans (Nat.le_mul_of_pos_right _ e.wpos) hsz
  have same : ∀ cap, l2 = [] → l1.length ≤ cap → ∀ base, (Builtin.append_ #[t, t] ty #[.slice base l1.length cap, .slice a l2.length c]).run E.P w = .ok (.slice base l1.length cap) w := fun cap h0 hc base => by
    subst h0
    cases a <;> cases base <;> simp [Builtin.append_, run_underlying hund, sizeOf, typeInfo, hi1, Builtin.lenOf, Builtin.firstCells, loadCells, loadCellsFrom, hc, storeCells]
  have own2 : ∀ v' Ms', OwnS t' e.k v' (l1.length + l2.length) (css1.flatten ++ css2.flatten) Ms' → OwnR e t' G v' (l1 ++ l2) Ms' := fun v' Ms' h => ⟨css1 ++ css2, hcss, by rw [hflat]; simpa using h, by simpa using hsz⟩
  have grown : ∀ old, old < l1.length + l2.length → OwnS t' e.k (.slice (some ⟨w.heap.size, 0, none⟩) (l1.length + l2.length) (grownCap w (l1.length + l2.length) old t')) (l1.length + l2.length) (css1.flatten ++ css2.flatten)
      [(w.heap.size, .cells (css1.flatten.toArray ++ css2.flatten.toArray ++ Builtin.zeroCells zv.cells (grownCap w (l1.length + l2.length) old t' - (l1.length + l2.length))) t' (0, 0))] := fun old _ => by
    have hge := grownCap_ge w (l1.length + l2.length) old t'
    have hcm := grownCap_le_maxLen w (l1.length + l2.length) old t' (by simp only [maxLen]; omega)
    have hxl2 : (css1.flatten ++ css2.flatten).length = (l1.length + l2.length) * e.k := by rw [List.length_append, hxl, hA2.flat_len, Nat.add_mul]
    refine ⟨hxl2, .inr ⟨_, _, _, rfl, hge, hcm, ?_, ?_, rfl⟩⟩
    · simp only [Array.size_append, List.size_toArray, size_zeroCells, hi5]
      rw [hxl, hA2.flat_len, ← Nat.add_mul, ← Nat.add_mul]
      congr 1; omega
    · simp only [Array.toList_append, List.toList_toArray]
      rw [← hxl2]
      exact List.take_left
  have hrB : E.real G B w := hr.sub (List.sublist_append_right _ _)
  have hrnew : ∀ o, E.real G ([(w.heap.size, o)] ++ B) (w.drew.alloc o) := fun o => (hrB.drew).alloc o
  rcases hv with ⟨rfl, hn, rfl⟩ | ⟨b, cap, cur, rfl, h1, h2, h3, h4, rfl⟩
  · have hl1 : l1 = [] := List.eq_nil_of_length_eq_zero hn
    subst hl1
    have hc1 : css1.flatten = [] := List.eq_nil_of_length_eq_zero (by simpa using hxl)
    by_cases h0 : l2 = []
    · subst h0
      exact ⟨_, [], w, same 0 rfl (Nat.le_refl _) none, OwnR.nil, hr⟩
    · cases a with
      | none => exact absurd (ha0 rfl) h0
      | some ad =>
        have hpos : 0 < l2.length := List.length_pos_iff.2 h0
        have hg := grown 0 (by simpa using hpos)
        simp only [List.length_nil, Nat.zero_add, hc1, List.nil_append] at hg hsz
        have hap := run_append_nil (P := E.P) w t ty t' info zv hund hi1 hi2 ad l2.length c css2.flatten hn2 (fun j v hj => hcell E _ w hr ad rfl j v hj) hpos (by omega) (by rw [hi4]; omega)
        refine ⟨_, [(w.heap.size, .cells (css2.flatten.toArray ++ Builtin.zeroCells zv.cells (grownCap w l2.length 0 t' - l2.length)) t' (0, 0))], _, hap, ?_, ?_⟩
        · have h9 := own2 _ _ (by simpa [hc1] using hg)
          simpa using h9
        · have := hrnew (.cells (css2.flatten.toArray ++ Builtin.zeroCells zv.cells (grownCap w l2.length 0 t' - l2.length)) t' (0, 0))
          simpa using this
  · have hb' : w.heap[b]? = some (.cells cur t' (0, 0)) := hr.r.mu (b, .cells cur t' (0, 0)) (by simp)
    have holds : ∀ j u, css1.flatten[j]? = some u → w.cell? ((⟨b, 0, none⟩ : Addr).add j) = some u := fun j u hj => by
      rw [Addr.add_lit, Nat.zero_add]
      rw [← h4, List.getElem?_take] at hj
      split at hj
      · simp [World.cell?, hb']
        simpa using hj
      · cases hj
    by_cases h0 : l2 = []
    · subst h0
      refine ⟨_, [(b, .cells cur t' (0, 0))], w, same cap rfl h1 _, ?_, hr⟩
      have hc2 : css2.flatten = [] := List.eq_nil_of_length_eq_zero (by simpa using hA2.flat_len)
      have := own2 (.slice (some ⟨b, 0, none⟩) l1.length cap) [(b, .cells cur t' (0, 0))] ⟨by rw [hc2]; simpa using hxl, .inr ⟨b, cap, cur, by simp, by simpa using h1, h2, h3, by rw [hc2]; simpa using h4, rfl⟩⟩
      simpa using this
    · cases a with
      | none => exact absurd (ha0 rfl) h0
      | some ad =>
        by_cases hroom : l1.length + l2.length ≤ cap
        · have hfit : l1.length * info.size + css2.flatten.length ≤ cur.size := by rw [hn2, h3, hi3, ← Nat.add_mul]; exact Nat.mul_le_mul_right _ hroom
          have hap := run_append_room (P := E.P) w t ty t' info hund hi1 b l1.length cap cur hb' ad l2.length c css2.flatten hn2 (fun j v hj => hcell E _ w hr ad rfl j v hj) hA2.one hroom hfit
          refine ⟨_, _, _, hap, own2 _ _ ⟨by rw [List.length_append, hxl, hA2.flat_len, Nat.add_mul], .inr ⟨b, cap, _, rfl, hroom, h2, ?_, ?_, rfl⟩⟩, setRow_real0 hr⟩
          · simp only [List.size_toArray, List.length_append, List.length_take, List.length_drop, Array.length_toList]
            omega
          · rw [hi3, h4]
            have hxl2 : (css1.flatten ++ css2.flatten).length = (l1.length + l2.length) * e.k := by rw [List.length_append, hxl, hA2.flat_len, Nat.add_mul]
            simp only [List.toList_toArray]
            rw [← hxl2]
            exact List.take_left
        · have hap := run_append_grow (P := E.P) w t ty t' info zv hund hi1 hi2 ⟨b, 0, none⟩ l1.length cap css1.flatten (by rw [hxl, hi3]) holds ad l2.length c css2.flatten hn2 (fun j v hj => hcell E _ w hr ad rfl j v hj) (by omega) (by omega) (growslice_fits (by omega) (by rw [hi4]; exact hsz))
          exact ⟨_, _, _, hap, own2 _ _ (grown cap (by omega)), hrnew _⟩

/-- append to a slice that the call owns. -/
theorem W.app {α : Type} {e : Enc α} {bb : Bool} {z : List Value} {v u : Value} {l1 l2 : List α} {Ms B : MH} (ht : sliceK E.P t = some t') (hk : tyK E.P t' = some (bb, e.k)) (hz : zeroK E.P t' = some z) (hzl : Nat.beq z.length e.k = true) (hb : bytesK E.P t' = some e.w)
    (hx : ev f x = v) (hy : ev f y = u) (ho : OwnR e t' G v l1 Ms) (hu : SlR e G u l2) (hM : (Ms ++ B).Perm M) (hsz : (l1.length + l2.length) * e.w ≤ 140737488355328)
    (k : ∀ v' Ms', OwnR e t' G v' (l1 ++ l2) Ms' → W E ops.toArray false rest (upd f d v') G (Ms' ++ B) K) (hd : Nat.blt d E.n = true := by rfl) :
    W E ops.toArray false (⟨some d, .call { callee := .builtin .append, args := #[x, y], argTypes := #[t, t] }, ty, pos, aft, none⟩ :: rest) f G M K := by
  intro a w Q hi hr hK
  obtain ⟨v', Ms', w', h1, h2, h3⟩ := run_app (ty := ty) ht hk hz (Nat.eq_of_beq_eq_true hzl) hb ho hu hsz (hr.perm hM)
  have hrun : (execOp (ev f) ⟨some d, .call { callee := .builtin .append, args := #[x, y], argTypes := #[t, t] }, ty, pos, aft, none⟩).run E.P w = .ok (.value v') w' := by
    simp [execOp, resolve, invoke, builtin, hx, hy, h1]
  refine wpList_plain rfl fun K' hK' => ?_
  unfold Oper.wp
  rw [hi.eval, hrun]
  exact hK' _ _ (k v' Ms' h2 _ w' Q (hi.put hd v') h3 hK)

theorem ok_lenO {α : Type} {e : Enc α} {T : TypeId} {v : Value} {l : List α} {Ms : MH} (ht : sliceK E.P t = some t') (ho : OwnR e T G v l Ms) (hx : ev f x = v) :
    Ok E f G M ⟨some d, .call { callee := .builtin .len, args := #[x], argTypes := #[t] }, ty, pos, aft, none⟩ (.int .i64 l.length) := fun _ _ => by
  obtain ⟨a, c, rfl⟩ := ho.form
  simp [execOp, resolve, invoke, builtin, hx, Builtin.len_, run_underlying (sliceK_und ht), goInt]

/-- A slice that the call owns is given up. -/
theorem give_own {α : Type} {e : Enc α} {T : TypeId} {v : Value} {l : List α} {Ms B : MH} (ho : OwnR e T G v l Ms) (hd : ∀ p ∈ Ms, G p.1 = none) : ∃ G', Le G G' ∧ SlR e G' v l ∧ ∀ w, E.real G (Ms ++ B) w → E.real G' B w := by
  obtain ⟨css, h1, ⟨h2, h3⟩, h4⟩ := ho
  rcases h3 with ⟨rfl, hn, rfl⟩ | ⟨b, cap, cur, rfl, h5, h6, h7, h8, rfl⟩
  · have : l = [] := List.eq_nil_of_length_eq_zero hn
    subst this
    exact ⟨G, Le.rfl, SlR.nil, fun w h => h⟩
  · have hg : G b = none := hd (b, .cells cur T (0, 0)) (by simp)
    refine ⟨put G b (.cells cur T (0, 0)), le_put hg, ?_, fun w h => h.give.1⟩
    refine SlR.of_block (put_self _ _ _) (fun i hi => ?_) (h1.mono (le_put hg)) rfl h5 h6 h4
    rw [h2] at hi
    rw [← h8, List.getElem?_take, if_pos hi]
    simp
theorem W.perm {M' : MH} {lo : List Oper} (hs : M'.Perm M) (h : W E ops.toArray false lo f G M' K) : W E ops.toArray false lo f G M K := fun a w Q hi hr hK => h a w Q hi (hr.perm hs) hK
theorem ok_mv : Ok E f G M ⟨some d, .move x, ty, pos, aft, none⟩ (ev f x) := fun _ _ => by simp [execOp]
theorem ok_as : Ok E f G M ⟨some d, .assign x, ty, pos, aft, none⟩ (ev f x) := fun _ _ => by simp [execOp]
theorem W.giveO {α : Type} {e : Enc α} {T : TypeId} {v : Value} {l : List α} {Ms B : MH} {lo : List Oper} (ho : OwnR e T G v l Ms) (hM : (Ms ++ B).Perm M) (k : ∀ G', Le G G' → SlR e G' v l → W E ops.toArray false lo f G' B K) : W E ops.toArray false lo f G M K := by
  intro a w Q hi hr hK
  have hr' := hr.perm hM
  obtain ⟨G', h1, h2, h3⟩ := give_own (E := E) (B := B) ho (fun p hp => hr'.r.dis p (by simp [hp]))
  exact k G' h1 h2 a w Q hi (h3 w hr') hK
theorem WC.giveO {α : Type} {e : Enc α} {T : TypeId} {v : Value} {l : List α} {Ms B : MH} {c : Code} (ho : OwnR e T G v l Ms) (hM : (Ms ++ B).Perm M) (k : ∀ G', Le G G' → SlR e G' v l → WC E c Q f G' B) : WC E c Q f G M := by
  intro a w hi hr
  have hr' := hr.perm hM
  obtain ⟨G', h1, h2, h3⟩ := give_own (E := E) (B := B) ho (fun p hp => hr'.r.dis p (by simp [hp]))
  exact k G' h1 h2 a w hi (h3 w hr')
end

theorem pmC {Ms B X : MH} {p : Nat × Obj} (h : (Ms ++ B).Perm X) : (Ms ++ (p :: B)).Perm (p :: X) := List.perm_middle.trans (h.cons p)
theorem pmA {Ms B X N : MH} (h : (Ms ++ B).Perm X) : (Ms ++ (N ++ B)).Perm (N ++ X) := by
  have h1 : (Ms ++ (N ++ B)).Perm (N ++ (Ms ++ B)) := by
    rw [← List.append_assoc, ← List.append_assoc]; exact List.perm_append_comm.append_right B
  exact h1.trans (h.append_left N)

/-! ### Pieces of slices -/
def sliceV (v : Value) (k lo hi : Nat) : Value :=
  match v with
  | .slice a _ c => .slice (if c = lo then a else a.map (·.add (lo * k))) (hi - lo) (c - lo)
  | v => v
theorem SlR.slice {α : Type} {e : Enc α} {G : GH} {v : Value} {l : List α} (h : SlR e G v l) {lo hi : Nat} (h1 : lo ≤ hi) (h2 : hi ≤ l.length) : SlR e G (sliceV v e.k lo hi) ((l.take hi).drop lo) := by
  obtain ⟨a, c, rfl, h3, ⟨h4, h5⟩, h6, h7⟩ := h
  have hlen : ((l.take hi).drop lo).length = hi - lo := by simp; omega
  refine ⟨if c = lo then a else a.map (·.add (lo * e.k)), c - lo, by rw [hlen]; rfl, by omega, ⟨by omega, Nat.le_trans (Nat.mul_le_mul_right _ (by omega)) h5⟩, fun hn => ?_, fun i hi' => ?_⟩
  · split at hn
    · have := h6 hn; omega
    · cases a with
      | none => have := h6 rfl; omega
      | some a => cases hn
  · rw [hlen] at hi'
    obtain ⟨cs, ⟨b, o, len, cap, h8, h9⟩, h10⟩ := h7 (lo + i) (by omega)
    simp only [Value.slice.injEq] at h8
    obtain ⟨rfl, rfl, rfl⟩ := h8
    refine ⟨cs, ⟨b, o + lo * e.k, hi - lo, c - lo, ?_, ?_⟩, ?_⟩
    · simp only [sliceV]
      rw [if_neg (by omega)]
      simp only [Option.map_some, Addr.add_lit]
    · rw [show o + lo * e.k + i * e.k = o + (lo + i) * e.k from by rw [Nat.add_mul]; omega]; exact h9
    · simpa using h10

def Bnd (f : Fr) (dflt n : Nat) : Option Operand → Prop
  | none => n = dflt
  | some x => ∃ k m, ev f x = .int k m ∧ m = (n : Int)
theorem run_bnd {P : Program} {f : Fr} {x : Operand} {n y : Nat} {code : BoundsCode} (h : Bnd f 0 n (some x)) (hy : n ≤ y) (w : World) : (Instr.sliceBound (ev f x) y code).run P w = .ok n w := by
  obtain ⟨k, m, h1, rfl⟩ := h
  simp [Instr.sliceBound, h1, asIntOf, hy]

section
variable {E : Env} {f : Fr} {G : GH} {M : MH} {ops rest : List Oper} {q : Bool} {K : Kt} {d : Nat} {ty : TypeId} {pos : String} {aft : Array Edge} {t t' : TypeId} {t2 : TypeId} {x y : Operand}
theorem ok_slice {α : Type} {e : Enc α} {l : List α} {v : Value} {bb : Bool} {lo hi : Option Operand} (a b : Nat) (ht : sliceK E.P t = some t') (hk : tyK E.P t' = some (bb, e.k)) (hs : SlR e G v l) (hx : ev f x = v) (hlo : Bnd f 0 a lo) (hhi : Bnd f l.length b hi) (hab : a ≤ b ∧ b ≤ l.length) :
    Ok E f G M ⟨some d, .slice t x lo hi none, ty, pos, aft, none⟩ (sliceV v e.k a b) := fun w _ => by
  obtain ⟨ad, c, rfl, h3, ⟨h4, h5⟩, h6, h7⟩ := hs
  obtain ⟨h1, h2⟩ := hab
  have hb : (Instr.sliceBounds true l.length c (lo.map (ev f)) (hi.map (ev f)) none).run E.P w = .ok (a, b, c) w := by
    cases lo with
    | none =>
      simp only [Bnd] at hlo
      subst hlo
      cases hi with
      | none => simp only [Bnd] at hhi; subst hhi; simp [Instr.sliceBounds]
      | some y =>
        have := run_bnd (P := E.P) (f := f) (x := y) (n := b) (y := c) (code := .sliceAcap) hhi (by omega) w
        simp [Instr.sliceBounds, this]
    | some z =>
      have hz := run_bnd (P := E.P) (f := f) (x := z) (n := a) (y := b) (code := .sliceB) hlo h1 w
      cases hi with
      | none => simp only [Bnd] at hhi; subst hhi; simp [Instr.sliceBounds, hz]
      | some y =>
        have := run_bnd (P := E.P) (f := f) (x := y) (n := b) (y := c) (code := .sliceAcap) hhi (by omega) w
        simp [Instr.sliceBounds, this, hz]
  simp only [execOp, Instr.sliceAt, Instr.slice, Sem.run_bind, run_underlying (sliceK_und ht), Result.andThen_ok, Option.map_none, hx]
  simp [run_underlying (sliceK_und ht), hb, tyK_size hk, sliceV]
/-- What Grow does to nil. -/
theorem ok_capNil (ht : sliceK E.P t = some t') (hx : ev f x = .slice none 0 0) : Ok E f G M ⟨some d, .call { callee := .builtin .cap, args := #[x], argTypes := #[t] }, ty, pos, aft, none⟩ (.int .i64 0) := fun _ _ => by
  simp [execOp, resolve, invoke, builtin, hx, Builtin.cap_, run_underlying (sliceK_und ht), goInt]
theorem ok_sliceNil {n : Nat} {bb : Bool} (ht : sliceK E.P t = some t') (hk : tyK E.P t' = some (bb, n)) (hx : ev f x = .slice none 0 0) (hy : ev f y = .int .i64 0) : Ok E f G M ⟨some d, .slice t x none (some y) none, ty, pos, aft, none⟩ (.slice none 0 0) := fun w _ => by
  have hb : (Instr.sliceBounds true 0 0 none (some (.int .i64 0)) none).run E.P w = .ok (0, 0, 0) w := by
    simp [Instr.sliceBounds, Instr.sliceBound, asIntOf]
  simp only [execOp, Instr.sliceAt, Instr.slice, Sem.run_bind, run_underlying (sliceK_und ht), Result.andThen_ok, Option.map_none, hx]
  simp [run_underlying (sliceK_und ht), hb, tyK_size hk, hy]
theorem ok_slice0 {n len cap : Nat} {bb : Bool} {b : Nat} (ht : sliceK E.P t = some t') (hk : tyK E.P t' = some (bb, n)) (hx : ev f x = .slice (some ⟨b, 0, none⟩) len cap) (hy : ev f y = .int .i64 0) :
    Ok E f G M ⟨some d, .slice t x none (some y) none, ty, pos, aft, none⟩ (.slice (some ⟨b, 0, none⟩) 0 cap) := fun w _ => by
  have hb : (Instr.sliceBounds true len cap none (some (.int .i64 0)) none).run E.P w = .ok (0, 0, cap) w := by
    simp [Instr.sliceBounds, Instr.sliceBound, asIntOf]
  simp only [execOp, Instr.sliceAt, Instr.slice, Sem.run_bind, run_underlying (sliceK_und ht), Result.andThen_ok, Option.map_none, hx]
  simp [run_underlying (sliceK_und ht), hb, tyK_size hk, hy, Addr.add]
theorem W.appMake {α : Type} {e : Enc α} {bb : Bool} {z : List Value} {tn : TypeId} {n : Nat} (ht : sliceK E.P t = some t') (hk : tyK E.P t' = some (bb, e.k)) (hz : zeroK E.P t' = some z) (hzl : Nat.beq z.length e.k = true) (hb : bytesK E.P t' = some e.w) (hn : E.P.underlying tn = some (.int .i64))
    (hx : ev f x = .slice none 0 0) (hy : ev f y = .int .i64 (n : Int)) (h0 : 0 < n) (hsz : n * e.w ≤ 140737488355328) (hkp : Nat.blt 0 e.k = true)
    (k : ∀ b cap Ms, OwnR e t' G (.slice (some ⟨b, 0, none⟩) 0 cap) ([] : List α) Ms → W E ops.toArray false rest (upd f d (.slice (some ⟨b, 0, none⟩) n cap)) G (Ms ++ M) K) (hd : Nat.blt d E.n = true := by rfl) :
    W E ops.toArray false (⟨some d, .call { callee := .builtin .append, args := #[x, y], argTypes := #[t, tn] }, ty, pos, aft, none⟩ :: rest) f G M K := by
  intro a w Q hi hr hK
  have hund := sliceK_und ht
  have hinfo : ∃ info zv, E.P.info? t' = some info ∧ info.zero = some zv ∧ info.size = e.k ∧ info.bytes = e.w ∧ zv.cells.size = e.k := by
    simp only [zeroK, Option.map_eq_some_iff, Option.bind_eq_some_iff] at hz
    obtain ⟨zv, ⟨info, h1, h2⟩, rfl⟩ := hz
    have h3 := tyK_size hk w
    simp [sizeOf, typeInfo, h1] at h3
    simp only [bytesK, h1, Option.map_some, Option.some.injEq] at hb
    exact ⟨info, zv, h1, h2, h3, hb, by simpa using Nat.eq_of_beq_eq_true hzl⟩
  obtain ⟨info, zv, hi1, hi2, hi3, hi4, hi5⟩ := hinfo
  have hw0 := e.wpos
  have hle : n ≤ 140737488355328 := Nat.le_trans (Nat.le_mul_of_pos_right _ hw0) hsz
  have hge := grownCap_ge w n 0 t'
  have hcm := grownCap_le_maxLen w n 0 t' (by simp only [maxLen]; omega)
  have hwrap : IntKind.i64.wrap (n : Int) = n := by simp [IntKind.wrap, IntKind.bits, IntKind.signed]; omega
  obtain ⟨cur, hcur, hrun⟩ : ∃ cur : Array Value, cur.size = grownCap w n 0 t' * e.k ∧ (execOp (ev f) ⟨some d, .call { callee := .builtin .append, args := #[x, y], argTypes := #[t, tn] }, ty, pos, aft, none⟩).run E.P w = .ok (.value (.slice (some ⟨w.heap.size, 0, none⟩) n (grownCap w n 0 t'))) (w.drew.alloc (.cells cur t' (0, 0))) := by
    have hk0 : 0 < e.k := by have := hkp; simp [Nat.blt] at this; omega
    have hap := Lib.run_append_nil_zeros w t tn ty t' info zv .i64 .i64 hund hn hi1 hi2 n h0 (by omega) (by omega) (by rw [hi4]; omega)
    refine ⟨Builtin.zeroCells zv.cells n ++ Builtin.zeroCells zv.cells (grownCap w n 0 t' - n), ?_, ?_⟩
    · simp only [Array.size_append, size_zeroCells, hi5]
      rw [← Nat.add_mul]
      congr 1; omega
    · simp only [execOp, resolve, invoke, builtin, Sem.run_bind, Sem.run_pure, Result.andThen_ok, List.map_toArray, List.map_cons, List.map_nil, hx, hy, hap]
  refine wpList_plain rfl fun K' hK' => ?_
  unfold Oper.wp
  rw [hi.eval, hrun]
  refine hK' _ _ (k _ _ [(w.heap.size, .cells cur t' (0, 0))] ⟨[], trivial, ⟨by simp, .inr ⟨_, _, cur, rfl, by simp, hcm, hcur, by simp, rfl⟩⟩, by simp⟩ _ _ Q (hi.put hd _) ?_ hK)
  exact (hr.drew).alloc _
/-- Is it nil? -/
theorem ok_eqlNil {ad : Option Addr} {n c : Nat} (ht : sliceK E.P t = some t') (hx : ev f x = .slice ad n c) (hy : ev f y = .slice none 0 0) : Ok E f G M ⟨some d, .binOp .eql t x y t2, ty, pos, aft, none⟩ (.bool ad.isNone) := fun w _ => by
  have h : ∀ m, (Op.equalIn (m + 1) t (.slice ad n c) (.slice none 0 0)).run E.P w = .ok ad.isNone w := fun m => by
    cases ad <;> simp [Op.equalIn, run_underlying (sliceK_und ht)]
  have h2 : (binOp .eql t (.slice ad n c) (.slice none 0 0)).run E.P w = .ok (.bool ad.isNone) w := by
    simp only [binOp]
    simp [Op.equal, Op.maxDepth, h 9999]
  simp [execOp, hx, hy, eqGuard, h2]
theorem ok_neqNil {ad : Option Addr} {n c : Nat} (ht : sliceK E.P t = some t') (hx : ev f x = .slice ad n c) (hy : ev f y = .slice none 0 0) : Ok E f G M ⟨some d, .binOp .neq t x y t2, ty, pos, aft, none⟩ (.bool (!ad.isNone)) := fun w _ => by
  have h : ∀ m, (Op.equalIn (m + 1) t (.slice ad n c) (.slice none 0 0)).run E.P w = .ok ad.isNone w := fun m => by
    cases ad <;> simp [Op.equalIn, run_underlying (sliceK_und ht)]
  have h2 : (binOp .neq t (.slice ad n c) (.slice none 0 0)).run E.P w = .ok (.bool (!ad.isNone)) w := by
    simp only [binOp]
    simp [Op.equal, Op.maxDepth, h 9999]
  simp [execOp, hx, hy, eqGuard, h2]
theorem SlR.isNone {α : Type} {e : Enc α} {l : List α} {ad : Option Addr} {n c : Nat} (hs : SlR e G (.slice ad n c) l) (h : ad.isNone = true) : l = [] := by
  obtain ⟨a, cap, h1, h2, h3, h4, h5⟩ := hs
  simp only [Value.slice.injEq] at h1
  obtain ⟨rfl, rfl, rfl⟩ := h1
  cases ad with
  | none => have := h4 rfl; exact List.eq_nil_of_length_eq_zero (by omega)
  | some a => cases h
/-- An empty slice literal: a slice of the call's own. -/
theorem W.lit0 {α : Type} {e : Enc α} {b : Bool} {z : List Value} (ht : sliceK E.P t = some t') (hk : tyK E.P t' = some (b, e.k)) (hz : zeroK E.P t' = some z) (hzl : Nat.beq z.length e.k = true)
    (k : ∀ v Ms, OwnR e t' G v ([] : List α) Ms → W E ops.toArray false rest (upd f d v) G (Ms ++ M) K) (hd : Nat.blt d E.n = true := by rfl) :
    W E ops.toArray false (⟨some d, .buildSlice t 0 #[], ty, pos, aft, none⟩ :: rest) f G M K := by
  refine W.bsl (parts := []) (css := []) ht hk hz rfl rfl rfl (by simp) hzl (fun bl => ?_) hd
  exact k _ [(bl, .cells (List.flatten []).toArray t' (0, 0))] ⟨[], trivial, ⟨by simp, .inr ⟨bl, 0, _, rfl, by simp, by simp [maxLen], by simp, by simp, rfl⟩⟩, by simp⟩
end

/-- Slices as elements. -/
def eSl {α : Type} (e : Enc α) : Enc (List α) where
  k := 1
  w := 24
  R := fun G cs l => ∃ v, cs = [v] ∧ SlR e G v l
  mono := fun hl h => let ⟨v, h1, h2⟩ := h; ⟨v, h1, h2.mono hl⟩
  len := fun h => by obtain ⟨v, rfl, _⟩ := h; rfl
  one := fun h u hu => by obtain ⟨v, rfl, h⟩ := h; simp at hu; subst hu; exact h.one
end Go.Fw
