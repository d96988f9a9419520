/- What a call may be lent: objects that it only reads; nodes in boxes of their own behind an arena's slots. Nothing of the program is named here. No condition. -/
import Derived.Test.YtemoalimclnfkaaGreatQiRd
set_option linter.unusedVariables false
set_option linter.unusedSimpArgs false
set_option linter.unnecessarySimpa false
set_option maxRecDepth 100000
set_option maxHeartbeats 1600000
namespace Go.Fw
open Go Go.RowKit
/-! ## Lending -/
theorem putAll_in : ∀ {M : MH} {G : GH} {b : Nat} {o : Obj}, (∀ p ∈ M, p.1 ≠ b) → putAll G M b = G b
  | [], _, _, _, _ => rfl
  | p :: M, G, b, o, h => by
    have h1 : ¬ b = p.1 := fun e => h p (by simp) e.symm
    show (if b = p.1 then some p.2 else putAll G M b) = _
    rw [if_neg h1]
    exact putAll_in (o := o) fun q hq => h q (by simp [hq])
theorem putAll_mem : ∀ {M : MH} {G : GH}, (M.map (·.1)).Nodup → ∀ p ∈ M, putAll G M p.1 = some p.2
  | q :: M, G, hn, p, hp => by
    rw [List.map_cons, List.nodup_cons] at hn
    show (if p.1 = q.1 then some q.2 else putAll G M p.1) = _
    rcases List.mem_cons.1 hp with rfl | hp
    · rw [if_pos rfl]
    · rw [if_neg fun e : p.1 = q.1 => hn.1 (e ▸ List.mem_map_of_mem (f := Prod.fst) hp)]
      exact putAll_mem hn.2 p hp
theorem putAll_le {M : MH} {G : GH} (h : ∀ p ∈ M, G p.1 = none) : Le G (putAll G M) := fun b o hb => by
  rw [putAll_in (o := o) fun p hp e => by rw [← e, h p hp] at hb; cases hb]
  exact hb
theorem putAll_or : ∀ {M : MH} {G : GH} {b : Nat} {o : Obj}, putAll G M b = some o → G b = some o ∨ ∃ p ∈ M, p.1 = b ∧ p.2 = o
  | [], _, _, _, h => .inl h
  | q :: M, G, b, o, h => by
    have h : (if b = q.1 then some q.2 else putAll G M b) = some o := h
    by_cases e : b = q.1
    · rw [if_pos e] at h; cases h
      exact .inr ⟨q, by simp, e.symm, rfl⟩
    · rw [if_neg e] at h
      rcases putAll_or h with h | ⟨p, hp, h1, h2⟩
      · exact .inl h
      · exact .inr ⟨p, by simp [hp], h1, h2⟩
theorem putAll_none {M : MH} {G : GH} {b : Nat} (h : G b = none) (hb : ∀ p ∈ M, p.1 ≠ b) : putAll G M b = none := by
  cases hg : putAll G M b with
  | none => rfl
  | some o =>
    rcases putAll_or hg with h2 | ⟨p, hp, h1, _⟩
    · rw [h] at h2; cases h2
    · exact absurd h1 (hb p hp)
theorem Fc.lend {P : Program} {g : FuncId} {vs : List Value} {G : GH} {Ml Mp : MH} {Q : Value → MH → Prop}
    (hn : Callable P g) (hc : ∀ G1, Le G G1 → (∀ p ∈ Ml, G1 p.1 = some p.2) → Fc P g vs G1 Mp (fun v _ M' => Q v M')) :
    Fc P g vs G (Ml ++ Mp) (fun v _ M' => ∃ Mq, M' = Ml ++ Mq ∧ Q v Mq) := by
  refine ⟨hn, fun w hw => ?_⟩
  have hnd := hw.nd
  simp only [List.map_append, List.nodup_append] at hnd
  obtain ⟨n1, n2, n3⟩ := hnd
  have hle : Le G (putAll G Ml) := putAll_le fun p hp => hw.dis p (by simp [hp])
  have hmem := putAll_mem (G := G) n1
  have hw2 : Real w (fun b => b ∈ Mp.map (·.1)) (putAll G Ml) Mp w := by
    refine ⟨rfl, rfl, rfl, Nat.le_refl _, fun _ _ _ => rfl, fun b o hb => ?_, fun p hp => hw.mu p (by simp [hp]), fun p hp => ?_, n2, fun p hp => .inr (List.mem_map_of_mem hp)⟩
    · rcases putAll_or hb with h | ⟨p, hp, rfl, rfl⟩
      · exact hw.ro b o h
      · exact hw.mu p (by simp [hp])
    · exact putAll_none (hw.dis p (by simp [hp])) fun q hq e => n3 q.1 (List.mem_map_of_mem hq) p.1 (List.mem_map_of_mem hp) e
  refine ((hc _ hle hmem).2 w hw2).mono ?_
  rintro e w' ⟨v, G', M', rfl, h2, h3, h4, h5⟩
  have hlo : ∀ p ∈ M', w.heap.size ≤ p.1 ∨ p.1 ∈ Mp.map (·.1) := h2.lo
  refine ⟨v, G, Ml ++ M', rfl, ⟨h2.os, h2.tape, h2.output, h2.size, ?_, ?_, ?_, ?_, ?_, ?_⟩, Le.rfl, fun b h1 h => absurd h1 h, M', rfl, h5⟩
  · intro b hb ho
    exact h2.keep b hb fun hm => ho (by rw [List.map_append]; exact List.mem_append_right _ hm)
  · intro b o hb; exact h2.ro b o (h3 b o (hle b o hb))
  · intro p hp
    rcases List.mem_append.1 hp with hp | hp
    · exact h2.ro _ _ (h3 _ _ (hmem p hp))
    · exact h2.mu p hp
  · intro p hp
    rcases List.mem_append.1 hp with hp | hp
    · exact hw.dis p (by simp [hp])
    · have := h2.dis p hp
      cases hg : G p.1 with
      | none => rfl
      | some o => rw [h3 _ _ (hle _ _ hg)] at this; cases this
  · rw [List.map_append, List.nodup_append]
    refine ⟨n1, h2.nd, fun a ha b hb e => ?_⟩
    subst e
    obtain ⟨p, hp, rfl⟩ := List.mem_map.1 ha
    obtain ⟨q, hq, e⟩ := List.mem_map.1 hb
    have h6 := h2.dis q hq
    rw [e, h3 _ _ (hmem p hp)] at h6; cases h6
  · intro p hp
    rcases List.mem_append.1 hp with hp | hp
    · exact .inr (List.mem_map_of_mem (by simp [hp]))
    · rcases hlo p hp with h | h
      · exact .inl h
      · right; rw [List.map_append]; exact List.mem_append_right _ h
theorem OwnR.lent {α : Type} {e : Enc α} {T : TypeId} {G G1 : GH} {v : Value} {l : List α} {Ms : MH} (ho : OwnR e T G v l Ms) (hl : Le G G1) (hm : ∀ p ∈ Ms, G1 p.1 = some p.2) : SlR e G1 v l := by
  obtain ⟨css, h1, ⟨h2, h3⟩, h4⟩ := ho
  rcases h3 with ⟨rfl, hn, rfl⟩ | ⟨b, cap, cur, rfl, h5, h6, h7, h8, rfl⟩
  · have : l = [] := List.eq_nil_of_length_eq_zero hn
    subst this
    exact SlR.nil
  · refine SlR.of_block (hm (b, .cells cur T (0, 0)) (by simp)) (fun i hi => ?_) (h1.mono hl) rfl h5 h6 h4
    rw [h2] at hi
    rw [← h8, List.getElem?_take, if_pos hi]
    simp
theorem cellsG_at {G : GH} {b : Nat} {L : List Value} {T : TypeId} {fr : Nat × Nat} (h : G b = some (.cells L.toArray T fr)) : CellsG G b 0 L := ⟨_, _, _, h, fun j hj => by simp⟩
theorem CellsG.drop {G : GH} {b : Nat} {cs : List Value} (h : CellsG G b 0 cs) (o : Nat) : CellsG G b o (cs.drop o) := by
  obtain ⟨c, T, fr, h1, h2⟩ := h
  refine ⟨c, T, fr, h1, fun j hj => ?_⟩
  rw [List.length_drop] at hj
  have := h2 (o + j) (by omega)
  rw [Nat.zero_add] at this
  rw [this, List.getElem?_drop]
theorem in_of {M : MH} {G : GH} {i b : Nat} {o : Obj} (h : ∀ p ∈ M, G p.1 = some p.2) (hm : nthM M i = some (b, o)) : G b = some o := h _ (nthM_mem hm)
theorem sub_of {A M : MH} {G : GH} (hs : A.Sublist M) (h : ∀ p ∈ M, G p.1 = some p.2) : ∀ p ∈ A, G p.1 = some p.2 := fun p hp => h p (hs.subset hp)
section
variable {E : Env} {Q : Exit → Kt} {f : Fr} {G : GH} {M : MH} {ops rest : List Oper} {q : Bool} {K : Kt} {d : Nat} {ty : TypeId} {pos : String} {aft : Array Edge}
theorem W.lendQ {g : FuncId} {args : List Operand} {at' : Array TypeId} {vs : List Value} {v : Value} (hc : ∀ G1, Le G G1 → (∀ p ∈ M, G1 p.1 = some p.2) → Fc E.P g vs G1 [] (fun v' _ _ => v' = v)) (hn : Callable E.P g) (ha : args.map (ev f) = vs)
    (k : W E ops.toArray q rest (upd f d v) G M K) (hd : Nat.blt d E.n = true := by rfl) :
    W E ops.toArray q (⟨some d, .call { callee := .value (.func g), args := args.toArray, argTypes := at' }, ty, pos, aft, none⟩ :: rest) f G M K := by
  have hL : Fc E.P g vs G (M ++ []) (fun v' _ M' => ∃ Mq, M' = M ++ Mq ∧ (v' = v ∧ Mq = [])) := Fc.lend (Q := fun v' M' => v' = v ∧ M' = []) hn fun G1 h1 h2 => by
    obtain ⟨c1, c2⟩ := hc G1 h1 h2
    refine ⟨c1, fun w hw => (c2 w hw).mono ?_⟩
    rintro e w' ⟨v', G', M', a1, a2, a3, a4, a5⟩
    exact ⟨v', G', [], a1, a2.sub (List.nil_sublist _), a3, a4, a5, rfl⟩
  rw [List.append_nil] at hL
  have hrun : ∀ w, (execOp (ev f) ⟨some d, .call { callee := .value (.func g), args := args.toArray, argTypes := at' }, ty, pos, aft, none⟩).run E.P w = .ok (.enter g vs.toArray) w := fun w => by
    simp [execOp, resolve, invoke, ev, Deferred.ofValue, ha, hn _ w]
  have hcall : ∀ w, E.real G M w → Calls E.P g vs.toArray w fun e w' => e = .returned v ∧ E.real G M w' := fun w hr => by
    have hw : Real w (fun b => b ∈ M.map (·.1)) G M w := ⟨rfl, rfl, rfl, Nat.le_refl _, fun _ _ _ => rfl, hr.r.ro, hr.r.mu, hr.r.dis, hr.r.nd, fun p hp => .inr (List.mem_map_of_mem hp)⟩
    refine (hL.2 w hw).mono ?_
    rintro e w' ⟨v', G', M', rfl, h2, h3, h4, Mq, e5, rfl, rfl⟩
    rw [List.append_nil] at e5; subst e5
    have h5 := Real.call (Mp := M') (Mr := []) (by rw [List.append_nil]; exact hr.r) h2 h4
    rw [List.append_nil] at h5
    refine ⟨rfl, Env.real.anti (G' := G') ⟨h5, hr.le.trans h3, ?_⟩ h3 hr.le⟩
    intro b hb hb'
    cases hg : G b with
    | none =>
      rcases h4 b hg hb' with h7 | h7
      · exact .inl (Nat.le_trans hr.r.size h7)
      · obtain ⟨p, hp, e⟩ := List.mem_map.1 h7
        rcases hr.r.lo p hp with h8 | h8
        · exact .inl (e ▸ h8)
        · exact .inr (e ▸ h8)
    | some o => exact hr.nw b hb (by simp [hg])
  cases q
  · intro a w Q hi hr hK
    refine wpList_plain rfl fun K' hK' => ?_
    unfold Oper.wp
    rw [hi.eval, hrun w]
    refine (hcall w hr).mono ?_
    rintro e w' ⟨rfl, h⟩
    exact hK' _ _ (k _ w' Q (hi.put hd v) h hK)
  · intro a hi
    refine wpQuiet_step fun K' hK' => ?_
    rw [if_pos (by rfl)]
    refine ⟨v, fun w hr => ?_, hK' _ (k _ (hi.put hd v))⟩
    unfold Oper.quietAt
    rw [hi.eval, hrun w]
    exact ⟨rfl, hcall w hr⟩
theorem W.lendO {g : FuncId} {args : List Operand} {at' : Array TypeId} {vs : List Value} {R : Value → MH → Prop} (hc : ∀ G1, Le G G1 → (∀ p ∈ M, G1 p.1 = some p.2) → Fc E.P g vs G1 [] (fun v' _ M' => R v' M')) (hn : Callable E.P g) (ha : args.map (ev f) = vs)
    (k : ∀ v' G' Mq, Le G G' → R v' Mq → W E ops.toArray false rest (upd f d v') G' (M ++ Mq) K) (hd : Nat.blt d E.n = true := by rfl) :
    W E ops.toArray false (⟨some d, .call { callee := .value (.func g), args := args.toArray, argTypes := at' }, ty, pos, aft, none⟩ :: rest) f G M K := by
  refine W.call (Mp := M ++ []) (Mr := []) (Fc.lend (Q := R) hn hc) ha (by simp) ?_ hd
  rintro v' G' M' hl ⟨Mq, rfl, h⟩
  have := k v' G' Mq hl h
  simpa using this
end
theorem mem_nthM : ∀ {M : MH} {p : Nat × Obj}, p ∈ M → ∃ i, nthM M i = some p
  | q :: M, p, h => by
    rcases List.mem_cons.1 h with rfl | h
    · exact ⟨0, rfl⟩
    · obtain ⟨i, hi⟩ := mem_nthM h
      exact ⟨i + 1, hi⟩
theorem ok_loadM {E : Env} {f : Fr} {G : GH} {M : MH} {d : Nat} {ty t : TypeId} {pos : String} {aft : Array Edge} {x : Operand} {b o : Nat} {L vs : List Value} {T : TypeId} {bb : Bool} {j : Nat} (hm : (b, Obj.cells L.toArray T (0, 0)) ∈ M) (ht : tyK E.P t = some (bb, j)) (hx : ev f x = .pointer (some ⟨b, o, none⟩))
    (hv : (L.drop o).take j = vs) (hl : vs.length = j) (hb : bb = false → j = 1) : Ok E f G M ⟨some d, .load t x, ty, pos, aft, none⟩ (mkV bb vs) := by
  obtain ⟨i, hi⟩ := mem_nthM hm
  exact ok_loadB (i := i) ht hx hi hv hl hb
/-! ## Pointers -/
def ePt : Enc (Option Nat) where
  k := 1
  w := 8
  R := fun _ cs o => cs = [.pointer (o.map fun b => ⟨b, 0, none⟩)]
  mono := fun _ h => h
  len := fun h => by rw [h]; rfl
  one := fun h u hu => by rw [h] at hu; simp at hu; subst hu; rfl
instance : EqE ePt (fun o => [.pointer (o.map fun b => ⟨b, 0, none⟩)]) := ⟨fun _ _ _ h => h⟩
def FlatE {α : Type} (e : Enc α) : Prop := ∀ G G' cs a, e.R G cs a → e.R G' cs a
theorem FlatE.all {α : Type} {e : Enc α} (he : FlatE e) {G G' : GH} : ∀ {css : List (List Value)} {l : List α}, AllR e G css l → AllR e G' css l
  | [], [], _ => trivial
  | _ :: _, _ :: _, h => ⟨he _ _ _ _ h.1, FlatE.all he h.2⟩
  | [], _ :: _, h => h.elim
  | _ :: _, [], h => h.elim
theorem FlatE.own {α : Type} {e : Enc α} (he : FlatE e) {T : TypeId} {G G' : GH} {v : Value} {l : List α} {Ms : MH} (h : OwnR e T G v l Ms) : OwnR e T G' v l Ms := by
  obtain ⟨css, h1, h2⟩ := h
  exact ⟨css, he.all h1, h2⟩
theorem flat_pt : FlatE ePt := fun _ _ _ _ h => h
theorem flat_pair : FlatE ePair := fun _ _ _ _ h => h
theorem flat_str : FlatE eStr := fun _ _ _ _ h => h
theorem flat_int : FlatE eInt := fun _ _ _ _ h => h
/-! ## Nodes in boxes -/
structure BNd where
  slot : Int
  lvl : Int
  P : List Str
  K : List Int
  R : List Pair
def BoxM (Tn Ts : TypeId) (b : Nat) (n : BNd) (G : GH) (Ms : MH) : Prop := ∃ vp vk vr Mp, Ms = (b, .cells (List.toArray [.int .i64 n.lvl, vp, vk, vr]) Tn (0, 0)) :: Mp ∧ OwnR eStr Ts G vp n.P Mp ∧ SlR eInt G vk n.K ∧ SlR ePair G vr n.R
def BoxG (b : Nat) (n : BNd) (G : GH) : Prop := ∃ vp vk vr, CellsG G b 0 [.int .i64 n.lvl, vp, vk, vr] ∧ SlR eStr G vp n.P ∧ SlR eInt G vk n.K ∧ SlR ePair G vr n.R
def Blk (cells : List (Option Nat)) (s : Int) (b : Nat) : Prop := 0 ≤ s ∧ cells[s.toNat]? = some (some b)
def NdM (Tn Ts : TypeId) (cells : List (Option Nat)) (n : BNd) (G : GH) (Ms : MH) : Prop := ∃ b, Blk cells n.slot b ∧ BoxM Tn Ts b n G Ms
def NdG (cells : List (Option Nat)) (n : BNd) (G : GH) : Prop := ∃ b, Blk cells n.slot b ∧ BoxG b n G
def NsM (Tn Ts : TypeId) (cells : List (Option Nat)) : List BNd → GH → MH → Prop
  | [], _, Ms => Ms = []
  | n :: l, G, Ms => ∃ A B, Ms = A ++ B ∧ NdM Tn Ts cells n G A ∧ NsM Tn Ts cells l G B
def NsG (cells : List (Option Nat)) (l : List BNd) (G : GH) : Prop := ∀ n ∈ l, NdG cells n G
section
variable {Tn Ts : TypeId} {cells cells' : List (Option Nat)} {G G' : GH}
theorem BoxM.mono {b : Nat} {n : BNd} {Ms : MH} (hl : Le G G') (h : BoxM Tn Ts b n G Ms) : BoxM Tn Ts b n G' Ms := by
  obtain ⟨vp, vk, vr, Mp, h1, h2, h3, h4⟩ := h
  exact ⟨vp, vk, vr, Mp, h1, h2.mono hl, h3.mono hl, h4.mono hl⟩
theorem BoxM.lent {b : Nat} {n : BNd} {Ms : MH} (h : BoxM Tn Ts b n G Ms) (hl : Le G G') (hm : ∀ p ∈ Ms, G' p.1 = some p.2) : BoxG b n G' := by
  obtain ⟨vp, vk, vr, Mp, rfl, h2, h3, h4⟩ := h
  exact ⟨vp, vk, vr, cellsG_at (hm _ (List.mem_cons_self ..)), h2.lent hl fun p hp => hm p (List.mem_cons_of_mem _ hp), h3.mono hl, h4.mono hl⟩
theorem BoxG.mono {b : Nat} {n : BNd} (hl : Le G G') (h : BoxG b n G) : BoxG b n G' := by
  obtain ⟨vp, vk, vr, h1, h2, h3, h4⟩ := h
  exact ⟨vp, vk, vr, h1.mono hl, h2.mono hl, h3.mono hl, h4.mono hl⟩
theorem NdM.mono {n : BNd} {Ms : MH} (hl : Le G G') (h : NdM Tn Ts cells n G Ms) : NdM Tn Ts cells n G' Ms := by
  obtain ⟨b, h1, h2⟩ := h
  exact ⟨b, h1, h2.mono hl⟩
theorem NsM.mono (hl : Le G G') : ∀ {l : List BNd} {Ms : MH}, NsM Tn Ts cells l G Ms → NsM Tn Ts cells l G' Ms
  | [], _, h => h
  | _ :: _, _, ⟨A, B, e, h1, h2⟩ => ⟨A, B, e, h1.mono hl, NsM.mono hl h2⟩
theorem NsG.mono (hl : Le G G') {l : List BNd} (h : NsG cells l G) : NsG cells l G' := fun n hn => by
  obtain ⟨b, h1, h2⟩ := h n hn
  exact ⟨b, h1, h2.mono hl⟩
theorem NsM.lent (hl : Le G G') : ∀ {l : List BNd} {Ms : MH}, NsM Tn Ts cells l G Ms → (∀ p ∈ Ms, G' p.1 = some p.2) → NsG cells l G'
  | [], _, _, _ => fun n hn => by cases hn
  | n :: l, _, ⟨A, B, rfl, ⟨b, h1, h2⟩, h3⟩, hm => fun m hmem => by
    rcases List.mem_cons.1 hmem with rfl | hmem
    · exact ⟨b, h1, h2.lent hl fun p hp => hm p (by simp [hp])⟩
    · exact NsM.lent hl h3 (fun p hp => hm p (by simp [hp])) m hmem
theorem NsM.app : ∀ {l1 l2 : List BNd} {Ms : MH}, NsM Tn Ts cells (l1 ++ l2) G Ms ↔ ∃ A B, Ms = A ++ B ∧ NsM Tn Ts cells l1 G A ∧ NsM Tn Ts cells l2 G B
  | [], l2, Ms => ⟨fun h => ⟨[], Ms, rfl, rfl, h⟩, fun ⟨A, B, e, h1, h2⟩ => by
      have h1 : A = [] := h1
      subst h1; subst e; exact h2⟩
  | n :: l1, l2, Ms => by
    constructor
    · rintro ⟨A, B, rfl, h1, h2⟩
      obtain ⟨C, D, rfl, h3, h4⟩ := NsM.app.1 h2
      exact ⟨A ++ C, D, by simp, ⟨A, C, rfl, h1, h3⟩, h4⟩
    · rintro ⟨A, B, rfl, ⟨C, D, rfl, h1, h2⟩, h3⟩
      exact ⟨C, D ++ B, by simp, h1, NsM.app.2 ⟨D, B, rfl, h2, h3⟩⟩
theorem NsM.perm {l l' : List BNd} (hp : l.Perm l') : ∀ {Ms : MH}, NsM Tn Ts cells l G Ms → ∃ Ms', Ms'.Perm Ms ∧ NsM Tn Ts cells l' G Ms' := by
  induction hp with
  | nil => exact fun {Ms} h => ⟨Ms, List.Perm.refl _, h⟩
  | cons n hp ih =>
    rintro Ms ⟨A, B, rfl, h1, h2⟩
    obtain ⟨B', h3, h4⟩ := ih h2
    exact ⟨A ++ B', List.Perm.append_left _ h3, A, B', rfl, h1, h4⟩
  | swap n m l =>
    rintro Ms ⟨A, B, rfl, h1, C, D, rfl, h2, h3⟩
    refine ⟨C ++ (A ++ D), ?_, C, A ++ D, rfl, h2, A, D, rfl, h1, h3⟩
    rw [← List.append_assoc, ← List.append_assoc]
    exact List.Perm.append_right _ List.perm_append_comm
  | trans _ _ ih1 ih2 =>
    rintro Ms h
    obtain ⟨M1, h1, h2⟩ := ih1 h
    obtain ⟨M2, h3, h4⟩ := ih2 h2
    exact ⟨M2, h3.trans h1, h4⟩
theorem Blk.agree {s : Int} {b : Nat} (h : Blk cells s b) (ha : cells'[s.toNat]? = cells[s.toNat]?) : Blk cells' s b := ⟨h.1, ha.trans h.2⟩
theorem Blk.one {s : Int} {b c : Nat} (h : Blk cells s b) (h2 : Blk cells s c) : b = c := by
  have := h.2.symm.trans h2.2; simpa using this
theorem NsM.agree : ∀ {l : List BNd} {Ms : MH}, NsM Tn Ts cells l G Ms → (∀ n ∈ l, cells'[n.slot.toNat]? = cells[n.slot.toNat]?) → NsM Tn Ts cells' l G Ms
  | [], _, h, _ => h
  | n :: l, _, ⟨A, B, e, ⟨b, h1, h2⟩, h3⟩, ha => ⟨A, B, e, ⟨b, h1.agree (ha n (by simp)), h2⟩, NsM.agree h3 fun m hm => ha m (by simp [hm])⟩
theorem NsM.blk : ∀ {l : List BNd} {Ms : MH}, NsM Tn Ts cells l G Ms → ∀ n ∈ l, ∃ b, Blk cells n.slot b
  | _ :: _, _, ⟨A, B, e, ⟨b, h1, h2⟩, h3⟩, m, hm => by
    rcases List.mem_cons.1 hm with rfl | hm
    · exact ⟨b, h1⟩
    · exact NsM.blk h3 m hm
theorem NsM.mem : ∀ {l : List BNd} {Ms : MH}, NsM Tn Ts cells l G Ms → ∀ n ∈ l, ∃ b vp vk vr Mp, Blk cells n.slot b ∧ (b, Obj.cells (List.toArray [.int .i64 n.lvl, vp, vk, vr]) Tn (0, 0)) ∈ Ms ∧ Mp.Sublist Ms ∧ OwnR eStr Ts G vp n.P Mp ∧ SlR eInt G vk n.K ∧ SlR ePair G vr n.R
  | n :: l, _, ⟨A, B, e, ⟨b, h1, vp, vk, vr, Mp, e2, h2, h3, h4⟩, h5⟩, m, hm => by
    subst e e2
    rcases List.mem_cons.1 hm with rfl | hm
    · exact ⟨b, vp, vk, vr, Mp, h1, by simp, ((List.sublist_append_left Mp B).cons _), h2, h3, h4⟩
    · obtain ⟨b, vp, vk, vr, Mp, h1, h2, h3, h4⟩ := NsM.mem h5 m hm
      exact ⟨b, vp, vk, vr, Mp, h1, List.mem_append_right _ h2, h3.trans (List.sublist_append_right _ _), h4⟩
theorem NsM.two {l1 l2 : List BNd} {A B : MH} (h1 : NsM Tn Ts cells l1 G A) (h2 : NsM Tn Ts cells l2 G B) : NsM Tn Ts cells (l1 ++ l2) G (A ++ B) := NsM.app.2 ⟨A, B, rfl, h1, h2⟩
end
def TrG (bt ba : Nat) (root fan leaf : Int) (cells : List (Option Nat)) (u : List Bool) (G : GH) : Prop :=
  CellsG G bt 0 [.pointer (some ⟨ba, 0, none⟩), .int .i64 root, .int .i64 fan, .int .i64 leaf] ∧ ∃ vc vu vf, CellsG G ba 0 [vc, vu, vf] ∧ SlR ePt G vc cells ∧ SlR eBool G vu u ∧ cells.length = u.length ∧ u.length ≤ 4096 ∧ ∃ f : List Int, SlR eInt G vf f ∧ f.length = (freeN u).length
theorem TrG.mono {bt ba : Nat} {root fan leaf : Int} {cells : List (Option Nat)} {u : List Bool} {G G' : GH} (hl : Le G G') (h : TrG bt ba root fan leaf cells u G) : TrG bt ba root fan leaf cells u G' := by
  obtain ⟨h1, vc, vu, vf, h2, h3, h4, h5, h6, f, h7, h8⟩ := h
  exact ⟨h1.mono hl, vc, vu, vf, h2.mono hl, h3.mono hl, h4.mono hl, h5, h6, f, h7.mono hl, h8⟩
theorem ArR.lent {Te TB TI Tb : TypeId} {bt ba : Nat} {root fan leaf : Int} {st : List (Option Nat) × List Bool} {G G' : GH} {Ms : MH} (h : ArR ePt Te TB TI Tb ba G st Ms) (hl : Le G G') (hm : ∀ p ∈ Ms, G' p.1 = some p.2) {Tt : TypeId}
    (ht : G' bt = some (.cells (List.toArray [.pointer (some ⟨ba, 0, none⟩), .int .i64 root, .int .i64 fan, .int .i64 leaf]) Tt (0, 0))) : TrG bt ba root fan leaf st.1 st.2 G' := by
  obtain ⟨f, ⟨vc, vu, vf, Mc, Mu, Mf, rfl, h2, h3, h4⟩, h5, h6, _, h8⟩ := h
  exact ⟨cellsG_at ht, vc, vu, vf, cellsG_at (hm _ (List.mem_cons_self ..)), h2.lent hl fun p hp => hm p (by simp [hp]), h3.lent hl fun p hp => hm p (by simp [hp]), h5, h6, f, h4.lent hl fun p hp => hm p (by simp [hp]), h8.length_eq⟩
end Go.Fw
namespace Go.Proofs.YtemoalimclnfkaaGreat
open Go Go.Fw Go.RowKit
attribute [local irreducible] Ok W WC
theorem shasp_fc {G : GH} {b_s : Nat} {v_c : Value} {c : List (Option Nat)} {Ms_c : MH} (h_c : OwnR ePt 64 G v_c c Ms_c) {v_u : Value} {u : List Bool} {Ms_u : MH} (h_u : OwnR eBool 4 G v_u u Ms_u) {v_f : Value} {f : List Int} {Ms_f : MH} (h_f : OwnR eInt 3 G v_f f Ms_f) (i : Int) :
    Fc Tryz.prog 101 [pt9 b_s, iV i] G ((b_s, ce9 114 [v_c, v_u, v_f]) :: (Ms_c ++ (Ms_u ++ (Ms_f)))) (fun v G' M' => v = .bool (hasN u i) ∧ M' = (b_s, ce9 114 [v_c, v_u, v_f]) :: (Ms_c ++ (Ms_u ++ Ms_f))) := by
 obtain ⟨sa_c, sc_c, rfl⟩ := h_c.form
 obtain ⟨sa_u, sc_u, rfl⟩ := h_u.form
 obtain ⟨sa_f, sc_f, rfl⟩ := h_f.form
 have hl := h_u.len47
 refine Fc.go [.tmp 4] Tryz.func101 Tryz.ntmps101 rfl (fun w0 => (WC.perm (M' := ((b_s, ce9 114 [lV sa_c c.length sc_c, lV sa_u u.length sc_u, lV sa_f f.length sc_f]) :: (Ms_c ++ (Ms_u ++ (Ms_f ++ []))))) (by simp) (g9 8 ?_)))
 refine W.ok (ok_neqPN pp61 rfl rfl) (g9 7 ?_)
 refine W.sd 11 (fun h9 p9 => ?_) (fun h9 p9 => ?_)
 ·refine g9 16 ?_
  refine W.sd 20 (fun h18 p18 => ?_) (fun h18 p18 => ?_)
  ·refine g9 11 ?_
   refine h_u.a1 (i := i.toNat) om9 (fun he1 => (W.ok (ok_indexAddrO (i := i.toNat) sl111 ty4 h_u rfl rfl ⟨om9, om9⟩) (g9 1 ?_)))
   refine W.ok (ok_loadO (vs := bc9) ty4 he1 (pmC (pmA pr9)) rfl rfl rfl (by simp)) (g9 5 ?_)
   refine ⟨.inr rfl, [_], ⟨rfl, trivial⟩, ((b_s, ce9 114 [lV sa_c c.length sc_c, lV sa_u u.length sc_u, lV sa_f f.length sc_f]) :: (Ms_c ++ (Ms_u ++ (Ms_f ++ [])))), sr9.k9, ?_⟩
   exact ⟨congrArg Value.bool (hasN_get om9 om9), by simp⟩
  refine g9 12 ?_
  refine ⟨.inr rfl, [_], ⟨rfl, trivial⟩, ((b_s, ce9 114 [lV sa_c c.length sc_c, lV sa_u u.length sc_u, lV sa_f f.length sc_f]) :: (Ms_c ++ (Ms_u ++ (Ms_f ++ [])))), sr9.k9, ?_⟩
  exact ⟨congrArg Value.bool (hasN_big om9), by simp⟩
 refine g9 21 ?_
 refine ⟨.inr rfl, [_], ⟨rfl, trivial⟩, ((b_s, ce9 114 [lV sa_c c.length sc_c, lV sa_u u.length sc_u, lV sa_f f.length sc_f]) :: (Ms_c ++ (Ms_u ++ (Ms_f ++ [])))), sr9.k9, ?_⟩
 exact ⟨congrArg Value.bool (hasN_neg om9), by simp⟩

theorem sallocp_fc {G : GH} {b_s : Nat} {v_c : Value} {c : List (Option Nat)} {Ms_c : MH} (h_c : OwnR ePt 64 G v_c c Ms_c) {v_u : Value} {u : List Bool} {Ms_u : MH} (h_u : OwnR eBool 4 G v_u u Ms_u) {v_f : Value} {f : List Int} {Ms_f : MH} (h_f : OwnR eInt 3 G v_f f Ms_f) (x : Nat) (hcu : c.length = u.length) (hn : u.length ≤ 4096) (hh : Heap ltI f) (hp : f.Perm (freeN u)) :
    Fc Tryz.prog 27 [pt9 b_s, pt9 x] G ((b_s, ce9 114 [v_c, v_u, v_f]) :: (Ms_c ++ (Ms_u ++ (Ms_f)))) (fun v G' M' => v = .tuple #[iV (nextA (c, u) (some x)).1.1, iV (nextA (c, u) (some x)).1.2] ∧ ArR ePt 64 4 3 114 b_s G' (nextA (c, u) (some x)).2 M') := by
 obtain ⟨sa_c, sc_c, rfl⟩ := h_c.form
 obtain ⟨sa_u, sc_u, rfl⟩ := h_u.form
 obtain ⟨sa_f, sc_f, rfl⟩ := h_f.form
 have hl := h_u.len47
 have hlc := h_c.len47
 have hlf := h_f.len47
 refine Fc.go [.tmp 4, .tmp 5] Tryz.func27 Tryz.ntmps27 rfl (fun w0 => (WC.perm (M' := ((b_s, ce9 114 [lV sa_c c.length sc_c, lV sa_u u.length sc_u, lV sa_f f.length sc_f]) :: (Ms_c ++ (Ms_u ++ (Ms_f ++ []))))) (by simp) (g9 10 ?_)))
 refine W.ok (ok_eqlPN pp61 rfl rfl) (g9 16 ?_)
 refine WC.cd (fun h14 p14 => ?_) (fun h14 p14 => ?_)
 ·refine g9 8 ?_
  refine ⟨.inr rfl, [_, _], ⟨rfl, rfl, trivial⟩, ((b_s, ce9 114 [lV sa_c c.length sc_c, lV sa_u u.length sc_u, lV sa_f f.length sc_f]) :: (Ms_c ++ (Ms_u ++ (Ms_f ++ [])))), sr9.k9, ?_⟩
  have hE := nextA_f (st := (c, u)) (x := (some x)) (free_zero (u := u) (by have := hp.length_eq; omega))
  exact ⟨congrArg (fun r : Int × Int => Value.tuple #[iV r.1, iV r.2]) (congrArg Prod.fst hE).symm, ArR.cast (st := (c, u)) ⟨_, ⟨_, _, _, _, _, _, rfl, h_c, h_u, h_f⟩, hcu, hn, hh, hp⟩ (congrArg Prod.snd hE).symm (by simp)⟩
 refine g9 7 ?_
 refine W.ok (ok_mkI pi116 rfl) (W.call (Mp := ((b_s, ce9 114 [lV sa_c c.length sc_c, lV sa_u u.length sc_u, lV sa_f f.length sc_f]) :: Ms_f)) (Mr := (Ms_c ++ (Ms_u ++ []))) (hpop_fc (least_heap (b := b_s) (Tb := 114) (c0 := lV sa_c c.length sc_c) (c1 := lV sa_u u.length sc_u)) ⟨_, _, rfl, h_f⟩ om9) rfl (((pmA (pmA pr9)).cons _).trans pr9) ?_)
 intro v8 G5 Ms7 hG5 q6
 refine match q6 with | ⟨⟨hv_z9, hi_z9⟩, ⟨vf_z9, Mf_z9, e_10, hf_z9⟩⟩ => ?_
 subst e_10
 have q12 := hf_z9.form
 refine match q12 with | ⟨sa_z9, sc_z9, e_11⟩ => ?_
 subst e_11
 obtain ⟨hlt, hee, hh2, hp2⟩ := take_first hh hp om9
 rw [hee] at hv_z9
 subst hv_z9
 refine W.perm (M' := ((b_s, ce9 114 [lV sa_c c.length sc_c, lV sa_u u.length sc_u, lV sa_z9 ((popL ltI f)).length sc_z9]) :: (Mf_z9 ++ (Ms_c ++ (Ms_u ++ []))))) ((pr9.cons _).trans pr9).symm (W.ok (ok_tyA pi3 rfl) (g9 4 ?_))
 refine WC.dw sn9.k9 (d9 [0, 1, 2, 3, 4, 5, 6, 7, 8, 9, 10] ?_)
 refine (h_c.mono hG5).a1 (i := (firstN u)) om9 (fun he13 => (WD.tk 11 rfl (ok_indexAddrO (i := (firstN u)) sl80 ty64 (h_c.mono hG5) rfl rfl ⟨om9, om9⟩) (WD.a1 12 rfl (W.storeO (i := (firstN u)) (o := 0) (vs := [.pointer _]) (a' := (some x)) ty64 rfl rfl rfl rfl rfl ((h_c.mono hG5)) (pmC (pmA pr9)) om9 (by decide) (fun cs h => by rw [h]; rfl) (fun Ms16 ho17 => (W.perm (pmC pr9).symm (W.nn ((h_u.mono hG5).a1 (i := (firstN u)) om9 (fun he18 => (WD.tk 13 rfl (ok_indexAddrO (i := (firstN u)) sl111 ty4 (h_u.mono hG5) rfl rfl ⟨om9, om9⟩) (WD.a1 14 rfl (W.storeO (i := (firstN u)) (o := 0) (vs := bc9) (a' := true) ty4 rfl rfl rfl rfl rfl ((h_u.mono hG5)) (pmC (pmA (pmA pr9))) om9 (by decide) (fun cs h => by rw [h]; rfl) (fun Ms22 ho23 => (W.perm (pmC pr9).symm (W.nn (g9 9 ?_))))))))))))))))
 refine WC.perm (M' := ((b_s, ce9 114 [lV sa_c c.length sc_c, lV sa_u u.length sc_u, lV sa_z9 ((popL ltI f)).length sc_z9]) :: (Ms16 ++ (Ms22 ++ (Mf_z9 ++ []))))) (((List.Perm.append_left _ ((List.Perm.append_left _ ((List.Perm.append_left _ pr9).trans pr9)).trans pr9)).trans (pmA pr9)).cons _) (WC.ret ?_)
 refine ⟨.inr rfl, [_, _], ⟨rfl, rfl, trivial⟩, ((b_s, ce9 114 [lV sa_c c.length sc_c, lV sa_u u.length sc_u, lV sa_z9 ((popL ltI f)).length sc_z9]) :: (Ms16 ++ (Ms22 ++ (Mf_z9 ++ [])))), sr9.k9, ?_⟩
 have hE := nextA_t (st := (c, u)) (x := (some x)) hlt
 exact ⟨congrArg (fun r : Int × Int => Value.tuple #[iV r.1, iV r.2]) (congrArg Prod.fst hE).symm, ArR.cast (st := (c.set (firstN u) (some x), u.set (firstN u) true)) ⟨_, ⟨_, _, _, _, _, _, rfl, ho17, ho23, hf_z9⟩, (by rw [List.length_set, List.length_set]; exact hcu), (by rw [List.length_set]; exact hn), hh2, hp2⟩ (congrArg Prod.snd hE).symm (by simp)⟩

theorem sfreep_fc {G : GH} {b_s : Nat} {v_c : Value} {c : List (Option Nat)} {Ms_c : MH} (h_c : OwnR ePt 64 G v_c c Ms_c) {v_u : Value} {u : List Bool} {Ms_u : MH} (h_u : OwnR eBool 4 G v_u u Ms_u) {v_f : Value} {f : List Int} {Ms_f : MH} (h_f : OwnR eInt 3 G v_f f Ms_f) (i : Int) (hcu : c.length = u.length) (hn : u.length ≤ 4096) (hh : Heap ltI f) (hp : f.Perm (freeN u)) (hi : i64 i) :
    Fc Tryz.prog 72 [pt9 b_s, iV i] G ((b_s, ce9 114 [v_c, v_u, v_f]) :: (Ms_c ++ (Ms_u ++ (Ms_f)))) (fun v G' M' => v = iV (freeA (c, u) i (none : Option Nat)).1 ∧ ArR ePt 64 4 3 114 b_s G' (freeA (c, u) i (none : Option Nat)).2 M') := by
 obtain ⟨sa_c, sc_c, rfl⟩ := h_c.form
 obtain ⟨sa_u, sc_u, rfl⟩ := h_u.form
 obtain ⟨sa_f, sc_f, rfl⟩ := h_f.form
 have hl := h_u.len47
 have hlc := h_c.len47
 refine Fc.go [.tmp 4] Tryz.func72 Tryz.ntmps72 rfl (fun w0 => (WC.perm (M' := ((b_s, ce9 114 [lV sa_c c.length sc_c, lV sa_u u.length sc_u, lV sa_f f.length sc_f]) :: (Ms_c ++ (Ms_u ++ (Ms_f ++ []))))) (by simp) (g9 9 ?_)))
 refine W.ok (ok_eqlPN pp61 rfl rfl) (g9 10 ?_)
 refine W.call (Mp := ((b_s, ce9 114 [lV sa_c c.length sc_c, lV sa_u u.length sc_u, lV sa_f f.length sc_f]) :: (Ms_c ++ (Ms_u ++ Ms_f)))) (Mr := []) (shasp_fc h_c h_u h_f _) rfl ((((pmF ((pmF pr9).trans pr9)).trans pr9).cons _).trans pr9) ?_
 intro v27 G24 Ms26 hG24 q25
 refine match q25 with | ⟨e_28, e_29⟩ => ?_
 subst e_28
 subst e_29
 refine W.perm (M' := ((b_s, ce9 114 [lV sa_c c.length sc_c, lV sa_u u.length sc_u, lV sa_f f.length sc_f]) :: (Ms_c ++ (Ms_u ++ (Ms_f ++ []))))) ((((pmF ((pmF pr9).trans pr9)).trans pr9).cons _).trans pr9).symm (g9 3 ?_)
 refine WC.cond rfl (fun h11 => ?_) (fun h11 => ?_)
 ·refine g9 7 ?_
  refine ⟨.inr rfl, [_], ⟨rfl, trivial⟩, ((b_s, ce9 114 [lV sa_c c.length sc_c, lV sa_u u.length sc_u, lV sa_f f.length sc_f]) :: (Ms_c ++ (Ms_u ++ (Ms_f ++ [])))), sr9.k9, ?_⟩
  exact ⟨congrArg (Value.int .i64) (congrArg Prod.fst (freeA_f (st := (c, u)) (x := (none : Option Nat)) (by simpa using h11))).symm, ArR.cast (st := (c, u)) ⟨_, ⟨_, _, _, _, _, _, rfl, (h_c.mono hG24), (h_u.mono hG24), (h_f.mono hG24)⟩, hcu, hn, hh, hp⟩ (congrArg Prod.snd (freeA_f (st := (c, u)) (x := (none : Option Nat)) (by simpa using h11))).symm (by simp)⟩
 have hhi : hasN u i = true := by simpa using h11
 have hil := hasN_lt hhi
 refine g9 8 ?_
 refine WC.dw sn9.k9 (d9 [0, 1, 2, 3, 4, 5, 6, 7, 8, 9, 10] ?_)
 refine (h_c.mono hG24).a1 (i := i.toNat) om9 (fun he30 => (WD.tk 11 rfl (ok_indexAddrO (i := i.toNat) sl80 ty64 (h_c.mono hG24) rfl rfl ⟨om9, om9⟩) (WD.a1 12 rfl (W.storeO (i := i.toNat) (o := 0) (vs := [.pointer _]) (a' := (none : Option Nat)) ty64 rfl rfl rfl rfl rfl ((h_c.mono hG24)) (pmC pr9) om9 (by decide) (fun cs h => by rw [h]; rfl) (fun Ms33 ho34 => (W.perm (pmC pr9).symm (W.nn ((h_u.mono hG24).a1 (i := i.toNat) om9 (fun he35 => (WD.tk 13 rfl (ok_indexAddrO (i := i.toNat) sl111 ty4 (h_u.mono hG24) rfl rfl ⟨om9, om9⟩) (WD.a1 14 rfl (W.storeO (i := i.toNat) (o := 0) (vs := bc9) (a' := false) ty4 rfl rfl rfl rfl rfl ((h_u.mono hG24)) (pmC (pmA pr9)) om9 (by decide) (fun cs h => by rw [h]; rfl) (fun Ms39 ho40 => (W.perm (pmC pr9).symm (W.nn (g9 7 ?_))))))))))))))))
 refine W.ok (ok_mkI pi116 rfl) (W.mv (W.ok (ok_mkI pi3 rfl) (W.call (Mp := ((b_s, ce9 114 [lV sa_c c.length sc_c, lV sa_u u.length sc_u, lV sa_f f.length sc_f]) :: Ms_f)) (Mr := (Ms39 ++ (Ms33 ++ []))) (hpush_fc (least_heap (b := b_s) (Tb := 114) (c0 := lV sa_c c.length sc_c) (c1 := lV sa_u u.length sc_u)) ⟨_, _, rfl, (h_f.mono hG24)⟩ (a := i) ⟨rfl, hi⟩ (by have := hp.length_eq; have := free_used u; omega) (fun hl h => h)) rfl (((pmA (pmA pr9)).cons _).trans pr9) ?_)))
 intro v44 G41 Ms43 hG41 q42
 refine match q42 with | ⟨e_46, ⟨vf_z45, Mf_z45, e_47, hf_z45⟩⟩ => ?_
 subst e_46
 subst e_47
 have q49 := hf_z45.form
 refine match q49 with | ⟨sa_z45, sc_z45, e_48⟩ => ?_
 subst e_48
 refine W.perm (M' := ((b_s, ce9 114 [lV sa_c c.length sc_c, lV sa_u u.length sc_u, lV sa_z45 ((pushL ltI f i)).length sc_z45]) :: (Mf_z45 ++ (Ms39 ++ (Ms33 ++ []))))) ((pr9.cons _).trans pr9).symm (g9 7 ?_)
 refine WC.perm (M' := ((b_s, ce9 114 [lV sa_c c.length sc_c, lV sa_u u.length sc_u, lV sa_z45 ((pushL ltI f i)).length sc_z45]) :: (Ms33 ++ (Ms39 ++ (Mf_z45 ++ []))))) (((List.Perm.append_left _ ((List.Perm.append_left _ ((List.Perm.append_left _ pr9).trans pr9)).trans (pmA pr9))).trans (pmA (pmA pr9))).cons _) (WC.ret ?_)
 refine ⟨.inr rfl, [_], ⟨rfl, trivial⟩, ((b_s, ce9 114 [lV sa_c c.length sc_c, lV sa_u u.length sc_u, lV sa_z45 ((pushL ltI f i)).length sc_z45]) :: (Ms33 ++ (Ms39 ++ (Mf_z45 ++ [])))), sr9.k9, ?_⟩
 exact ⟨congrArg (Value.int .i64) (congrArg Prod.fst (freeA_t (st := (c, u)) (x := (none : Option Nat)) (by simpa using h11))).symm, ArR.cast (st := (c.set i.toNat (none : Option Nat), u.set i.toNat false)) ⟨_, ⟨_, _, _, _, _, _, rfl, (ho34.mono hG41), (ho40.mono hG41), hf_z45⟩, (by rw [List.length_set, List.length_set]; exact hcu), (by rw [List.length_set]; exact hn), (give_back' hh hp hhi).1, (give_back' hh hp hhi).2⟩ (congrArg Prod.snd (freeA_t (st := (c, u)) (x := (none : Option Nat)) (by simpa using h11))).symm (by simp)⟩

end Go.Proofs.YtemoalimclnfkaaGreat
