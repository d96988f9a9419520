/- Draining: the bounds and the measure of its loop. Plain Lean; nothing of the program is named here. No condition. -/
import Derived.Test.YtbbemibbmbmamaaGreatProg
import Derived.Test.YtbbemibbmbmamaaGreatQiOw
set_option linter.unusedVariables false
set_option linter.unusedSimpArgs false
set_option linter.unnecessarySimpa false
set_option maxRecDepth 100000
set_option maxHeartbeats 1600000
namespace Go.Fw
open Go Go.RowKit
section
variable {c : Cfg} {l l' : List Nd} {ss : List Seat} {k cur : Str}
noncomputable def spL (l : List Nd) : List Span := (ZE ((JJ l 0).getD [])).map fun x => x.s
theorem Tree.sp (t : Tree c l ss) : spL l = (ZE ss).map fun x => x.s := by unfold spL; rw [t.sts]; rfl
theorem Tree.sp_len (t : Tree c l ss) : (spL l).length ≤ 4096 := by
  rw [t.sp, List.length_map]
  have h1 : (ZE ss).length ≤ ss.length := List.length_filter_le _ _
  have h2 := t.len
  have h3 := t.sml.1
  omega
theorem Zkx {g : Seat → Seat} : ∀ {L : List Seat}, (∀ x ∈ L, (g x).n.level = x.n.level ∧ (g x).s = x.s) → (ZE (L.map g)).map (fun x => x.s) = (ZE L).map fun x => x.s
  | [], _ => rfl
  | x :: L, h => by
    have h1 := h x (by simp)
    have ih := Zkx (L := L) fun y hy => h y (List.mem_cons_of_mem _ hy)
    unfold ZE at ih ⊢
    rw [List.map_cons, List.filter_cons, List.filter_cons, h1.1]
    split
    · rw [List.map_cons, List.map_cons, h1.2, ih]
    · exact ih
theorem ZqX (t : Tree c l ss) {a : Int} (ha : 0 ≤ a ∧ a < l.length) (k : Str) : l.length < (Zs c l a k).2.length ∨ ((Zs c l a k).2.length = l.length ∧ spL (Zs c l a k).2 = spL l) := by
  rcases Jb c (Za l a) k with h | h | ⟨h, _⟩
  · rw [X8 h]; exact .inr ⟨rfl, rfl⟩
  · by_cases h3 : (ZI c l).1 = 0
    · rw [X9 h h3]; exact .inl (Zkt h3)
    · rw [Ja h h3, Zgm h3]; exact .inr ⟨rfl, rfl⟩
  · obtain ⟨h0, hi⟩ := JA t ha h
    obtain ⟨P, s⟩ := Jn t ha h0 hi
    rw [XU h]
    generalize (Zw c (Za l a) k).2 = i at *
    rcases XK c (Za l a) (Zh l a i) i with hd | hd | ⟨hd, hd2⟩ | hd
    · rw [Jm hd]; exact .inr ⟨rfl, rfl⟩
    · by_cases h3 : (ZD c l a i).1 = 0
      · rw [XV hd h3]
        refine .inl ?_
        dsimp only
        unfold ZD at h3 ⊢
        split at h3
        · cases h3
        · rename_i h4
          rw [if_neg h4]
          unfold Xk at h3 ⊢
          split at h3
          · cases h3
          · rename_i h5
            rw [if_neg h5]
            split at h3
            · cases h3
            · rename_i h6
              rw [if_neg h6]
              split at h3
              · cases h3
              · rename_i h7
                rw [if_neg h7]
                split at h3
                · cases h3
                · rename_i h8
                  rw [if_neg h8]
                  unfold Jz
                  simp
      · rw [XW hd h3, Zgl h3]; exact .inr ⟨rfl, rfl⟩
    · rw [YO hd]
      obtain ⟨T, p⟩ := s.pour t hd2
      refine .inr ⟨p.len, ?_⟩
      dsimp only
      rw [p.tree.sp, t.sp]
      exact Zkx fun x hx => ⟨(p.g_same x hx).2.1, (p.g_same x hx).2.2.2.2.2⟩
    · rw [XX hd]; exact .inr ⟨rfl, rfl⟩
theorem Zky : ∀ (m : Nat) {l : List Nd} {ss : List Seat} {a n : Int} {r : Int × Int × List Nd}, Tree c l ss → 0 ≤ a ∧ a < l.length → Ym c k m l a n = some r → l.length < r.2.2.length ∨ (r.2.2.length = l.length ∧ spL r.2.2 = spL l)
  | 0, _, _, _, _, _, _, _, h => by cases h
  | m + 1, l, ss, a, n, r, t, ha, h => by
    obtain ⟨T, hT, _⟩ := J8 t ha k
    have hnx := Zaj t ha k
    have hs := ZqX t ha k
    have go : ∀ {n'}, Ym c k m (Zs c l a k).2 (Zs c l a k).1.2.1 n' = some r → l.length < r.2.2.length ∨ (r.2.2.length = l.length ∧ spL r.2.2 = spL l) := fun h9 => by
      rcases Zky m hT hnx h9 with h1 | ⟨h1, h2⟩ <;> rcases hs with h3 | ⟨h3, h4⟩
      · exact .inl (by omega)
      · exact .inl (by omega)
      · exact .inl (by omega)
      · exact .inr ⟨by omega, h2.trans h4⟩
    by_cases h1 : (Zs c l a k).1.1 = 0
    · rw [Y2 h1] at h
      cases h
      exact hs
    · by_cases h2 : (Zs c l a k).1.1 = 5
      · rw [Jc h2] at h; exact go h
      · rw [Xa h1 h2] at h; exact go h
noncomputable def ZaZ (l : List Nd) (cur : Str) : Nat := ((spL l).filter fun s => !s.opn && !cur.lt s.hi).length
noncomputable def Zb5 (l : List Nd) (cur : Str) : Nat := ((spL l).filter fun s => !s.opn && cur.lt s.hi).length
theorem Zgp {α : Type} {p q : α → Bool} : ∀ {L : List α}, (∀ x ∈ L, p x = true → q x = true) → (∃ x ∈ L, q x = true ∧ p x = false) → (L.filter p).length < (L.filter q).length
  | [], _, h => by obtain ⟨x, hx, _⟩ := h; cases hx
  | a :: L, h, hx => by
    have hle : ∀ {M : List α}, (∀ x ∈ M, p x = true → q x = true) → (M.filter p).length ≤ (M.filter q).length := by
      intro M hM
      induction M with
      | nil => exact Nat.le_refl _
      | cons b M ih =>
        have h1 := ih fun x hx => hM x (List.mem_cons_of_mem _ hx)
        have h2 := hM b (by simp)
        rw [List.filter_cons, List.filter_cons]
        cases hp : p b
        · cases q b <;> simp <;> omega
        · rw [h2 hp]; simp; omega
    have hL : ∀ x ∈ L, p x = true → q x = true := fun x hx => h x (List.mem_cons_of_mem _ hx)
    rw [List.filter_cons, List.filter_cons]
    obtain ⟨x, hx, h1, h2⟩ := hx
    rcases List.mem_cons.1 hx with rfl | hx
    · rw [h1, h2]; have := hle hL; simp; omega
    · have ih := Zgp hL ⟨x, hx, h1, h2⟩
      cases hp : p a
      · cases q a <;> simp <;> omega
      · rw [h a (by simp) hp]; simp; omega
theorem Zkz (t : Tree c l ss) (k : Str) : (Zn l k).s ∈ spL l := by
  rw [t.sp]
  have h := t.leafOk k
  exact List.mem_map.2 ⟨_, List.mem_filter.2 ⟨h.mem, decide_eq_true h.lvl⟩, rfl⟩
theorem Zgq (t : Tree c l ss) (k : Str) (ho : (Zn l k).s.opn = false) : k.lt (Zn l k).s.hi = true := by
  rcases (Yk.1 (t.leafOk k).has).2 with h | h
  · rw [ho] at h; cases h
  · exact h
theorem ZqY (t : Tree c l ss) (k : Str) (ho : (Zn l k).s.opn = false) : ZaZ l k < ZaZ l (Zn l k).s.hi := by
  have h1 := Zgq t k ho
  refine Zgp (fun s _ h => ?_) ⟨_, Zkz t k, ?_, ?_⟩
  · rw [Bool.and_eq_true] at h ⊢
    refine ⟨h.1, ?_⟩
    have h2 : k.lt s.hi = false := by simpa using h.2
    have h3 : (Zn l k).s.hi.lt s.hi = false := by
      cases h4 : (Zn l k).s.hi.lt s.hi
      · rfl
      · rw [Str.lt_trans h1 h4] at h2; cases h2
    rw [h3]; rfl
  · rw [ho, Str.lt_irrefl]; rfl
  · rw [ho, h1]; rfl
theorem ZqZ (t : Tree c l ss) (k : Str) (ho : (Zn l k).s.opn = false) : Zb5 l (Zn l k).s.hi < Zb5 l k := by
  have h1 := Zgq t k ho
  refine Zgp (fun s _ h => ?_) ⟨_, Zkz t k, ?_, ?_⟩
  · rw [Bool.and_eq_true] at h ⊢
    exact ⟨h.1, Str.lt_trans h1 h.2⟩
  · rw [ho, h1]; rfl
  · rw [ho, Str.lt_irrefl]; rfl
theorem ZkA (t : Tree c l ss) (k : Str) : ZaZ l k ≤ 4096 := Nat.le_trans (List.length_filter_le _ _) t.sp_len
theorem ZkB (t : Tree c l ss) (k : Str) : Zb5 l k ≤ 4096 := Nat.le_trans (List.length_filter_le _ _) t.sp_len
end
section
variable {c : Cfg} {l0 l : List Nd} {ss : List Seat} {k cur : Str} {did : Int}
theorem Zgr : ∀ (m : Nat) {l : List Nd} {a n : Int} {r : Int × Int × List Nd}, Ym c k m l a n = some r → Ym c k (m + 1) l a n = some r
  | 0, _, _, _, _, h => by cases h
  | m + 1, l, a, n, r, h => by
    by_cases h1 : (Zs c l a k).1.1 = 0
    · rw [Y2 h1] at h ⊢; exact h
    · by_cases h2 : (Zs c l a k).1.1 = 5
      · rw [Jc h2] at h ⊢; exact Zgr m h
      · rw [Xa h1 h2] at h ⊢; exact Zgr m h
theorem ZkC {m n : Nat} (hmn : m ≤ n) {l : List Nd} {a b : Int} {r : Int × Int × List Nd} (h : Ym c k m l a b = some r) : Ym c k n l a b = some r := by
  obtain ⟨d, rfl⟩ : ∃ d, n = m + d := ⟨n - m, by omega⟩
  induction d with
  | zero => exact h
  | succ d ih => exact Zgr _ (ih (by omega))
theorem Zgs : ∀ (m : Nat) {l : List Nd} {a n : Int} {r : Int × Int × List Nd}, Ym c k m l a n = some r → r.1 ≤ n + m
  | 0, _, _, _, _, h => by cases h
  | m + 1, l, a, n, r, h => by
    by_cases h1 : (Zs c l a k).1.1 = 0
    · rw [Y2 h1] at h; cases h; dsimp only; omega
    · by_cases h2 : (Zs c l a k).1.1 = 5
      · rw [Jc h2] at h; have := Zgs m h; omega
      · rw [Xa h1 h2] at h; have := Zgs m h; omega
theorem Zq0 {N : Nat} {r : Int × Int × List Nd} (t : Tree c l ss) (h : Ym c k N l 0 0 = some r) : 0 ≤ r.1 ∧ r.1 ≤ 200000 := by
  obtain ⟨M, r', hM, hr'⟩ := Zgh t k
  have e : r = r' := by
    have h1 := ZkC (Nat.le_max_left N M) h
    have h2 := ZkC (Nat.le_max_right N M) hr'
    exact Option.some.inj (h1.symm.trans h2)
  subst e
  have := Zgs M hr'
  have := Zak M hr'
  omega
noncomputable def Jd (l : List Nd) (cur : Str) : Str := if (Zn l cur).s.opn = true then Str.nil else (Zn l cur).s.hi
theorem Zgt (h : (Zn l cur).s.opn = true) : Jd l cur = Str.nil := if_pos h
theorem Zed (h : (Zn l cur).s.opn = false) : Jd l cur = (Zn l cur).s.hi := if_neg (by rw [h]; simp)
theorem Zgu (t : Tree c l ss) (h : (Zn l cur).s.opn = false) : ¬ Jd l cur = Str.nil := fun e => by
  have h1 := Zgq t cur h
  rw [← Zed h, e, Str.nil_le] at h1
  cases h1
noncomputable def Zbr (l : List Nd) (cur : Str) : Int := if cur = Str.nil then 4097 else (ZaZ l cur : Nat)
theorem Zq1 (l : List Nd) : Zbr l Str.nil = 4097 := if_pos rfl
theorem ZkD (h : ¬ cur = Str.nil) : Zbr l cur = (ZaZ l cur : Nat) := if_neg h
theorem ZkE (l : List Nd) (cur : Str) : 0 ≤ Zbr l cur := by unfold Zbr; split <;> omega
theorem ZkF (t : Tree c l ss) (cur : Str) : Zbr l cur ≤ 4097 := by
  have := ZkA t cur
  unfold Zbr; split <;> omega
structure DrI (c : Cfg) (l0 l : List Nd) (cur : Str) (did : Int) : Prop where
  t : ∃ T, Tree c l T
  m : Zl l = Zl l0
  g : ∀ k, Grown c k l0 → Grown c k l
  d0 : 0 ≤ did
  db : did ≤ 200001 * ((l.length : Int) * 5000 + Zbr l cur + 1)
  cl : did = 0 → c.slots - (l.length : Int) < 2 ∨ ∀ ss, Tree c l ss → if cur = Str.nil then ∀ x ∈ ss, x.n.msgs = [] else CleanTo ss cur
noncomputable def muD (c : Cfg) (l : List Nd) (cur : Str) (did : Int) : Nat := muL c l * 20000 + (if did = 0 then 0 else 10000) + (if cur = Str.nil then 0 else 1 + Zb5 l cur)
theorem Zq2 (t : Tree c l ss) (cur : Str) : DrI c l l cur 1 := ⟨⟨_, t⟩, rfl, fun _ h => h, by omega, by have := ZkE l cur; omega, fun h => absurd h (by decide)⟩
theorem ZkG (h : DrI c l0 l cur did) : did ≤ 4100000000000 := by
  obtain ⟨T, t⟩ := h.t
  have h1 := t.sml.1
  have h2 := ZkF t cur
  have h3 := h.db
  omega
theorem Zq3 (h : DrI c l0 l Str.nil 0) (hq : Xd l = false) : c.slots - (l.length : Int) < 2 := by
  obtain ⟨T, t⟩ := h.t
  rcases h.cl rfl with h1 | h1
  · exact h1
  · have h2 := h1 T t
    rw [if_pos rfl] at h2
    rw [ZqW t h2] at hq
    cases hq
theorem ZkH {N : Nat} {r : Int × Int × List Nd} (h : DrI c l0 l cur did) (hc : cur = Str.nil → ¬ did = 0) (hr : Ym c cur N l 0 0 = some r) :
    DrI c l0 r.2.2 (Jd r.2.2 cur) ((if cur = Str.nil then 0 else did) + r.1) ∧ muD c r.2.2 (Jd r.2.2 cur) ((if cur = Str.nil then 0 else did) + r.1) < muD c l cur did := by
  obtain ⟨T, t⟩ := h.t
  have ha : (0 : Int) ≤ 0 ∧ (0 : Int) < l.length := ⟨Int.le_refl _, by have := t.pos; omega⟩
  obtain ⟨T2, t2, hm2⟩ := ZbV N t ha hr
  obtain ⟨n0, n1⟩ := Zq0 t hr
  have hmu := Zeb N t ha hr
  have her := ZcI N t ha hr
  have hsp := Zky N t ha hr
  have hd0 := h.d0
  have hdb := h.db
  have hpq := ZkE r.2.2 (Jd r.2.2 cur)
  have hp1 := ZkF t cur
  have hrg := ZkB t2 (Jd r.2.2 cur)
  generalize hd : (if cur = Str.nil then (0 : Int) else did) = d0 at *
  have hd1 : 0 ≤ d0 := by rw [← hd]; split <;> omega
  refine ⟨⟨⟨T2, t2⟩, hm2.trans h.m, fun q hq => (h.g q hq).cyc t hr, by omega, ?_, fun hz => ?_⟩, ?_⟩
  · -- the bound
    by_cases hn : cur = Str.nil
    · rw [if_pos hn] at hd; omega
    · rw [if_neg hn] at hd
      rw [ZkD hn] at hdb hp1
      rcases hsp with h1 | ⟨h1, h2⟩
      · omega
      · cases ho : (Zn r.2.2 cur).s.opn
        · have h3 := ZqY t2 cur ho
          have e : ZaZ r.2.2 cur = ZaZ l cur := by unfold ZaZ; rw [h2]
          rw [ZkD (Zgu t2 ho), Zed ho]
          rw [e] at h3
          omega
        · have h4 := ZkA t cur
          rw [Zgt ho, Zq1]; omega
  · -- nothing was done
    have hz1 : r.1 = 0 := by omega
    have hz0 : d0 = 0 := by omega
    have el : r.2.2 = l := hmu.2 (by omega)
    rcases her with h1 | ⟨_, h1⟩
    · have hC : ∀ ss, Tree c l ss → c.slots - (l.length : Int) < 2 ∨ CleanTo ss cur := fun S tS => by
        by_cases hn : cur = Str.nil
        · rw [hn]; exact .inr (ZqU S)
        · rw [if_neg hn] at hd
          rcases h.cl (by omega) with h2 | h2
          · exact .inl h2
          · have := h2 S tS
            rw [if_neg hn] at this
            exact .inr this
      rw [el] at *
      rcases hC T t with h2 | h2
      · exact .inl h2
      · refine .inr fun S tS => ?_
        have eS : S = T := Option.some.inj (tS.sts.symm.trans t.sts)
        subst eS
        have hs := ZqV t h2 hr hz1 h1
        cases ho : (Zn l cur).s.opn
        · rw [if_neg (Zgu t ho), Zed ho]
          exact fun x hx hl => hs x hx (.inr hl)
        · rw [if_pos (Zgt ho)]
          exact fun x hx => hs x hx (.inl ho)
    · exact .inl h1
  · -- the measure
    unfold muD
    by_cases hp : 0 < r.1
    · have h1 := hmu.1 hp
      have h2 : (if d0 + r.1 = 0 then 0 else 10000 : Nat) ≤ 10000 := by split <;> omega
      have h3 : (if Jd r.2.2 cur = Str.nil then 0 else 1 + Zb5 r.2.2 (Jd r.2.2 cur) : Nat) ≤ 4097 := by split <;> omega
      omega
    · have hz1 : r.1 = 0 := by omega
      have el : r.2.2 = l := hmu.2 (by omega)
      rw [el] at *
      rw [hz1, Int.add_zero]
      by_cases hn : cur = Str.nil
      · rw [if_pos hn] at hd
        have h5 := hc hn
        rw [← hd, if_pos rfl, if_neg h5]
        have h6 := ZkB t (Jd l cur)
        have h3 : (if Jd l cur = Str.nil then 0 else 1 + Zb5 l (Jd l cur) : Nat) ≤ 4097 := by split <;> omega
        omega
      · rw [if_neg hn] at hd
        rw [← hd, if_neg hn]
        cases ho : (Zn l cur).s.opn
        · rw [if_neg (Zgu t ho), Zed ho]
          have := ZqZ t cur ho
          omega
        · rw [if_pos (Zgt ho)]; omega
structure DrP (c : Cfg) (l : List Nd) (e : Int) (l' : List Nd) : Prop where
  t : ∃ T, Tree c l' T
  m : Zl l' = Zl l
  g : ∀ k, Grown c k l → Grown c k l'
  r : (e = 0 ∧ Xd l' = true) ∨ (e = 4 ∧ Xd l' = false ∧ c.slots - (l'.length : Int) < 2)
theorem Zq4 (h : DrI c l0 l cur did) (hq : Xd l = true) : DrP c l0 0 l := ⟨h.t, h.m, h.g, .inl ⟨rfl, hq⟩⟩
theorem Zq5 (h : DrI c l0 l cur did) (hc : cur = Str.nil) (hd : did = 0) (hq : Xd l = false) : DrP c l0 4 l := ⟨h.t, h.m, h.g, .inr ⟨rfl, hq, by subst hc hd; exact Zq3 h hq⟩⟩
end
section
variable {c : Cfg} {l : List Nd} {ss : List Seat}
def Zam (T : List Seat) : List Pair := T.flatMap fun x => x.n.rows
theorem Tree.norows (t : Tree c l ss) {x : Seat} (hx : x ∈ ss) (h0 : ¬ x.n.level = 0) : x.n.rows = [] := List.eq_nil_of_length_eq_zero (t.inner hx h0).1.1
theorem Zq6 (t : Tree c l ss) (h : Xd l = true) : ∀ x ∈ ss, x.n.msgs = [] := fun x hx => by
  have h1 := List.all_eq_true.1 h x.n (t.nd hx).2.2
  unfold isM at h1
  cases hm : x.n.msgs with
  | nil => rfl
  | cons m L =>
    rw [hm] at h1
    rw [decide_eq_true (by simp)] at h1
    cases h1
theorem Zq7 (t : Tree c l ss) (h : Xd l = true) : ∀ x ∈ ss, x.ms = [] := t.ind rfl fun x hx h0 hm j hj => by
  have hk := (t.kid_ms hx (t.rst x hx) j).1
  rw [hk, Zq6 t h x hx, hm]; rfl
theorem Zq8 (t : Tree c l ss) (h : Xd l = true) : Zam ss = Zl l := by
  rw [Jx t.sts]
  have key : ∀ T : List Seat, (∀ x ∈ T, x ∈ ss) → Zam T = (ZE T).flatMap YH := by
    intro T
    induction T with
    | nil => intro _; rfl
    | cons x T ih =>
      intro hT
      have hx := hT x (by simp)
      have i := ih fun y hy => hT y (List.mem_cons_of_mem _ hy)
      unfold Zam ZE at i ⊢
      rw [List.flatMap_cons, List.filter_cons, i]
      by_cases h0 : x.n.level = 0
      · rw [if_pos (decide_eq_true h0), List.flatMap_cons]
        congr 1
        rw [t.view hx, Zq7 t h x hx]
        refine (List.filter_eq_self.2 fun p hp => ?_).symm
        obtain ⟨j, hj, rfl⟩ := List.getElem_of_mem hp
        exact (t.seat hx).2.1.2.1 j hj
      · rw [if_neg (by simpa using h0), t.norows hx h0]; rfl
  exact key ss fun x hx => hx
end
/-! ## By definition -/
def Leaf17 (x : Seat) (least most : Int) : Prop := (x.n.pivots.length + x.n.kids.length = 0 ∧ (x.n.rows.length : Int) ≤ most ∧ least ≤ (x.n.rows.length : Int)) ∧ PairsR x.n.rows ∧ ∀ i (h : i < x.n.rows.length), x.s.has x.n.rows[i].key = true
instance (x : Seat) (k m : Int) : Decidable (Leaf17 x k m) := by unfold Leaf17; infer_instance
def Inner17 (x : Seat) (least most : Int) : Prop := (x.n.rows.length = 0 ∧ (x.n.kids.length : Int) ≤ most ∧ least ≤ (x.n.kids.length : Int)) ∧ ∀ i (h : i < x.n.pivots.length), x.s.has x.n.pivots[i] = true ∧ x.n.pivots[i] ≠ x.s.lo
instance (x : Seat) (k m : Int) : Decidable (Inner17 x k m) := by unfold Inner17; infer_instance
def Seat17 (c : Cfg) (top : Bool) (x : Seat) : Prop := if x.n.level = 0 then Leaf17 x (if top = true then 0 else c.leaf.tdiv 2) c.leaf else Inner17 x (if top = true then 2 else c.fan.tdiv 2) c.fan
instance (c : Cfg) (top : Bool) (x : Seat) : Decidable (Seat17 c top x) := by unfold Seat17; infer_instance
def Sound17 (c : Cfg) (l : List Nd) (ss : List Seat) : Prop := OnceP l ss ∧ ∀ i (h : i < ss.length), Seat17 c (decide (i = 0)) ss[i]
instance (c : Cfg) (l : List Nd) (ss : List Seat) : Decidable (Sound17 c l ss) := by unfold Sound17; infer_instance
/-! ## From the root down -/
noncomputable def wfF (c : Cfg) (l : List Nd) : Nat → Bool → Seat → Prop
  | 0, top, x => x.n.level = 0 ∧ Seat17 c top x
  | n + 1, top, x => x.n.level = ((n + 1 : Nat) : Int) ∧ (Z4 l x).isSome = true ∧ Seat17 c top x ∧ ∀ y ∈ Zj l x, wfF c l n false y
def SlotsNd (l : List Nd) : Prop := (l.map fun n : Nd => n.slot).Nodup
noncomputable def ZcK (l : List Nd) (n : Nat) (x : Seat) : List Int := (XD l n x).map fun y : Seat => y.n.slot
structure Good17 (c : Cfg) (root : Int) (l : List Nd) : Prop where
  found : (Zq l root).2 = true
  nd : SlotsNd l
  lvl : 0 ≤ (Zq l root).1.level
  wf : wfF c l (Zq l root).1.level.toNat true (Zg l root)
  pre : (ZcK l (Zq l root).1.level.toNat (Zg l root)).Nodup
  len : (ZcK l (Zq l root).1.level.toNat (Zg l root)).length = l.length
section
variable {c : Cfg} {l : List Nd} {root : Int}
theorem Zq9 {s : Int} (h : (Zq l s).2 = true) : (Zq l s).1.slot = s ∧ (Zq l s).1 ∈ l := by
  unfold Zq at h ⊢
  have h1 := of_decide_eq_true h
  cases e : (atS l s).getLast? with
  | none => rw [List.getLast?_eq_none_iff] at e; rw [e] at h1; simp at h1
  | some n =>
    have := List.mem_filter.1 (List.mem_of_getLast? e)
    exact ⟨of_decide_eq_true this.2, this.1⟩
theorem Zra {s : Int} (h : (Zq l s).2 = true) : Zq l (Zq l s).1.slot = ((Zq l s).1, true) := by rw [(Zq9 h).1, ← h]
theorem Zgv {x y : Seat} (hx : (Z4 l x).isSome = true) (hy : y ∈ Zj l x) : Zq l y.n.slot = (y.n, true) ∧ y.n.level = x.n.level - 1 ∧ 0 < x.n.level := by
  by_cases h0 : x.n.level = 0
  · rw [Xq h0] at hy; cases hy
  · obtain ⟨h1, h2, _, h4⟩ := Z5 hx h0
    rw [h1] at hy
    obtain ⟨j, hj, rfl⟩ := List.mem_map.1 hy
    have h5 := h4 j (List.mem_range.1 hj)
    unfold XC at h5
    rw [Bool.and_eq_true, decide_eq_true_eq] at h5
    exact ⟨Zra h5.1, h5.2, h2⟩
end
section
variable {c : Cfg} {l : List Nd} {root : Int}
/-! ## Going down with what has been met -/
structure After (l : List Nd) (n : Nat) (x : Seat) (mt mt' : List (Int × Bool)) : Prop where
  len : mt'.length = mt.length + (ZcK l n x).length
  get : ∀ s, ZP mt' s = if s ∈ ZcK l n x then some true else ZP mt s
noncomputable def Zee (l : List Nd) (n : Nat) (x : Seat) (j : Nat) : List Int := x.n.slot :: (Y8 l x j).flatMap (ZcK l n)
structure InK (c : Cfg) (l : List Nd) (n : Nat) (x : Seat) (mt : List (Int × Bool)) (j : Nat) (mt' : List (Int × Bool)) : Prop where
  len : mt'.length = mt.length + (Zee l n x j).length
  get : ∀ s, ZP mt' s = if s ∈ Zee l n x j then some true else ZP mt s
  nd : (Zee l n x j).Nodup
  no : ∀ s ∈ Zee l n x j, ZP mt s = none
  wf : ∀ i, i < j → wfF c l n false (Zb l x i)
  ok : ∀ i, i < j → XC l x i = true
end
section
variable {α : Type} {G : GH} {V : VEnc α} {P : Program} {t et : TypeId} {m : List (Int × α)}
end
/-! ## Nodes by their slots -/
structure Met (l : List Nd) (mt : List (Int × Bool)) : Prop where
  nd : (mt.map (·.1)).Nodup
  sub : ∀ s ∈ mt.map (·.1), s ∈ l.map fun n : Nd => n.slot
  tr : ∀ s, ZP mt s ≠ some false
theorem Met.none {l : List Nd} {mt : List (Int × Bool)} (h : Met l mt) {s : Int} (hs : (ZP mt s).getD false = false) : ZP mt s = none := by
  cases hg : ZP mt s with
  | none => rfl
  | some b =>
    cases b
    · exact absurd hg (h.tr s)
    · rw [hg] at hs; cases hs
/-! ## Seats without messages -/
theorem Zrb {m : Int} (h : i64 m) : -9223372036854775808 ≤ m.tdiv 2 ∧ m.tdiv 2 ≤ 9223372036854775807 := by
  obtain ⟨h1, h2⟩ := h
  rcases Int.le_total 0 m with h3 | h3
  · rw [Int.tdiv_eq_ediv_of_nonneg h3]; omega
  · have e : m.tdiv 2 = -((-m).tdiv 2) := by rw [Int.neg_tdiv]; omega
    rw [e, Int.tdiv_eq_ediv_of_nonneg (by omega)]; omega
theorem Zrc {α : Type} (q : α → Bool) (l : List α) : (!decide ((0 : Int) ≤ Yf q l)) = true ↔ ∀ x ∈ l, q x = false := by
  rcases ZbO q l with ⟨h, h2⟩ | ⟨k, hk, h, h2, _⟩
  · rw [h]; exact ⟨fun _ => h2, fun _ => rfl⟩
  · rw [h]
    constructor
    · intro h3; simp at h3
    · intro h3; rw [h3 _ (List.getElem_mem hk)] at h2; cases h2
/-! ## What goes through a plain tree -/
section
variable {c : Cfg} {l : List Nd} {lv slot : Int} {top : Bool} {x : Seat} {mt mt' : List (Int × Bool)} {rows rows' : List Pair}
end
/-! ## Halving -/
/-! ## Texts and rows that need not be sorted -/
/-! ## Going through any nodes -/
theorem Zrd {l : List Nd} {s : Int} (h : (ZP (YV l) s).isSome = true) : (ZP (YV l) s).getD Nd.zero ∈ l ∧ s ∈ l.map fun n : Nd => n.slot := by
  have h1 := Zfu l s l.length (Nat.le_refl _)
  rw [List.take_length] at h1
  rw [h1] at h ⊢
  cases e : (atS l s).getLast? with
  | none => rw [e] at h; cases h
  | some n =>
    have hm := List.mem_filter.1 (List.mem_of_getLast? e)
    exact ⟨hm.1, List.mem_map.2 ⟨n, hm.1, of_decide_eq_true hm.2⟩⟩
theorem Zre {l : List Nd} {s : Int} : (ZP (YV l) s).getD Nd.zero = Nd.zero ∨ (ZP (YV l) s).getD Nd.zero ∈ l := by
  cases h : (ZP (YV l) s).isSome
  · left
    cases e : ZP (YV l) s with
    | none => rfl
    | some _ => rw [e] at h; cases h
  · exact .inr (Zrd h).1
theorem SeatS.down {l : List Nd} (h : Sml l) {p : Nat} {x : Seat} (hx : SeatS l p x) (s : Int) : SeatS l (p + 1) ⟨(ZP (YV l) s).getD Nd.zero, Span.all, ZO [x.n.msgs, x.ms]⟩ := by
  refine ⟨Zre, ?_, ⟨by show Str.nil.b.size ≤ 4000; decide, by show Str.nil.b.size ≤ 4000; decide⟩, fun m hm => ?_⟩
  · have h1 := Zih [x.n.msgs, x.ms]
    have h3 := (h.at hx.nd).2.2.1
    have h4 := hx.ms
    have h5 : YW [] = 0 := rfl
    rw [Zbc, Zbc, h5] at h1
    show (ZO _).length ≤ _
    omega
  · obtain ⟨L, hL, hmL⟩ := Zoi.1 hm
    simp only [List.mem_cons, List.not_mem_nil, or_false] at hL
    rcases hL with rfl | rfl
    · exact (h.at hx.nd).2.2.2.2.2.1 m hmL
    · exact hx.key m hmL
/-! ## Counting -/
def wmN (l : List Nd) : Nat := (l.map fun n => n.msgs.length).sum
theorem ZkI {l : List Nd} {i : Nat} (h : i < l.length) : wmN (l.take (i + 1)) = wmN (l.take i) + l[i].msgs.length := by
  unfold wmN
  rw [List.take_succ_eq_append_getElem h, List.map_append, List.sum_append]; simp
theorem ZkJ {l : List Nd} (h : Sml l) : ∀ i, i ≤ l.length → wmN (l.take i) ≤ 4000 * i
  | 0, _ => by simp [wmN]
  | i + 1, hi => by
    have := ZkJ h i (by omega)
    have h2 := (h.at (.inr (List.getElem_mem (show i < l.length by omega)))).2.2.1
    rw [ZkI (by omega)]; omega
def lfN (l : List Nd) : Nat := (l.filter fun n => decide (n.level = 0)).length
theorem Zrf {l : List Nd} {i : Nat} (h : i < l.length) (h0 : l[i].level = 0) : lfN (l.take (i + 1)) = lfN (l.take i) + 1 := by
  unfold lfN
  rw [List.take_succ_eq_append_getElem h, List.filter_append, List.length_append]; simp [h0]
theorem Zrg {l : List Nd} {i : Nat} (h : i < l.length) (h0 : ¬ l[i].level = 0) : lfN (l.take (i + 1)) = lfN (l.take i) := by
  unfold lfN
  rw [List.take_succ_eq_append_getElem h, List.filter_append, List.length_append]; simp [h0]
theorem Zrh {l : List Nd} {i : Nat} : lfN (l.take i) ≤ i := by
  unfold lfN
  exact Nat.le_trans (List.length_filter_le _ _) (by rw [List.length_take]; omega)
def Zx (ss : List Seat) (v : Int) : List Seat := ss.filter fun x => decide (x.n.level = v)
noncomputable def lvK (l : List Nd) : Nat → List Seat
  | 0 => [Zg l 0]
  | k + 1 => (lvK l k).flatMap (Zj l)
theorem ZkK : ∀ (A : List Key9) {S : List Key9}, LkK (A ++ S) → LkK S
  | [], _, h => h
  | [x], S, h => by
    cases S with
    | nil => trivial
    | cons y T => exact h.2
  | x :: y :: A, S, h => ZkK (y :: A) h.2
theorem ZkL {v : Int} : ∀ (X B : List Seat), LkK ((X ++ B).map Seat.key) → (∀ x ∈ X, x.n.level = v) → (∀ y ∈ B, y.n.level ≠ v) → ∀ i (h : i < X.length), X[i].n.right = if h2 : i + 1 < X.length then X[i + 1].n.slot else -1
  | [], _, _, _, _, i, h => absurd h (Nat.not_lt_zero _)
  | [x], B, hk, hx, hB, i, h => by
    have : i = 0 := by simp at h; exact h
    subst this
    rw [dif_neg (by simp)]
    cases B with
    | nil => exact hk
    | cons y T =>
      have h1 : x.n.right = if y.n.level = x.n.level then y.n.slot else -1 := hk.1
      rw [if_neg (by rw [hx x (by simp)]; exact hB y (by simp))] at h1
      exact h1
  | x :: y :: X, B, hk, hx, hB, i, h => by
    have ih := ZkL (y :: X) B hk.2 (fun z hz => hx z (List.mem_cons_of_mem _ hz)) hB
    cases i with
    | zero =>
      have h1 : x.n.right = if y.n.level = x.n.level then y.n.slot else -1 := hk.1
      rw [if_pos (by rw [hx x (by simp), hx y (by simp)])] at h1
      rw [dif_pos (by simp)]
      exact h1
    | succ i =>
      have := ih i (by simpa using h)
      rw [List.getElem_cons_succ, this]
      by_cases h3 : i + 1 < (y :: X).length
      · rw [dif_pos h3, dif_pos (by simp at h3 ⊢; omega)]; rfl
      · rw [dif_neg h3, dif_neg (by simp at h3 ⊢; omega)]
section
variable {c : Cfg} {l : List Nd} {ss : List Seat}
theorem ZcL (t : Tree c l ss) : ∀ k : Nat, ∃ A R, ss = A ++ R ∧ R = lvK l k ++ R.flatMap (Zj l) ∧ (∀ y ∈ A, (Zg l 0).n.level - k < y.n.level) ∧ (∀ y ∈ R, y.n.level ≤ (Zg l 0).n.level - k) ∧ ∀ y ∈ lvK l k, y.n.level = (Zg l 0).n.level - k
  | 0 => ⟨[], ss, rfl, t.fix, fun y hy => by simp at hy, fun y hy => by have := (t.ms_small y hy).2; omega, fun y hy => by
      have : y = Zg l 0 := by simpa [lvK] using hy
      rw [this]; omega⟩
  | k + 1 => by
    obtain ⟨A, R, h1, h2, h3, h4, h5⟩ := ZcL t k
    have hR : ∀ y ∈ R, y ∈ ss := fun y hy => by rw [h1]; exact List.mem_append_right _ hy
    have hX : ∀ y ∈ lvK l k, y ∈ R := fun y hy => by rw [h2]; exact List.mem_append_left _ hy
    have hk : ∀ x ∈ R, ∀ y ∈ Zj l x, y.n.level = x.n.level - 1 := fun x hx y hy => (Zgv (t.kids (hR x hx)) hy).2.1
    refine ⟨A ++ lvK l k, R.flatMap (Zj l), by rw [List.append_assoc, ← h2]; exact h1, ?_, ?_, ?_, ?_⟩
    · conv => lhs; rw [h2]
      rw [List.flatMap_append]; rfl
    · intro y hy
      rcases List.mem_append.1 hy with hy | hy
      · have := h3 y hy; omega
      · have := h5 y hy; omega
    · intro y hy
      obtain ⟨x, hx, hxy⟩ := List.mem_flatMap.1 hy
      have := hk x hx y hxy
      have := h4 x hx; omega
    · intro y hy
      obtain ⟨x, hx, hxy⟩ := List.mem_flatMap.1 hy
      have := hk x (hX x hx) y hxy
      have := h5 x hx; omega
theorem Zri {α : Type} {p : α → Bool} : ∀ {L : List α}, (∀ x ∈ L, p x = true) → L.filter p = L := fun h => List.filter_eq_self.2 h
theorem Zgw {α : Type} {p : α → Bool} : ∀ {L : List α}, (∀ x ∈ L, p x = false) → L.filter p = [] := fun h => List.filter_eq_nil_iff.2 fun x hx => by simp [h x hx]
theorem ZcM (t : Tree c l ss) (k : Nat) : Zx ss ((Zg l 0).n.level - k) = lvK l k := by
  obtain ⟨A, R, h1, h2, h3, h4, h5⟩ := ZcL t k
  have hR : ∀ y ∈ R, y ∈ ss := fun y hy => by rw [h1]; exact List.mem_append_right _ hy
  unfold Zx
  rw [h1, List.filter_append, Zgw (fun y hy => decide_eq_false (by have := h3 y hy; omega)), List.nil_append, h2, List.filter_append, Zri (fun y hy => decide_eq_true (h5 y hy)), Zgw (fun y hy => ?_), List.append_nil]
  obtain ⟨x, hx, hxy⟩ := List.mem_flatMap.1 hy
  have := (Zgv (t.kids (hR x hx)) hxy).2.1
  have := h4 x hx
  exact decide_eq_false (by omega)
theorem ZkM (t : Tree c l ss) {v : Int} (h : v < 0 ∨ (Zg l 0).n.level < v) : Zx ss v = [] := Zgw fun y hy => decide_eq_false (by
  have := (t.ms_small y hy).2
  have := t.lvl hy
  omega)
theorem Zrj (t : Tree c l ss) : Zx ss (Zg l 0).n.level = [Zg l 0] := by
  have := ZcM t 0
  simpa [lvK] using this
theorem Zrk (t : Tree c l ss) {x : Seat} (hx : x ∈ ss) : ∃ k : Nat, x.n.level = (Zg l 0).n.level - k := ⟨((Zg l 0).n.level - x.n.level).toNat, by have := (t.ms_small x hx).2; omega⟩
theorem Zrl (t : Tree c l ss) {x : Seat} {C : List Seat} (h : Zx ss x.n.level = x :: C) (h0 : ¬ x.n.level = 0) : ∃ C', Zx ss (x.n.level - 1) = Zb l x 0 :: C' := by
  have hx : x ∈ ss := (List.mem_filter.1 (show x ∈ Zx ss x.n.level by rw [h]; simp)).1
  obtain ⟨k, hk⟩ := Zrk t hx
  have h1 := ZcM t k
  rw [← hk, h] at h1
  have h2 := ZcM t (k + 1)
  have hka := Z5 (t.kids hx) h0
  have hn : 0 < x.n.kids.length := by have := (YM hka.2.2.1).2; omega
  rw [show (Zg l 0).n.level - ((k + 1 : Nat) : Int) = x.n.level - 1 by omega, lvK, ← h1, List.flatMap_cons, hka.1] at h2
  obtain ⟨m, hm⟩ : ∃ m, x.n.kids.length = m + 1 := ⟨x.n.kids.length - 1, by omega⟩
  rw [hm] at h2
  have e : Y8 l x (m + 1) = Zb l x 0 :: ((List.range m).map Nat.succ).map (Zb l x) := by
    unfold Y8
    rw [List.range_succ_eq_map, List.map_cons]
  rw [e, List.cons_append] at h2
  exact ⟨_, h2⟩
theorem ZkN (t : Tree c l ss) (v : Int) : ∀ i (h : i < (Zx ss v).length), (Zx ss v)[i].n.right = if h2 : i + 1 < (Zx ss v).length then (Zx ss v)[i + 1].n.slot else -1 := by
  by_cases hv : v < 0 ∨ (Zg l 0).n.level < v
  · intro i h; rw [ZkM t hv] at h; exact absurd h (Nat.not_lt_zero _)
  · obtain ⟨k, hk⟩ : ∃ k : Nat, v = (Zg l 0).n.level - k := ⟨((Zg l 0).n.level - v).toNat, by omega⟩
    have hX : Zx ss v = lvK l k := by rw [hk]; exact ZcM t k
    obtain ⟨A, R, h1, h2, h3, h4, h5⟩ := ZcL t k
    have hR : ∀ y ∈ R, y ∈ ss := fun y hy => by rw [h1]; exact List.mem_append_right _ hy
    have hlk : LkK (ss.map Seat.key) := (Zbk ss).1 t.q.1.2.1
    rw [h1, List.map_append] at hlk
    have hlk2 := ZkK _ hlk
    rw [h2] at hlk2
    have := ZkL (v := v) (lvK l k) _ hlk2 (fun x hx => by rw [hk]; exact h5 x hx) (fun y hy => by
      obtain ⟨x, hx, hxy⟩ := List.mem_flatMap.1 hy
      have := (Zgv (t.kids (hR x hx)) hxy).2.1
      have := h4 x hx
      omega)
    rw [hX]; exact this
theorem ZkO (t : Tree c l ss) {v : Int} {i : Nat} (h : i < (Zx ss v).length) : (Zx ss v)[i] ∈ ss ∧ (Zx ss v)[i].n.level = v := by
  have := List.mem_filter.1 (List.getElem_mem h)
  exact ⟨this.1, of_decide_eq_true this.2⟩
theorem Tree.ss_len (t : Tree c l ss) : ss.length = l.length := t.q.1.1.1.symm
theorem ZkP (t : Tree c l ss) (v : Int) : (Zx ss v).length ≤ l.length := by
  have := List.length_filter_le (fun x : Seat => decide (x.n.level = v)) ss
  rw [t.ss_len] at this; exact this
def Zef (l : List Nd) (s : Int) : Nd × Bool := ((ZP (YV l) s).getD Nd.zero, (ZP (YV l) s).isSome)
theorem ZkQ (t : Tree c l ss) {v : Int} {i : Nat} (h : i + 1 < (Zx ss v).length) : Zef l ((Zx ss v)[i]'(by omega)).n.right = ((Zx ss v)[i + 1].n, true) := by
  have h1 := ZkN t v i (by omega)
  rw [dif_pos h] at h1
  have h2 := t.inMap (ZkO t h).1
  unfold Zef
  rw [h1, h2]; rfl
theorem Zrm (t : Tree c l ss) {v : Int} {i : Nat} (hi : i < (Zx ss v).length) (h : ¬ i + 1 < (Zx ss v).length) : Zef l (Zx ss v)[i].n.right = (Nd.zero, false) := by
  have h1 := ZkN t v i hi
  rw [dif_neg h] at h1
  have h2 := ZiW t.slot (-1)
  rw [if_neg (by omega)] at h2
  unfold Zef
  rw [h1, h2]; rfl
theorem Zrn (t : Tree c l ss) : Zam ss = Zam (Zx ss 0) := by
  have key : ∀ L : List Seat, (∀ x ∈ L, x ∈ ss) → Zam L = Zam (Zx L 0) := by
    intro L
    induction L with
    | nil => intro _; rfl
    | cons x L ih =>
      intro hL
      have ih := ih fun y hy => hL y (List.mem_cons_of_mem _ hy)
      unfold Zam Zx at ih ⊢
      rw [List.flatMap_cons, List.filter_cons, ih]
      by_cases h0 : x.n.level = 0
      · rw [if_pos (decide_eq_true h0), List.flatMap_cons]
      · rw [if_neg (by simpa using h0), t.norows (hL x (by simp)) h0]; rfl
  exact key ss fun x hx => hx
theorem ZkR (t : Tree c l ss) : (∀ x ∈ ss, JB c x.n) ↔ ∀ n ∈ l, JB c n := by
  constructor
  · intro h n hn
    obtain ⟨i, hi, rfl⟩ := List.getElem_of_mem hn
    have h1 := t.q.1.1.2 i hi
    have : 0 < (Zbf ss l[i].slot).length := by omega
    obtain ⟨x, hx⟩ := List.exists_mem_of_length_pos this
    obtain ⟨h2, h3⟩ := List.mem_filter.1 hx
    obtain ⟨h4, h5, _⟩ := t.nd h2
    have h6 := (t.slot i hi).1
    have e : x.n = l[i] := by
      rw [h5, show x.n.slot = ((i : Nat) : Int) by rw [of_decide_eq_true h3]; exact h6, Ju hi]
    rw [← e]; exact h x h2
  · intro h x hx
    exact h _ (t.nd hx).2.2
end
structure YS (P : Program) (l : Nat) where
  J : GH → List Nd → MH → Prop
  mono : ∀ {G G' : GH} {s : List Nd} {M : MH}, Le G G' → J G s M → J G' s M
  call : ∀ {G : GH} {s : List Nd} {M : MH} {cs : List Value} {x : Nd}, J G s M → NodeC G cs x → s.length < 4096 → NdS x → Yn P l [.agg (List.toArray cs)] G M (fun v G' M' => v = .bool true ∧ J G' (s ++ [x]) M')
def JR {P : Program} {l : Nat} (Y : YS P l) (G : GH) (s : List Nd) (M : MH) : Prop := Y.J G s M
theorem JR.mono {P : Program} {l : Nat} {Y : YS P l} {G G' : GH} {s : List Nd} {M : MH} (hl : Le G G') (h : JR Y G s M) : JR Y G' s M := Y.mono hl h
theorem pmE (r : Nat × Obj) (X : MH) : (r :: X).Perm (X ++ ([r] ++ [])) := by simpa using (List.perm_append_singleton r X).symm
def AccJ {α : Type} (e : Enc α) (tp TO : Nat) (h : List Nd → List α) (r : Nat × Obj) (b : Nat) (G : GH) (s : List Nd) (M : MH) : Prop :=
  (∀ y ∈ s, NdS y) ∧ ∃ v Mo, M = r :: ((b, Obj.cells (List.toArray [v]) TO (0, 0)) :: Mo) ∧ OwnR e tp G v (h s) Mo
theorem AccJ.mono {α : Type} {e : Enc α} {tp TO : Nat} {h : List Nd → List α} {r : Nat × Obj} {b : Nat} {G G' : GH} {s : List Nd} {M : MH} (hl : Le G G') (hJ : AccJ e tp TO h r b G s M) : AccJ e tp TO h r b G' s M := by
  obtain ⟨h0, v, Mo, h1, h2⟩ := hJ
  exact ⟨h0, v, Mo, h1, h2.mono hl⟩
theorem AccJ.next {P : Program} {α : Type} {e : Enc α} {tp TO : Nat} {h : List Nd → List α} {r : Nat × Obj} {l b : Nat} {G : GH} {s : List Nd} {x : Nd} {M : MH} {vx : Value} (h0 : ∀ y ∈ s, NdS y) (hx : NdS x)
    (hy : Yn P l [vx] G (r :: M) (fun v G' M' => v = .bool true ∧ ∃ R, M' = r :: R ∧ ∃ v Mo, R = (b, Obj.cells (List.toArray [v]) TO (0, 0)) :: Mo ∧ OwnR e tp G' v (h (s ++ [x])) Mo)) : Yn P l [vx] G (r :: M) (fun v G' M' => v = .bool true ∧ AccJ e tp TO h r b G' (s ++ [x]) M') :=
  hy.mono fun v G' M' _ ⟨h1, R, h2, v', Mo, h3, h4⟩ => ⟨h1, fun y hy => by
    rcases List.mem_append.1 hy with hy | hy
    · exact h0 y hy
    · rw [List.mem_singleton] at hy; rw [hy]; exact hx, v', Mo, by rw [h2, h3], h4⟩
theorem ZkS : ∀ {s : List Nd}, (∀ y ∈ s, NdS y) → (s.flatMap fun n => n.rows).length ≤ 4000 * s.length
  | [], _ => by simp
  | y :: s, h => by
    have ih := ZkS (s := s) fun z hz => h z (List.mem_cons_of_mem _ hz)
    have h1 := (h y (by simp)).2.2.2.1
    rw [List.flatMap_cons, List.length_append, List.length_cons]; omega
section
variable {c : Cfg} {l : List Nd} {ss : List Seat}
theorem Zro (t : Tree c l ss) {v : Int} {i : Nat} (h : i < (Zx ss v).length) : (ZP (YV l) (Zx ss v)[i].n.right).isSome = decide (i + 1 < (Zx ss v).length) := by
  by_cases h2 : i + 1 < (Zx ss v).length
  · have := ZkQ t h2
    rw [decide_eq_true h2]; exact congrArg Prod.snd this
  · have := Zrm t h h2
    rw [decide_eq_false h2]; exact congrArg Prod.snd this
theorem Zrp (t : Tree c l ss) {v : Int} {i : Nat} (h2 : i + 1 < (Zx ss v).length) : (ZP (YV l) ((Zx ss v)[i]'(by omega)).n.right).getD Nd.zero = (Zx ss v)[i + 1].n := congrArg Prod.fst (ZkQ t h2)
def Za0 (ss : List Seat) (v : Int) (i : Nat) : List Nd := ((Zx ss v).take i).map fun x : Seat => x.n
theorem Zrq {v : Int} {i : Nat} (h : i < (Zx ss v).length) : Za0 ss v (i + 1) = Za0 ss v i ++ [(Zx ss v)[i].n] := by
  unfold Za0
  rw [List.take_succ_eq_append_getElem h, List.map_append]; rfl
theorem Zrr (ss : List Seat) (v : Int) (i : Nat) : (Za0 ss v i).length ≤ i := by
  unfold Za0; rw [List.length_map, List.length_take]; omega
theorem Zrs {v : Int} {i : Nat} (h : (Zx ss v).length ≤ i) : Za0 ss v i = (Zx ss v).map fun x : Seat => x.n := by
  unfold Za0; rw [List.take_of_length_le h]
theorem Zrt (t : Tree c l ss) : (List.flatMap (fun n : Nd => n.rows) ((Zx ss 0).map fun x : Seat => x.n)) = Zam ss := by
  rw [Zrn t]
  unfold Zam
  rw [List.flatMap_map]
def JC (c : Cfg) (n : Nd) : Bool := decide (¬ n.slot = 0) && (decide (0 < n.level) && decide ((n.kids.length : Int) < c.fan.tdiv 2))
def FillA (c : Cfg) (T : List Seat) : Prop := ∀ x ∈ T, JB c x.n
instance (c : Cfg) (T : List Seat) : Decidable (FillA c T) := by unfold FillA; infer_instance
theorem Zru (t : Tree c l ss) : (!decide ((0 : Int) ≤ Yf (JC c) l)) = decide (FillA c ss) := by
  rw [Bool.eq_iff_iff, Zrc, decide_eq_true_eq]
  unfold FillA
  rw [ZkR t]
  have hl : ∀ n ∈ l, 0 ≤ n.level := fun n hn => by
    obtain ⟨i, hi, rfl⟩ := List.getElem_of_mem hn
    have h1 := t.q.1.1.2 i hi
    have : 0 < (Zbf ss l[i].slot).length := by omega
    obtain ⟨x, hx⟩ := List.exists_mem_of_length_pos this
    obtain ⟨h2, h3⟩ := List.mem_filter.1 hx
    obtain ⟨h4, h5, _⟩ := t.nd h2
    have e : x.n = l[i] := by
      rw [h5, show x.n.slot = ((i : Nat) : Int) by rw [of_decide_eq_true h3]; exact (t.slot i hi).1, Ju hi]
    rw [← e]; exact t.lvl h2
  constructor
  · intro h n hn
    have h1 := h n hn
    have h2 := hl n hn
    unfold JC at h1
    unfold JB
    by_cases a : n.slot = 0
    · exact .inl a
    · by_cases b : n.level = 0
      · exact .inr (.inl b)
      · refine .inr (.inr ?_)
        rw [decide_eq_true a, decide_eq_true (by omega : 0 < n.level), Bool.true_and, Bool.true_and] at h1
        have := of_decide_eq_false h1
        omega
  · intro h n hn
    unfold JC
    rcases h n hn with a | b | d
    · rw [decide_eq_false (fun h => h a)]; rfl
    · rw [decide_eq_false (p := 0 < n.level) (by omega), Bool.false_and, Bool.and_false]
    · rw [decide_eq_false (p := (n.kids.length : Int) < c.fan.tdiv 2) (by omega), Bool.and_false, Bool.and_false]
theorem ZkT : ∀ l : List Nd, decide (((wmN l : Nat) : Int) = 0) = Xd l
  | [] => rfl
  | n :: l => by
    have ih := ZkT l
    have e : wmN (n :: l) = n.msgs.length + wmN l := by unfold wmN; rw [List.map_cons, List.sum_cons]
    have e2 : Xd (n :: l) = (!isM n && Xd l) := by unfold Xd; rw [List.all_cons]
    rw [e, e2, ← ih]
    unfold isM
    by_cases h : n.msgs.length = 0
    · rw [h]; simp
    · rw [decide_eq_true (p := (0 : Int) < (n.msgs.length : Int)) (by omega), decide_eq_false (by omega)]; rfl
theorem Zrv (t : Tree c l ss) {v : Int} {x : Seat} {C : List Seat} (h : Zx ss x.n.level = x :: C) (h1 : v ≤ x.n.level ∨ x = Zg l 0) (h2 : x.n.level ≤ max v 0) : decide (x.n.level = v) = decide (0 < (Zx ss v).length) ∧ ∀ hp : 0 < (Zx ss v).length, x.n = (Zx ss v)[0].n := by
  have hx : x ∈ ss := (List.mem_filter.1 (show x ∈ Zx ss x.n.level by rw [h]; simp)).1
  have h0 := t.lvl hx
  by_cases e : x.n.level = v
  · subst e
    refine ⟨?_, fun hp => ?_⟩
    · rw [h]; simp
    · have : (Zx ss x.n.level)[0] = x := by
        have : (Zx ss x.n.level)[0]? = some x := by rw [h]; rfl
        rw [List.getElem?_eq_getElem hp] at this
        exact Option.some.inj this
      rw [this]
  · have hn : Zx ss v = [] := ZkM t (by
      rcases h1 with h1 | rfl
      · left; omega
      · omega)
    refine ⟨?_, fun hp => ?_⟩
    · rw [hn, decide_eq_false e]; rfl
    · rw [hn] at hp; exact absurd hp (Nat.lt_irrefl 0)
end
end Go.Fw
namespace Go.Proofs.YtbbemibbmbmamaaGreat
open Go.Fw
theorem ZkU : tyK Tryz.prog 23 = some (true, 5) := by kernel_rfl
theorem Zrw : Ye Tryz.prog 23 = some [.int .i64 0, .int .i64 0, .int .i64 0, .int .i64 0, .int .i64 0] := by kernel_rfl
theorem Zeg : ZY Tryz.prog 24 = some 36 := by kernel_rfl
theorem ZkV : tyK Tryz.prog 36 = some (true, 7) := by kernel_rfl
theorem Zrx : Ye Tryz.prog 36 = some [.int .i64 0, .string ⟨#[]⟩, .string ⟨#[]⟩, .bool false, .string ⟨#[]⟩, .int .i64 0, .int .i64 0] := by kernel_rfl
theorem Zry : Xy Tryz.prog 36 = some 80 := by kernel_rfl
theorem Zrz : ZK Tryz.prog 23 3 = some 3 := by kernel_rfl
theorem ty3 : tyK Tryz.prog 3 = some (false, 1) := by kernel_rfl
theorem zr3 : Ye Tryz.prog 3 = some [.int .i64 0] := by kernel_rfl
theorem ZcN : tyK Tryz.prog 38 = some (true, 4) := by kernel_rfl
theorem ZkW : Ye Tryz.prog 38 = some [.int .i64 0, .bool false, .string ⟨#[]⟩, .slice none 0 0] := by kernel_rfl
theorem ZrA : ZK Tryz.prog 36 0 = some 0 := by kernel_rfl
theorem ZrB : tyK Tryz.prog 34 = some (true, 6) := by kernel_rfl
theorem ZL : ZY Tryz.prog 32 = some 74 := by kernel_rfl
theorem ZM : tyK Tryz.prog 74 = some (true, 2) := by kernel_rfl
theorem XN : Ye Tryz.prog 74 = some [.string ⟨#[]⟩, .string ⟨#[]⟩] := by kernel_rfl
theorem Zbs : Xy Tryz.prog 74 = some 32 := by kernel_rfl
theorem ZrC : ZK Tryz.prog 36 1 = some 6 := by kernel_rfl
theorem Xm : ZY Tryz.prog 49 = some 60 := by kernel_rfl
theorem Yd : tyK Tryz.prog 60 = some (true, 10) := by kernel_rfl
theorem Zm : Ye Tryz.prog 60 = some [.int .i64 0, .int .i64 0, .slice none 0 0, .slice none 0 0, .string ⟨#[]⟩, .bool false, .int .i64 0, .int .i64 0, .slice none 0 0, .slice none 0 0] := by kernel_rfl
theorem ZaN : Xy Tryz.prog 60 = some 152 := by kernel_rfl
theorem bo4 : Tryz.prog.underlying 4 = some .bool := by kernel_rfl
theorem ZkX : ZK Tryz.prog 60 9 = some 9 := by kernel_rfl
theorem ZcO : tyK Tryz.prog 32 = some (false, 1) := by kernel_rfl
theorem ZrD : Ye Tryz.prog 32 = some [.slice none 0 0] := by kernel_rfl
theorem Zbt : Zbz Tryz.prog 27 = true := by kernel_rfl
theorem ZrE : ZK Tryz.prog 38 0 = some 0 := by kernel_rfl
theorem ZrF : tyK Tryz.prog 28 = some (false, 1) := by kernel_rfl
theorem ZrG : ZK Tryz.prog 34 0 = some 0 := by kernel_rfl
theorem ZrH : JX Tryz.prog 38 = some [(0, 1), (1, 1), (2, 1), (3, 1)] := by kernel_rfl
theorem ZkY : ZK Tryz.prog 60 1 = some 1 := by kernel_rfl
theorem ZrI : ZK Tryz.prog 23 0 = some 0 := by kernel_rfl
theorem ZrJ : ZK Tryz.prog 23 1 = some 1 := by kernel_rfl
theorem ZrK : ZK Tryz.prog 38 1 = some 1 := by kernel_rfl
theorem ty4 : tyK Tryz.prog 4 = some (false, 1) := by kernel_rfl
theorem zr4 : Ye Tryz.prog 4 = some [.bool false] := by kernel_rfl
theorem ZrL : ZK Tryz.prog 38 2 = some 2 := by kernel_rfl
theorem ty9 : tyK Tryz.prog 9 = some (false, 1) := by kernel_rfl
theorem zr9 : Ye Tryz.prog 9 = some [.string ⟨#[]⟩] := by kernel_rfl
theorem st9 : Tryz.prog.underlying 9 = some .string := by kernel_rfl
theorem ZrM : JX Tryz.prog 74 = some [(0, 1), (1, 1)] := by kernel_rfl
theorem ZrN : Ye Tryz.prog 79 = some [.pointer none, .string ⟨#[]⟩] := by kernel_rfl
theorem ZrO : JX Tryz.prog 79 = some [(0, 1), (1, 1)] := by kernel_rfl
theorem ZrP : ZK Tryz.prog 23 2 = some 2 := by kernel_rfl
theorem ZrQ : ZK Tryz.prog 23 4 = some 4 := by kernel_rfl
theorem ZrR : ZK Tryz.prog 34 1 = some 1 := by kernel_rfl
theorem ZrS : ZK Tryz.prog 34 5 = some 5 := by kernel_rfl
theorem ZrT : ZK Tryz.prog 38 3 = some 3 := by kernel_rfl
theorem ZrU : ZK Tryz.prog 34 2 = some 2 := by kernel_rfl
theorem ZrV : ZK Tryz.prog 34 3 = some 3 := by kernel_rfl
theorem ZrW : ZK Tryz.prog 34 4 = some 4 := by kernel_rfl
theorem Z7 : tyK Tryz.prog 87 = some (true, 6) := by kernel_rfl
theorem Z1 : Ye Tryz.prog 87 = some [.int .i64 0, .int .i64 0, .string ⟨#[]⟩, .string ⟨#[]⟩, .bool false, .string ⟨#[]⟩] := by kernel_rfl
theorem Zgx : JX Tryz.prog 87 = some [(0, 1), (1, 1), (2, 1), (3, 1), (4, 1), (5, 1)] := by kernel_rfl
theorem ZrX : ZK Tryz.prog 79 0 = some 0 := by kernel_rfl
theorem ZrY : tyK Tryz.prog 75 = some (false, 1) := by kernel_rfl
theorem ZrZ : ZK Tryz.prog 79 1 = some 1 := by kernel_rfl
theorem Zr0 : Zez Tryz.prog 74 = some [.string, .string] := by kernel_rfl
theorem Zr1 : ZK Tryz.prog 60 0 = some 0 := by kernel_rfl
theorem Zb6 : tyK Tryz.prog 58 = some (false, 1) := by kernel_rfl
theorem Zeh : Ye Tryz.prog 58 = some [.slice none 0 0] := by kernel_rfl
theorem Z2 : ZY Tryz.prog 58 = some 87 := by kernel_rfl
theorem JP : Xy Tryz.prog 87 = some 72 := by kernel_rfl
theorem Zr2 : ZK Tryz.prog 87 0 = some 0 := by kernel_rfl
theorem Zr3 : ZK Tryz.prog 60 7 = some 7 := by kernel_rfl
theorem Yt : tyK Tryz.prog 62 = some (true, 3) := by kernel_rfl
theorem ZU : Ye Tryz.prog 62 = some [.string ⟨#[]⟩, .string ⟨#[]⟩, .bool false] := by kernel_rfl
theorem JD : JX Tryz.prog 62 = some [(0, 1), (1, 1), (2, 1)] := by kernel_rfl
theorem Zr4 : ZK Tryz.prog 60 2 = some 2 := by kernel_rfl
theorem Zr5 : tyK Tryz.prog 56 = some (false, 1) := by kernel_rfl
theorem Zr6 : ZK Tryz.prog 60 3 = some 3 := by kernel_rfl
theorem Zr7 : tyK Tryz.prog 57 = some (false, 1) := by kernel_rfl
theorem Yb : ZY Tryz.prog 56 = some 9 := by kernel_rfl
theorem by9 : Xy Tryz.prog 9 = some 16 := by kernel_rfl
theorem Z8 : ZY Tryz.prog 57 = some 3 := by kernel_rfl
theorem by3 : Xy Tryz.prog 3 = some 8 := by kernel_rfl
theorem Zr8 : ZK Tryz.prog 60 8 = some 8 := by kernel_rfl
theorem Zb7 : ZY Tryz.prog 107 = some 58 := by kernel_rfl
theorem ZkZ : Xy Tryz.prog 58 = some 24 := by kernel_rfl
theorem Zr9 : ZK Tryz.prog 74 0 = some 0 := by kernel_rfl
theorem Zsa : Ye Tryz.prog 139 = some [.int .i64 0, .int .i64 0, .int .i64 0, .int .i64 0, .int .i64 0, .pointer none] := by kernel_rfl
theorem Zsb : JX Tryz.prog 139 = some [(0, 5), (5, 1)] := by kernel_rfl
theorem Zsc : ZK Tryz.prog 74 1 = some 1 := by kernel_rfl
theorem Zsd : ZK Tryz.prog 87 1 = some 1 := by kernel_rfl
theorem Zse : ZK Tryz.prog 87 2 = some 2 := by kernel_rfl
theorem Zk0 : ZK Tryz.prog 62 0 = some 0 := by kernel_rfl
theorem Zgy : ZK Tryz.prog 62 2 = some 2 := by kernel_rfl
theorem Zgz : ZK Tryz.prog 62 1 = some 1 := by kernel_rfl
theorem Zan : Zbz Tryz.prog 75 = true := by kernel_rfl
theorem Zsf : ZK Tryz.prog 139 1 = some 5 := by kernel_rfl
theorem Zsg : tyK Tryz.prog 135 = some (false, 1) := by kernel_rfl
theorem Zk1 : ZK Tryz.prog 60 6 = some 6 := by kernel_rfl
theorem Zsh : ZK Tryz.prog 60 5 = some 5 := by kernel_rfl
theorem Zsi : ZK Tryz.prog 60 4 = some 4 := by kernel_rfl
theorem ZaO : JX Tryz.prog 60 = some [(0, 1), (1, 1), (2, 1), (3, 1), (4, 1), (5, 1), (6, 1), (7, 1), (8, 1), (9, 1)] := by kernel_rfl
theorem ZgA : tyK Tryz.prog 49 = some (false, 1) := by kernel_rfl
theorem Zb8 : ZY Tryz.prog 168 = some 4 := by kernel_rfl
theorem by4 : Xy Tryz.prog 4 = some 1 := by kernel_rfl
theorem Zsj : tyK Tryz.prog 169 = some (false, 1) := by kernel_rfl
theorem Xw : ZY Tryz.prog 169 = some 3 := by kernel_rfl
theorem ZgB : Za6 Tryz.prog 173 = true := by kernel_rfl
theorem pi3 : Za6 Tryz.prog 3 = true := by kernel_rfl
theorem Zsk : tyK Tryz.prog 168 = some (false, 1) := by kernel_rfl
theorem Zsl : tyK Tryz.prog 132 = some (true, 2) := by kernel_rfl
theorem J9 : Ye Tryz.prog 132 = some [.int .i64 0, .string ⟨#[]⟩] := by kernel_rfl
theorem Za1 : JX Tryz.prog 132 = some [(0, 1), (1, 1)] := by kernel_rfl
theorem Zsm : ZK Tryz.prog 87 5 = some 5 := by kernel_rfl
theorem Zk2 : Ye Tryz.prog 189 = some [.slice none 0 0, .slice none 0 0, .slice none 0 0] := by kernel_rfl
theorem Zk3 : JX Tryz.prog 189 = some [(0, 1), (1, 1), (2, 1)] := by kernel_rfl
theorem Zsn : ZK Tryz.prog 189 2 = some 2 := by kernel_rfl
theorem Zso : ZK Tryz.prog 87 3 = some 3 := by kernel_rfl
theorem Zsp : ZK Tryz.prog 87 4 = some 4 := by kernel_rfl
theorem Je : ZY Tryz.prog 193 = some 62 := by kernel_rfl
theorem Zb9 : Xy Tryz.prog 62 = some 40 := by kernel_rfl
theorem Zca : Zbz Tryz.prog 135 = true := by kernel_rfl
theorem Zsq : ZK Tryz.prog 189 1 = some 1 := by kernel_rfl
theorem Zsr : ZK Tryz.prog 189 0 = some 0 := by kernel_rfl
theorem Zss : ZK Tryz.prog 132 0 = some 0 := by kernel_rfl
theorem Zst : ZK Tryz.prog 132 1 = some 1 := by kernel_rfl
theorem Zk4 : ZeA Tryz.prog 23 1 = some (false, 1, 1) := by kernel_rfl
theorem Zk5 : ZeA Tryz.prog 23 2 = some (false, 2, 1) := by kernel_rfl
theorem Zsu : ZK Tryz.prog 139 0 = some 0 := by kernel_rfl
theorem un3 : Tryz.prog.underlying 3 = some (.int .i64) := by kernel_rfl
theorem Zcb : Tryz.prog.underlying 255 = some (.int .u64) := by kernel_rfl
theorem XZ : ZY Tryz.prog 269 = some 271 := by kernel_rfl
theorem YQ : tyK Tryz.prog 271 = some (true, 2) := by kernel_rfl
theorem JQ : Ye Tryz.prog 271 = some [.slice none 0 0, .int .i64 0] := by kernel_rfl
theorem Zk6 : Xy Tryz.prog 271 = some 32 := by kernel_rfl
theorem Zsv : tyK Tryz.prog 269 = some (false, 1) := by kernel_rfl
theorem ZgC : Za6 Tryz.prog 267 = true := by kernel_rfl
theorem Zsw : JX Tryz.prog 271 = some [(0, 1), (1, 1)] := by kernel_rfl
theorem ZcP : Za6 Tryz.prog 271 = true := by kernel_rfl
theorem Zsx : ZK Tryz.prog 271 0 = some 0 := by kernel_rfl
theorem Zsy : ZK Tryz.prog 271 1 = some 1 := by kernel_rfl
theorem Zsz : Callable Tryz.prog 34 := Zl2 Tryz.func34 rfl (by decide)
theorem mix : Tryz.prog.follows .mixedOrders = true := by kernel_rfl
end Go.Proofs.YtbbemibbmbmamaaGreat
theorem List.Sublist.k9 {α : Type} {a : α} {l l' : List α} (h : l.Sublist l') : (a :: l).Sublist (a :: l') := h.cons_cons a
namespace Go.Fw
open Go Go.RowKit
theorem sn9 {α : Type} {l : List α} : List.Sublist [] l := List.nil_sublist l
theorem sr9 {α : Type} {l : List α} : List.Sublist l l := List.Sublist.refl l
theorem pr9 {α : Type} {l : List α} : List.Perm l l := List.Perm.refl l
abbrev nd9 {a b : Int} {c : Option Addr} {d e : Nat} {f : Option Addr} {g h : Nat} {i : ByteArray} {j : Bool} {k l : Int} {m : Option Addr} {n o : Nat} {p : Option Addr} {q r : Nat} : List Value := [.int .i64 a, .int .i64 b, .slice c d e, .slice f g h, .string i, .bool j, .int .i64 k, .int .i64 l, .slice m n o, .slice p q r]
abbrev ndl (x : Nd) (a1 : Option Addr) (c1 : Nat) (a2 : Option Addr) (c2 : Nat) (a3 : Option Addr) (c3 : Nat) (a4 : Option Addr) (c4 : Nat) : List Value := [.int .i64 x.slot, .int .i64 x.level, .slice a1 x.pivots.length c1, .slice a2 x.kids.length c2, .string x.high.b, .bool x.top, .int .i64 x.right, .int .i64 x.seen, .slice a3 x.msgs.length c3, .slice a4 x.rows.length c4]
abbrev ms9 {a b : Int} {c d : ByteArray} {e : Bool} {f : ByteArray} : List Value := [.int .i64 a, .int .i64 b, .string c, .string d, .bool e, .string f]
abbrev sp9 {a b : ByteArray} {c : Bool} : List Value := [.string a, .string b, .bool c]
abbrev cf9 {a b c d e : Int} : List Value := [.int .i64 a, .int .i64 b, .int .i64 c, .int .i64 d, .int .i64 e]
abbrev ic9 {a : Int} : List Value := [.int .i64 a]
abbrev sc9 {a : ByteArray} : List Value := [.string a]
abbrev bc9 {a : Bool} : List Value := [.bool a]
abbrev lc9 {a : Option Addr} {b c : Nat} : List Value := [.slice a b c]
abbrev ef9 {a : Int} {b : ByteArray} : List Value := [.int .i64 a, .string b]
abbrev pr29 {a b : ByteArray} : List Value := [.string a, .string b]
theorem Zao {E : Env} {f : Fr} {G : GH} {M : MH} {d : Nat} {t ty : TypeId} {pos : String} {aft : Array Edge} {x : Operand} (i : Nat) (vs : List Value) {b o : Nat} {L : List Value} {T : TypeId} {bb : Bool} {j : Nat} (ht : tyK E.P t = some (bb, j))
    (hq : (ev f x, Jg M i, (L.drop o).take j, vs.length) = (.pointer (some ⟨b, o, none⟩), some (b, .cells L.toArray T (0, 0)), vs, j)) (hb : bb = false → j = 1 := by simp) : Ok E f G M ⟨some d, .load t x, ty, pos, aft, none⟩ (mkV bb vs) := by
  obtain ⟨h1, h⟩ := Prod.mk.inj hq
  obtain ⟨h2, h⟩ := Prod.mk.inj h
  obtain ⟨h3, h4⟩ := Prod.mk.inj h
  exact Zex ht h1 h2 h3 h4 hb
theorem W.fb {E : Env} {f : Fr} {G : GH} {M : MH} {ops rest : List Oper} {q : Bool} {K : Kt} {d : Nat} {t ty : TypeId} {pos : String} {aft : Array Edge} {x : Operand} {b o off j : Nat} (ht : ZK E.P t j = some off) (hx : ev f x = .pointer (some ⟨b, o, none⟩))
    (k : W E ops.toArray q rest (upd f d (.pointer (some ⟨b, o + off, none⟩))) G M K) (hd : Nat.blt d E.n = true := by rfl) : W E ops.toArray q (⟨some d, .fieldAddr t x j, ty, pos, aft, none⟩ :: rest) f G M K := W.ok (Zl0 ht hx) k hd
theorem W.st {E : Env} {f : Fr} {G : GH} {M : MH} {ops rest : List Oper} {K : Kt} {t ty : TypeId} {pos : String} {aft : Array Edge} {x y : Operand} (i : Nat) (vs L' : List Value) {b o : Nat} {L : List Value} {T : TypeId} {bb : Bool} {j : Nat} {v : Value} (ht : tyK E.P t = some (bb, j))
    (hq : (ev f x, Jg M i, ev f y, v.cells.toList, vs.length, vs.all Value.oneCell', Nat.ble (o + j) L.length, Yr L o vs) = (.pointer (some ⟨b, o, none⟩), some (b, .cells L.toArray T (0, 0)), v, vs, j, true, true, L'))
    (k : W E ops.toArray false rest f G (Xn M i (.cells L'.toArray T (0, 0))) K) : W E ops.toArray false (⟨none, .store t x y, ty, pos, aft, none⟩ :: rest) f G M K := by
  obtain ⟨h1, h⟩ := Prod.mk.inj hq
  obtain ⟨h2, h⟩ := Prod.mk.inj h
  obtain ⟨h3, h⟩ := Prod.mk.inj h
  obtain ⟨h4, h⟩ := Prod.mk.inj h
  obtain ⟨h5, h⟩ := Prod.mk.inj h
  obtain ⟨h6, h⟩ := Prod.mk.inj h
  obtain ⟨h7, h8⟩ := Prod.mk.inj h
  exact W.store ht h1 h2 h3 h4 h5 h6 h7 h8 k
theorem W.y9 {E : Env} {f : Fr} {G : GH} {M : MH} {ops rest : List Oper} {q : Bool} {K : Kt} {op : Op} {ty : TypeId} {pos : String} {aft : Array Edge} {dst : Option Nat} {j dj : Nat} {want b : Bool} (hn : b = want) (hq : ((ops.toArray[j]?).bind (·.dst), f dj) = (some dj, .bool b))
    (k : W E ops.toArray q (⟨dst, op, ty, pos, aft, none⟩ :: rest) f G M K) (hdj : Nat.blt dj E.n = true := by rfl) : W E ops.toArray q (⟨dst, op, ty, pos, aft, some (j, want)⟩ :: rest) f G M K := W.yes (Prod.mk.inj hq).1 (Prod.mk.inj hq).2 hn k hdj
theorem W.n8 {E : Env} {f : Fr} {G : GH} {M : MH} {ops rest : List Oper} {q : Bool} {K : Kt} {d : Nat} {op : Op} {ty : TypeId} {pos : String} {aft : Array Edge} {j dj : Nat} {want b : Bool} (hn : b = !want) (hq : ((ops.toArray[j]?).bind (·.dst), f dj) = (some dj, .bool b))
    (k : W E ops.toArray q rest (upd f d undef) G M K) (hd : Nat.blt d E.n = true := by rfl) : W E ops.toArray q (⟨some d, op, ty, pos, aft, some (j, want)⟩ :: rest) f G M K := W.no (Prod.mk.inj hq).1 (Prod.mk.inj hq).2 hn k hd
theorem W.nt {E : Env} {f : Fr} {G : GH} {M : MH} {ops : List Oper} {q : Bool} {K : Kt} {Q : Exit → Kt} (h : K f G M) : W E ops.toArray q [] f G M (thn K Q .normal) := W.nil (Xg h)
theorem WC.sr {E : Env} {f : Fr} {G : GH} {M : MH} {Q : Exit → Kt} {id : Nat} {l : List Oper} {y : Code} (h : W E l.toArray false l f G M (thn (WC E y Q) Q .normal)) : WC E (.seq (.region id l.toArray false) y) Q f G M := WC.seq (WC.region h)
theorem W.ns {E : Env} {f : Fr} {G : GH} {M : MH} {ops : List Oper} {q : Bool} {Q Q' : Exit → Kt} {id : Nat} {l : List Oper} {y : Code} (h : W E l.toArray false l f G M (thn (WC E y Q) Q .normal)) : W E ops.toArray q [] f G M (thn (WC E (.seq (.region id l.toArray false) y) Q) Q' .normal) := W.nt (WC.sr h)
theorem W.an {E : Env} {f : Fr} {G : GH} {M : MH} {ops : List Oper} {q : Bool} {K : Kt} {Q : Exit → Kt} {d : Nat} {ty : TypeId} {pos : String} {aft : Array Edge} {x : Operand} (k : K (upd f d (ev f x)) G M) (hd : Nat.blt d E.n = true := by rfl) : W E ops.toArray q [⟨some d, .assign x, ty, pos, aft, none⟩] f G M (thn K Q .normal) := W.as (W.nt k) hd
theorem WC.sk {E : Env} {f : Fr} {G : GH} {M : MH} {K : Kt} {Q : Exit → Kt} (h : K f G M) : WC E .skip (thn K Q) f G M := WC.skip (Xg h)
theorem WC.rt {E : Env} {f : Fr} {G : GH} {M : MH} {K : Kt} {Q : Exit → Kt} (h : Q .ret f G M) : WC E .ret (thn K Q) f G M := WC.ret (ZlS h)
theorem WD.dn {E : Env} {f : Fr} {G : GH} {M Mk : MH} {ops : Array Oper} {K : Kt} {Q : Exit → Kt} {fuel : Nat} {listed : Array Bool} (h : K f G M) (hr : Region.ready .any ops listed = [] := by kernel_rfl) : WD E ops fuel listed f G M Mk (thn K Q .normal) := WD.done hr (Xg h)
theorem odt {p : Prop} [Decidable p] (h : decide p = true) : p := of_decide_eq_true h
theorem odf {p : Prop} [Decidable p] (h : decide p = false) : ¬ p := of_decide_eq_false h
theorem nk9 {G : GH} {n : Nd} {a1 a2 a3 a4 : Option Addr} {c1 c2 c3 c4 : Nat} (h1 : SlR Yh G (.slice a1 n.pivots.length c1) n.pivots) (h2 : SlR ZA G (.slice a2 n.kids.length c2) n.kids) (h3 : SlR Zu G (.slice a3 n.msgs.length c3) n.msgs) (h4 : SlR Zp G (.slice a4 n.rows.length c4) n.rows) (h : n.Ok) :
    NodeC G [.int .i64 n.slot, .int .i64 n.level, .slice a1 n.pivots.length c1, .slice a2 n.kids.length c2, .string n.high.b, .bool n.top, .int .i64 n.right, .int .i64 n.seen, .slice a3 n.msgs.length c3, .slice a4 n.rows.length c4] n := ⟨_, _, _, _, _, _, _, _, rfl, h1, h2, h3, h4, h⟩
theorem nm9 {G G' : GH} {n : Nd} {a1 a2 a3 a4 : Option Addr} {c1 c2 c3 c4 : Nat} (hl : Le G G') (h1 : SlR Yh G (.slice a1 n.pivots.length c1) n.pivots) (h2 : SlR ZA G (.slice a2 n.kids.length c2) n.kids) (h3 : SlR Zu G (.slice a3 n.msgs.length c3) n.msgs) (h4 : SlR Zp G (.slice a4 n.rows.length c4) n.rows) (h : n.Ok) :
    NodeC G' [.int .i64 n.slot, .int .i64 n.level, .slice a1 n.pivots.length c1, .slice a2 n.kids.length c2, .string n.high.b, .bool n.top, .int .i64 n.right, .int .i64 n.seen, .slice a3 n.msgs.length c3, .slice a4 n.rows.length c4] n := (nk9 h1 h2 h3 h4 h).mono hl
end Go.Fw
namespace Go.Proofs.YtbbemibbmbmamaaGreat
open Go Go.Fw
instance : TyK Tryz.prog 23 true 5 := ⟨ZkU⟩
instance : SlK Tryz.prog 24 36 := ⟨Zeg⟩
instance : TyK Tryz.prog 36 true 7 := ⟨ZkV⟩
instance : FdK Tryz.prog 23 3 3 := ⟨Zrz⟩
instance : TyK Tryz.prog 3 false 1 := ⟨ty3⟩
instance : TyK Tryz.prog 38 true 4 := ⟨ZcN⟩
instance : FdK Tryz.prog 36 0 0 := ⟨ZrA⟩
instance : TyK Tryz.prog 34 true 6 := ⟨ZrB⟩
instance : SlK Tryz.prog 32 74 := ⟨ZL⟩
instance : TyK Tryz.prog 74 true 2 := ⟨ZM⟩
instance : FdK Tryz.prog 36 1 6 := ⟨ZrC⟩
instance : SlK Tryz.prog 49 60 := ⟨Xm⟩
instance : TyK Tryz.prog 60 true 10 := ⟨Yd⟩
instance : BoK Tryz.prog 4 := ⟨bo4⟩
instance : FdK Tryz.prog 60 9 9 := ⟨ZkX⟩
instance : TyK Tryz.prog 32 false 1 := ⟨ZcO⟩
instance : FdK Tryz.prog 38 0 0 := ⟨ZrE⟩
instance : TyK Tryz.prog 28 false 1 := ⟨ZrF⟩
instance : FdK Tryz.prog 34 0 0 := ⟨ZrG⟩
instance : FdK Tryz.prog 60 1 1 := ⟨ZkY⟩
instance : FdK Tryz.prog 23 0 0 := ⟨ZrI⟩
instance : FdK Tryz.prog 23 1 1 := ⟨ZrJ⟩
instance : FdK Tryz.prog 38 1 1 := ⟨ZrK⟩
instance : TyK Tryz.prog 4 false 1 := ⟨ty4⟩
instance : FdK Tryz.prog 38 2 2 := ⟨ZrL⟩
instance : TyK Tryz.prog 9 false 1 := ⟨ty9⟩
instance : StK Tryz.prog 9 := ⟨st9⟩
instance : FdK Tryz.prog 23 2 2 := ⟨ZrP⟩
instance : FdK Tryz.prog 23 4 4 := ⟨ZrQ⟩
instance : FdK Tryz.prog 34 1 1 := ⟨ZrR⟩
instance : FdK Tryz.prog 34 5 5 := ⟨ZrS⟩
instance : FdK Tryz.prog 38 3 3 := ⟨ZrT⟩
instance : FdK Tryz.prog 34 2 2 := ⟨ZrU⟩
instance : FdK Tryz.prog 34 3 3 := ⟨ZrV⟩
instance : FdK Tryz.prog 34 4 4 := ⟨ZrW⟩
instance : TyK Tryz.prog 87 true 6 := ⟨Z7⟩
instance : FdK Tryz.prog 79 0 0 := ⟨ZrX⟩
instance : TyK Tryz.prog 75 false 1 := ⟨ZrY⟩
instance : FdK Tryz.prog 79 1 1 := ⟨ZrZ⟩
instance : FdK Tryz.prog 60 0 0 := ⟨Zr1⟩
instance : TyK Tryz.prog 58 false 1 := ⟨Zb6⟩
instance : SlK Tryz.prog 58 87 := ⟨Z2⟩
instance : FdK Tryz.prog 87 0 0 := ⟨Zr2⟩
instance : FdK Tryz.prog 60 7 7 := ⟨Zr3⟩
instance : TyK Tryz.prog 62 true 3 := ⟨Yt⟩
instance : FdK Tryz.prog 60 2 2 := ⟨Zr4⟩
instance : TyK Tryz.prog 56 false 1 := ⟨Zr5⟩
instance : FdK Tryz.prog 60 3 3 := ⟨Zr6⟩
instance : TyK Tryz.prog 57 false 1 := ⟨Zr7⟩
instance : SlK Tryz.prog 56 9 := ⟨Yb⟩
instance : SlK Tryz.prog 57 3 := ⟨Z8⟩
instance : FdK Tryz.prog 60 8 8 := ⟨Zr8⟩
instance : SlK Tryz.prog 107 58 := ⟨Zb7⟩
instance : FdK Tryz.prog 74 0 0 := ⟨Zr9⟩
instance : FdK Tryz.prog 74 1 1 := ⟨Zsc⟩
instance : FdK Tryz.prog 87 1 1 := ⟨Zsd⟩
instance : FdK Tryz.prog 87 2 2 := ⟨Zse⟩
instance : FdK Tryz.prog 62 0 0 := ⟨Zk0⟩
instance : FdK Tryz.prog 62 2 2 := ⟨Zgy⟩
instance : FdK Tryz.prog 62 1 1 := ⟨Zgz⟩
instance : FdK Tryz.prog 139 1 5 := ⟨Zsf⟩
instance : TyK Tryz.prog 135 false 1 := ⟨Zsg⟩
instance : FdK Tryz.prog 60 6 6 := ⟨Zk1⟩
instance : FdK Tryz.prog 60 5 5 := ⟨Zsh⟩
instance : FdK Tryz.prog 60 4 4 := ⟨Zsi⟩
instance : TyK Tryz.prog 49 false 1 := ⟨ZgA⟩
instance : SlK Tryz.prog 168 4 := ⟨Zb8⟩
instance : TyK Tryz.prog 169 false 1 := ⟨Zsj⟩
instance : SlK Tryz.prog 169 3 := ⟨Xw⟩
instance : TyK Tryz.prog 168 false 1 := ⟨Zsk⟩
instance : TyK Tryz.prog 132 true 2 := ⟨Zsl⟩
instance : FdK Tryz.prog 87 5 5 := ⟨Zsm⟩
instance : FdK Tryz.prog 189 2 2 := ⟨Zsn⟩
instance : FdK Tryz.prog 87 3 3 := ⟨Zso⟩
instance : FdK Tryz.prog 87 4 4 := ⟨Zsp⟩
instance : SlK Tryz.prog 193 62 := ⟨Je⟩
instance : FdK Tryz.prog 189 1 1 := ⟨Zsq⟩
instance : FdK Tryz.prog 189 0 0 := ⟨Zsr⟩
instance : FdK Tryz.prog 132 0 0 := ⟨Zss⟩
instance : FdK Tryz.prog 132 1 1 := ⟨Zst⟩
instance : FdK Tryz.prog 139 0 0 := ⟨Zsu⟩
instance : SlK Tryz.prog 269 271 := ⟨XZ⟩
instance : TyK Tryz.prog 271 true 2 := ⟨YQ⟩
instance : TyK Tryz.prog 269 false 1 := ⟨Zsv⟩
instance : FdK Tryz.prog 271 0 0 := ⟨Zsx⟩
instance : FdK Tryz.prog 271 1 1 := ⟨Zsy⟩
instance : MixK Tryz.prog := ⟨mix⟩
end Go.Proofs.YtbbemibbmbmamaaGreat
namespace Go.Proofs.YtbbemibbmbmamaaGreat
open Go Go.Fw Go.RowKit
theorem ZcQ : J4 Tryz.prog 110 = some 60 := by kernel_rfl
theorem Zei : zvK Tryz.prog 60 = some (.agg #[.int .i64 0, .int .i64 0, .slice none 0 0, .slice none 0 0, .string ⟨#[]⟩, .bool false, .int .i64 0, .int .i64 0, .slice none 0 0, .slice none 0 0]) := by kernel_rfl
theorem Zk7 : J4 Tryz.prog 281 = some 4 := by kernel_rfl
theorem mz4 : zvK Tryz.prog 4 = some (.bool false) := by kernel_rfl

end Go.Proofs.YtbbemibbmbmamaaGreat
namespace Go.Proofs.YtbbemibbmbmamaaGreat
open Go Go.Fw Go.RowKit
attribute [local irreducible] Ok W WC
theorem ZgD {G : GH}  :
    Fc Tryz.prog 81 [] G [] (fun v _ _ => v = .agg (List.toArray ((Span.all : Span).cells))) := by
 refine Fc.go [.cell 0 62] Tryz.func81 Tryz.ntmps81 rfl (fun w0 => (g9 2 ?_))
 refine W.alloc ZU (fun b6 => (g9 4 ?_))
 refine W.ok (Ya (L := [sV _, sV _, .bool _]) JD ZU rfl rfl rfl) (g9 5 ?_)
 rfl

theorem ZcR {G : GH} (slo : Str) (shi : Str) (so : Bool) :
    Fc Tryz.prog 95 [.agg #[sV slo.b, sV shi.b, .bool so]] G [] (fun v _ _ => v = .bool (Span.empty ⟨slo, shi, so⟩)) := by
 refine Fc.go [.tmp 2] Tryz.func95 Tryz.ntmps95 rfl (fun w0 => (g9 2 ?_))
 refine W.box (L := [sV _, sV _, .bool _]) rfl rfl (fun b7 => (g9 9 ?_))
 refine W.sp 6 rfl (fun h5 => ?_) (fun h5 => ?_)
 ·refine g9 9 ?_
  refine W.ok (Zew rfl rfl) (g9 6 ?_)
  refine congrArg Value.bool ?_
  simp_all [Span.empty, Str.lt]
 refine g9 11 ?_
 refine congrArg Value.bool ?_
 simp_all [Span.empty, Str.lt]

theorem Za2 {G : GH} (slo : Str) (shi : Str) (so : Bool) :
    Fc Tryz.prog 99 [.agg #[sV slo.b, sV shi.b, .bool so]] G [] (fun v _ _ => v = .agg (List.toArray ((Span.norm ⟨slo, shi, so⟩ : Span).cells))) := by
 refine Fc.go [.cell 2 62] Tryz.func99 Tryz.ntmps99 rfl (fun w0 => (g9 2 ?_))
 refine W.box (L := [sV _, sV _, .bool _]) rfl rfl (fun b8 => (W.alloc ZU (fun b9 => (g9 7 ?_))))
 refine W.qcall (ZcR _ _ _) rfl (g9 3 ?_)
 refine WC.cond rfl (fun h5 => ?_) (fun h5 => ?_)
 ·refine g9 2 ?_
  refine W.ok (Ya (L := [sV _, sV _, .bool _]) JD ZU rfl rfl rfl) (g9 7 ?_)
  refine congrArg (fun l => Value.agg (List.toArray l)) ?_
  show [Value.string _, Value.string _, Value.bool _] = _
  simp_all [Span.norm, Span.cells, Span.zero, Str.nil, Yr]
 refine g9 7 ?_
 refine WC.cond rfl (fun ha_so => ?_) (fun ha_so => ?_)
 ·refine g9 14 ?_
  refine congrArg (fun l => Value.agg (List.toArray l)) ?_
  show [Value.string _, Value.string _, Value.bool _] = _
  simp_all [Span.norm, Span.cells, Span.zero, Str.nil, Yr]
 refine g9 11 ?_
 refine congrArg (fun l => Value.agg (List.toArray l)) ?_
 show [Value.string _, Value.string _, Value.bool _] = _
 simp_all [Span.norm, Span.cells, Span.zero, Str.nil, Yr]

theorem Zej {G : GH} (slo : Str) (shi : Str) (so : Bool) (k : Str) :
    Fc Tryz.prog 136 [.agg #[sV slo.b, sV shi.b, .bool so], sV k.b] G [] (fun v _ _ => v = .bool (Span.has ⟨slo, shi, so⟩ k)) := by
 refine Fc.go [.tmp 4] Tryz.func136 Tryz.ntmps136 rfl (fun w0 => (g9 2 ?_))
 refine W.box (L := [sV _, sV _, .bool _]) rfl rfl (fun b10 => (g9 8 ?_))
 refine W.ok (Zew rfl rfl) (W.mv ?_)
 refine W.sp 9 rfl (fun h8 => ?_) (fun h8 => ?_)
 ·refine g9 6 ?_
  refine W.sp 12 rfl (fun ha_so => ?_) (fun ha_so => ?_)
  ·refine g9 12 ?_
   refine congrArg Value.bool ?_
   simp_all [Span.has, Str.lt]
  refine g9 16 ?_
  refine congrArg Value.bool ?_
  simp_all [Span.has, Str.lt]
 refine g9 14 ?_
 refine congrArg Value.bool ?_
 simp_all [Span.has, Str.lt]

theorem ZgE {G : GH} {v_p : Value} {p : List Str} (h_p : SlR Yh G v_p p) {v_c : Value} {c : List Int} (h_c : SlR ZA G v_c c) :
    Fc Tryz.prog 180 [v_p, v_c] G [] (fun v _ _ => v = .bool (YB p c.length)) := by
 obtain ⟨sa_p, sc_p, rfl⟩ := h_p.form
 obtain ⟨sa_c, sc_c, rfl⟩ := h_c.form
 have hc := h_c.len47
 have hp := h_p.len47
 refine Fc.go [.tmp 4] Tryz.func180 Tryz.ntmps180 rfl (fun w0 => (g9 12 ?_))
 refine WC.loop (X := Nat) (fun k => [(5, nt9 (k + 1)), (0, lV sa_p p.length sc_p), (1, lV sa_c c.length sc_c)]) (fun k _ Ml => Ml = [] ∧ ∀ i (h : i + 1 < p.length), i < k → p[i].lt p[i + 1] = true) (fun k => p.length - k) 0 hs9 ?_ ?_
 ·exact ⟨rfl, fun i _ h => by omega⟩
 rintro k gG18 G18 _ hG18 ⟨rfl, hk⟩
 refine g9 9 ?_
 refine WC.cd (fun h9 p9 => ?_) (fun h9 p9 => ?_)
 ·refine g9 9 ?_
  refine (h_p.mono hG18).a1 (i := k) om9 (fun he19 => (W.ok (Yu (i := k) Yb ty9 (h_p.mono hG18) rfl rfl ⟨om9, om9⟩) (g9 3 ?_)))
  refine (h_p.mono hG18).a1 (i := k + 1) om9 (fun he22 => (W.ok (Yu (i := k + 1) Yb ty9 (h_p.mono hG18) rfl rfl ⟨om9, om9⟩) (g9 1 ?_)))
  refine W.ok (Zew rfl rfl) (g9 2 ?_)
  refine WC.cond rfl (fun h21 => ?_) (fun h21 => ?_)
  ·refine g9 12 ?_
   refine congrArg Value.bool ?_
   simp [YB, Zu4 (l := p) (i := k) om9 (by simpa [Str.lt] using h21)]
  refine g9 9 ?_
  exact ⟨Le.rfl, k + 1, hs9, ⟨rfl, fun i h hi => by
      by_cases e : i = k
      · subst e; simpa [Str.lt] using h21
      · exact hk i h om9⟩, om9⟩
 refine g9 11 ?_
 refine W.sd 25 (fun h24 p24 => ?_) (fun h24 p24 => ?_)
 ·refine g9 18 ?_
  refine congrArg Value.bool ?_
  simp only [YB, Zac.2 (fun i h => hk i h om9), Bool.true_and]
  first | (rw [decide_eq_decide]; omega) | (symm; rw [decide_eq_false_iff_not]; omega)
 refine g9 12 ?_
 refine congrArg Value.bool ?_
 simp only [YB, Zac.2 (fun i h => hk i h om9), Bool.true_and]
 first | (rw [decide_eq_decide]; omega) | (symm; rw [decide_eq_false_iff_not]; omega)

theorem ZgF {G : GH} (a : Str) :
    Fc Tryz.prog 227 [sV a.b] G [] (fun v _ _ => v = .bool (false)) := by
 refine Fc.go [.tmp 2] Tryz.func227 Tryz.ntmps227 rfl (fun w0 => (g9 15 ?_))
 refine congrArg Value.bool ?_
 simp

theorem ZsA {G : GH} (a : Str) :
    Fc Tryz.prog 198 [sV a.b] G [] (fun v _ _ => v = .bool (false)) := by
 refine Fc.go [.tmp 2] Tryz.func198 Tryz.ntmps198 rfl (fun w0 => (g9 15 ?_))
 refine congrArg Value.bool ?_
 simp

theorem ZsB {G : GH} (a : Str) (b : Str) :
    Fc Tryz.prog 197 [sV a.b, sV b.b] G [] (fun v _ _ => v = .bool (Str.lt a b)) := by
 refine Fc.go [.tmp 4] Tryz.func197 Tryz.ntmps197 rfl (fun w0 => (g9 8 ?_))
 refine W.qcall (ZgF _) rfl (W.mv ?_)
 refine W.sp 7 rfl (fun h6 => ?_) (fun h6 => ?_)
 ·cases h6
 refine g9 17 ?_
 refine congrArg Value.bool ?_
 rfl

theorem ZsC {G : GH} {v_l : Value} {l : List Str} (h_l : SlR Yh G v_l l) (k : Str) (hr : ZZ l = true) :
    Fc Tryz.prog 163 [v_l, sV k.b] G [] (fun v _ _ => v = .tuple #[iV (((YL l k : Nat) : Int)), .bool (decide (l[YL l k]? = some k))]) := by
 obtain ⟨sa_l, sc_l, rfl⟩ := h_l.form
 have hlen := h_l.len47
 refine Fc.go [.tmp 4, .tmp 5] Tryz.func163 Tryz.ntmps163 rfl (fun w0 => (g9 22 ?_))
 refine WC.loop (X := Nat × Nat) (fun x => [(6, nt9 l.length), (7, nt9 x.1), (8, nt9 x.2), (0, lV sa_l l.length sc_l), (1, sV k.b)]) (fun x _ Ml => Ml = [] ∧ x.1 ≤ x.2 ∧ x.2 ≤ l.length ∧ (∀ q (h : q < l.length), q < x.1 → l[q].lt k = true) ∧ (∀ q (h : q < l.length), x.2 ≤ q → l[q].lt k = false)) (fun x => x.2 - x.1) (0, l.length) hs9 ?_ ?_
 ·exact ⟨rfl, by simp, by simp, (fun q _ h => by simp at h), (fun q h h' => by simp at h'; omega)⟩
 rintro ⟨i, j⟩ gG25 G25 _ hG25 ⟨rfl, hi, hj, h1, h2⟩
 dsimp only at hi hj h1 h2
 refine g9 8 ?_
 refine WC.cd (fun h15 p15 => ?_) (fun h15 p15 => ?_)
 ·refine g9 8 ?_
  refine W.ok (ZgV un3 Zcb rfl om9) (W.ok (ZgX rfl rfl om9) (W.ok (ZgW Zcb un3 rfl om9) (g9 7 ?_)))
  refine (h_l.mono hG25).a1 (i := (i + j) / 2) om9 (fun he26 => (W.ok (Yu (i := (i + j) / 2) Yb ty9 (h_l.mono hG25) rfl rfl ⟨by dsimp only; omega, om9⟩) (g9 2 ?_)))
  refine W.qcall (ZsB _ _) rfl (g9 2 ?_)
  refine WC.cond rfl (fun h27 => ?_) (fun h27 => ?_)
  ·refine g9 7 ?_
   exact ⟨Le.rfl, ((i + j) / 2 + 1, j), hs9, ⟨rfl, by dsimp only; omega, by dsimp only; omega, (fun q h hq => Zu5 hr om9 h27 q h (by dsimp only at hq; omega)), h2⟩, by dsimp only; omega⟩
  refine g9 6 ?_
  exact ⟨Le.rfl, (i, (i + j) / 2), hs9, ⟨rfl, by dsimp only; omega, by dsimp only; omega, h1, (fun q h hq => Zmk hr om9 h27 q h (by dsimp only at hq; omega))⟩, by dsimp only; omega⟩
 refine g9 12 ?_
 refine W.sd 35 (fun h34 p34 => ?_) (fun h34 p34 => ?_)
 ·refine g9 5 ?_
  refine (h_l.mono hG25).a1 (i := i) om9 (fun he29 => (g9 9 ?_))
  refine W.sd 42 (fun h41 p41 => ?_) (fun h41 p41 => ?_)
  ·refine g9 18 ?_
   have hlow : YL l k = i := ZeE om9 h1 (fun q h hq => h2 q h om9)
   refine Zbw (by rw [hlow]) ?_
   rw [hlow]
   simp only [Str.b_inj] at p41
   rw [List.getElem?_eq_getElem om9]
   simp [p41]
  refine g9 5 ?_
  refine (h_l.mono hG25).a1 (i := i) om9 (fun he32 => (g9 4 ?_))
  refine W.qcall (ZsA _) rfl (g9 2 ?_)
  refine W.sp 48 rfl (fun h47 => ?_) (fun h47 => ?_)
  ·cases h47
  refine g9 13 ?_
  have hlow : YL l k = i := ZeE om9 h1 (fun q h hq => h2 q h om9)
  refine Zbw (by rw [hlow]) ?_
  rw [hlow]
  simp only [Str.b_inj] at p41
  rw [List.getElem?_eq_getElem om9]
  simp [p41]
 refine g9 24 ?_
 have hlow : YL l k = i := ZeE om9 h1 (fun q h hq => h2 q h om9)
 refine Zbw (by rw [hlow]) ?_
 rw [hlow]
 rw [List.getElem?_eq_none om9] <;> simp

theorem Zcc {G : GH} {v_l : Value} {l : List Str} (h_l : SlR Yh G v_l l) (k : Str) (hr : ZZ l = true) :
    Fc Tryz.prog 124 [v_l, sV k.b] G [] (fun v _ _ => v = iV (((Ze l k : Nat) : Int))) := by
 obtain ⟨sa_l, sc_l, rfl⟩ := h_l.form
 have hlo := Zml l k
 have hlen := h_l.len47
 refine Fc.go [.tmp 4] Tryz.func124 Tryz.ntmps124 rfl (fun w0 => (g9 9 ?_))
 refine W.qcall (ZsC h_l _ (by assumption)) rfl (g9 13 ?_)
 refine WC.cond rfl (fun h10_1 => ?_) (fun h10_1 => ?_)
 ·refine g9 14 ?_
  exact iv (Zmm hr (odt h10_1))
 refine g9 10 ?_
 exact iv (Zmn hr (odf h10_1))

theorem Za3 {G : GH} {v_l : Value} {l : List Str} (h_l : SlR Yh G v_l l) (i : Int) (hi : i64 i) :
    Fc Tryz.prog 128 [v_l, iV i] G [] (fun v _ _ => v = .agg (List.toArray ((Zf l i : Span).cells))) := by
 obtain ⟨sa_l, sc_l, rfl⟩ := h_l.form
 have hl := h_l.len47
 obtain ⟨hi1, hi2⟩ := hi
 refine Fc.go [.cell 4 62] Tryz.func128 Tryz.ntmps128 rfl (fun w0 => (WC.sr (W.alloc ZU (fun b46 => (W.nt (WC.seq (WC.sr (W.mv (W.ok (Zet rfl rfl) (W.mv ?_))))))))))
 refine W.sd 8 (fun h7 p7 => ?_) (fun h7 p7 => ?_)
 ·refine W.n8 h7 rfl (W.n8 h7 rfl (W.n8 h7 rfl (W.n8 h7 rfl (W.ok (Zc4 rfl h7) (W.nt (WC.cond_t rfl rfl (WC.sr (W.ok (Ya (L := [sV _, sV _, .bool _]) JD ZU rfl rfl rfl) (W.st 0 sp9 sp9 Yt rfl (W.nt (WC.rt ?_)))))))))))
  refine ⟨.inr rfl, [_], ⟨⟨_, _, _, _, _, rfl, YI (i := 0) rfl, Yt, (by simp), rfl, rfl⟩, trivial⟩, [], sn9, ?_⟩
  refine congrArg (fun l => Value.agg (List.toArray l)) ?_
  show [Value.string _, Value.string _, Value.bool _] = _
  rw [Zg2 om9]; rfl
 refine W.y9 h7 rfl (W.mv (W.y9 h7 rfl (W.mv (W.y9 h7 rfl (W.ok (Zc7 Yb h_l rfl) (W.y9 h7 rfl (W.ok (Zeu rfl rfl) (W.ok (Zc5 rfl h7) (W.nt ?_)))))))))
 refine WC.cd (fun h12 p12 => ?_) (fun h12 p12 => ?_)
 ·refine WC.sr (W.ok (Ya (L := [sV _, sV _, .bool _]) JD ZU rfl rfl rfl) (W.st 0 sp9 sp9 Yt rfl (W.nt (WC.rt ?_))))
  refine ⟨.inr rfl, [_], ⟨⟨_, _, _, _, _, rfl, YI (i := 0) rfl, Yt, (by simp), rfl, rfl⟩, trivial⟩, [], sn9, ?_⟩
  refine congrArg (fun l => Value.agg (List.toArray l)) ?_
  show [Value.string _, Value.string _, Value.bool _] = _
  rw [Zg2 om9]; rfl
 refine WC.sk (WC.sr (W.qcall (ZgD) rfl (W.alloc ZU (fun b47 => (W.st 0 sp9 sp9 Yt rfl (W.nt (WC.seq (WC.sr (W.mv (W.ok (Zeu rfl rfl) (W.nt ?_)))))))))))
 refine WC.cd (fun h17 p17 => ?_) (fun h17 p17 => ?_)
 ·refine WC.region (W.mv (W.mv (W.ok (Zar rfl rfl om9) (h_l.a1 (i := (i - 1).toNat) om9 (fun he48 => (W.ok (Yu (i := (i - 1).toNat) Yb ty9 h_l rfl rfl ⟨om9, om9⟩) (W.ok (Zcg (vs := sc9) ty9 he48 rfl rfl rfl (by simp)) (W.fb Zk0 rfl (W.st 0 sc9 sp9 ty9 rfl (W.nt (WC.seq (WC.sr (W.mv (W.mv ?_))))))))))))))
  refine W.ok (Zc7 Yb h_l rfl) (W.ok (Zet rfl rfl) (W.nt ?_))
  refine WC.cd (fun h27 p27 => ?_) (fun h27 p27 => ?_)
  ·refine WC.region (W.mv (W.mv (h_l.a1 (i := i.toNat) om9 (fun he51 => (W.ok (Yu (i := i.toNat) Yb ty9 h_l rfl rfl ⟨om9, om9⟩) (W.ok (Zcg (vs := sc9) ty9 he51 rfl rfl rfl (by simp)) (W.fb Zgz rfl (W.st 0 sc9 sp9 ty9 rfl (W.fb Zgy rfl (W.st 0 bc9 sp9 ty4 rfl (W.ns (W.ok (Zao 0 sp9 Yt rfl) (W.qcall (Za2 _ _ _) rfl (W.st 1 sp9 sp9 Yt rfl ?_))))))))))))))
   refine W.nt (WC.ret ?_)
   refine ⟨.inr rfl, [_], ⟨⟨_, _, _, _, _, rfl, YI (i := 1) rfl, Yt, (by simp), rfl, rfl⟩, trivial⟩, [], sn9, ?_⟩
   exact congrArg (fun s : Span => Value.agg (List.toArray s.cells)) (Zu7 p17 p27 om9 om9)
  refine WC.sk (WC.sr (W.ok (Zao 0 sp9 Yt rfl) (W.qcall (Za2 _ _ _) rfl (W.st 1 sp9 sp9 Yt rfl (W.nt (WC.ret ?_))))))
  refine ⟨.inr rfl, [_], ⟨⟨_, _, _, _, _, rfl, YI (i := 1) rfl, Yt, (by simp), rfl, rfl⟩, trivial⟩, [], sn9, ?_⟩
  exact congrArg (fun s : Span => Value.agg (List.toArray s.cells)) (Zu8 p17 p27 om9 om9)
 refine WC.sk (WC.seq (WC.sr (W.mv (W.mv (W.ok (Zc7 Yb h_l rfl) (W.ok (Zet rfl rfl) (W.nt ?_)))))))
 refine WC.cd (fun h27 p27 => ?_) (fun h27 p27 => ?_)
 ·refine WC.region (W.mv (W.mv (h_l.a1 (i := i.toNat) om9 (fun he54 => (W.ok (Yu (i := i.toNat) Yb ty9 h_l rfl rfl ⟨om9, om9⟩) (W.ok (Zcg (vs := sc9) ty9 he54 rfl rfl rfl (by simp)) (W.fb Zgz rfl (W.st 0 sc9 sp9 ty9 rfl (W.fb Zgy rfl (W.st 0 bc9 sp9 ty4 rfl (W.ns (W.ok (Zao 0 sp9 Yt rfl) (W.qcall (Za2 _ _ _) rfl (W.st 1 sp9 sp9 Yt rfl ?_))))))))))))))
  refine W.nt (WC.ret ?_)
  refine ⟨.inr rfl, [_], ⟨⟨_, _, _, _, _, rfl, YI (i := 1) rfl, Yt, (by simp), rfl, rfl⟩, trivial⟩, [], sn9, ?_⟩
  exact congrArg (fun s : Span => Value.agg (List.toArray s.cells)) (Zu9 om9 p17 p27 om9)
 refine WC.sk (WC.sr (W.ok (Zao 0 sp9 Yt rfl) (W.qcall (Za2 _ _ _) rfl (W.st 1 sp9 sp9 Yt rfl (W.nt (WC.ret ?_))))))
 refine ⟨.inr rfl, [_], ⟨⟨_, _, _, _, _, rfl, YI (i := 1) rfl, Yt, (by simp), rfl, rfl⟩, trivial⟩, [], sn9, ?_⟩
 exact congrArg (fun s : Span => Value.agg (List.toArray s.cells)) (Zva om9 p17 p27 om9)

theorem Zap {G : GH} (alo : Str) (ahi : Str) (ao : Bool) (blo : Str) (bhi : Str) (bo : Bool) :
    Fc Tryz.prog 101 [.agg #[sV alo.b, sV ahi.b, .bool ao], .agg #[sV blo.b, sV bhi.b, .bool bo]] G [] (fun v _ _ => v = .agg (List.toArray ((Span.meet ⟨alo, ahi, ao⟩ ⟨blo, bhi, bo⟩ : Span).cells))) := by
 refine Fc.go [.cell 4 62] Tryz.func101 Tryz.ntmps101 rfl (fun w0 => (g9 2 ?_))
 refine W.box (L := [sV _, sV _, .bool _]) rfl rfl (fun b5 => (W.box (L := [sV _, sV _, .bool _]) rfl rfl (fun b6 => (W.alloc ZU (fun b7 => (g9 8 ?_))))))
 refine W.ok (Zvn rfl rfl) (g9 3 ?_)
 refine W.sp 13 rfl (fun ha_ao => ?_) (fun ha_ao => ?_)
 ·refine g9 5 ?_
  refine W.ok (Ya (L := [sV _, sV _, .bool _]) JD ZU rfl rfl rfl) (W.alloc ZU (fun b8 => (g9 24 ?_)))
  refine W.qcall (Za2 _ _ _) rfl (g9 5 ?_)
  refine congrArg (fun l => Value.agg (List.toArray l)) ?_
  show [Value.string _, Value.string _, Value.bool _] = _
  rw [← ZeK]
  simp_all [Yr] <;> rfl
 refine g9 3 ?_
 refine W.ok (Ya (L := [sV _, sV _, .bool _]) JD ZU rfl rfl rfl) (W.alloc ZU (fun b9 => (g9 20 ?_)))
 refine WC.cond rfl (fun ha_bo => ?_) (fun ha_bo => ?_)
 ·refine g9 11 ?_
  refine W.qcall (Za2 _ _ _) rfl (g9 5 ?_)
  refine congrArg (fun l => Value.agg (List.toArray l)) ?_
  show [Value.string _, Value.string _, Value.bool _] = _
  rw [← ZeK]
  simp_all [Yr] <;> rfl
 refine g9 5 ?_
 refine W.ok (Zvo rfl rfl) (g9 8 ?_)
 refine W.qcall (Za2 _ _ _) rfl (g9 5 ?_)
 refine congrArg (fun l => Value.agg (List.toArray l)) ?_
 show [Value.string _, Value.string _, Value.bool _] = _
 rw [← ZeK]
 simp_all [Yr] <;> rfl

theorem ZsD {G : GH} (k : Str) (hk : k.b.size < 140737488355328) :
    Fc Tryz.prog 147 [sV k.b] G [] (fun v _ _ => v = sV (Str.b (k.next))) := by
 refine Fc.go [.tmp 2] Tryz.func147 Tryz.ntmps147 rfl (fun w0 => (g9 8 ?_))
 refine W.ok (Zmr rfl rfl (by show _ + 1 ≤ _; omega)) (g9 5 ?_)
 refine congrArg Value.string ?_
 exact (Str.next_b hk).symm

theorem Zk8 {G : GH} (k : Str) (hk : k.b.size < 140737488355328) :
    Fc Tryz.prog 103 [sV k.b] G [] (fun v _ _ => v = .agg (List.toArray ((⟨k, k.next, false⟩ : Span).cells))) := by
 refine Fc.go [.cell 2 62] Tryz.func103 Tryz.ntmps103 rfl (fun w0 => (g9 2 ?_))
 refine W.alloc ZU (fun b10 => (g9 6 ?_))
 refine W.qcall (ZsD _ (by first | assumption | omega | (dsimp only; omega))) rfl (W.ok (Ya (L := [sV _, sV _, .bool _]) JD ZU rfl rfl rfl) (g9 5 ?_))
 rfl

theorem ZcS {G : GH} (ms : Int) (mk : Int) (mkey : Str) (mhi : Str) (mo : Bool) (mv : Str) (hk : mkey.b.size < 140737488355328) :
    Fc Tryz.prog 137 [.agg #[iV ms, iV mk, sV mkey.b, sV mhi.b, .bool mo, sV mv.b]] G [] (fun v _ _ => v = .agg (List.toArray ((Msg.span (⟨ms, mk, mkey, mhi, mo, mv⟩ : Msg) : Span).cells))) := by
 refine Fc.go [.cell 2 62] Tryz.func137 Tryz.ntmps137 rfl (fun w0 => (g9 2 ?_))
 refine W.box (L := [iV _, iV _, sV _, sV _, .bool _, sV _]) rfl rfl (fun b11 => (W.alloc ZU (fun b12 => (g9 10 ?_))))
 refine WC.cd (fun h5 p5 => ?_) (fun h5 p5 => ?_)
 ·refine g9 8 ?_
  refine W.ok (Ya (L := [sV _, sV _, .bool _]) JD ZU rfl rfl rfl) (g9 6 ?_)
  refine congrArg (fun l => Value.agg (List.toArray l)) ?_
  rw [Msg.span, if_pos p5]; rfl
 refine g9 6 ?_
 refine W.qcall (Zk8 _ (by first | assumption | omega | (dsimp only; omega))) rfl (g9 5 ?_)
 refine congrArg (fun l => Value.agg (List.toArray l)) ?_
 rw [Msg.span, if_neg p5] <;> simp [Span.cells, Str.next_b hk, Yr]

theorem ZsE {G : GH} (alo : Str) (ahi : Str) (ao : Bool) (blo : Str) (bhi : Str) (bo : Bool) :
    Fc Tryz.prog 127 [.agg #[sV alo.b, sV ahi.b, .bool ao], .agg #[sV blo.b, sV bhi.b, .bool bo]] G [] (fun v _ _ => v = .bool (!(Span.meet ⟨alo, ahi, ao⟩ ⟨blo, bhi, bo⟩).empty)) := by
 refine Fc.go [.tmp 4] Tryz.func127 Tryz.ntmps127 rfl (fun w0 => (g9 2 ?_))
 refine W.box (L := [sV _, sV _, .bool _]) rfl rfl (fun b15 => (W.box (L := [sV _, sV _, .bool _]) rfl rfl (fun b16 => (g9 7 ?_))))
 refine W.qcall (Zap _ _ _ _ _ _) rfl (W.qcall (ZcR _ _ _) rfl (g9 6 ?_))
 rfl

theorem ZsF {G : GH} (ms : Int) (mk : Int) (mkey : Str) (mhi : Str) (mo : Bool) (mv : Str) (alo : Str) (ahi : Str) (ao : Bool) (hk : mkey.b.size < 140737488355328) :
    Fc Tryz.prog 240 [.agg #[iV ms, iV mk, sV mkey.b, sV mhi.b, .bool mo, sV mv.b], .agg #[sV alo.b, sV ahi.b, .bool ao]] G [] (fun v _ _ => v = .bool (!((Msg.span (⟨ms, mk, mkey, mhi, mo, mv⟩ : Msg)).meet ⟨alo, ahi, ao⟩).empty)) := by
 refine Fc.go [.tmp 4] Tryz.func240 Tryz.ntmps240 rfl (fun w0 => (g9 2 ?_))
 refine W.box (L := [iV _, iV _, sV _, sV _, .bool _, sV _]) rfl rfl (fun b17 => (W.box (L := [sV _, sV _, .bool _]) rfl rfl (fun b18 => (g9 6 ?_))))
 refine W.qcall (ZcS _ _ _ _ _ _ (by first | assumption | omega | (dsimp only; omega))) rfl (g9 1 ?_)
 refine W.qcall (ZsE _ _ _ _ _ _) rfl (g9 5 ?_)
 rfl

theorem ZgG {G : GH} (ms : Int) (mk : Int) (mkey : Str) (mhi : Str) (mo : Bool) (mv : Str) (alo : Str) (ahi : Str) (ao : Bool) (hk : mkey.b.size < 140737488355328) :
    Fc Tryz.prog 212 [.agg #[iV ms, iV mk, sV mkey.b, sV mhi.b, .bool mo, sV mv.b], .agg #[sV alo.b, sV ahi.b, .bool ao]] G [] (fun v _ _ => v = .tuple #[.agg (List.toArray ((Msg.clip (⟨ms, mk, mkey, mhi, mo, mv⟩ : Msg) ⟨alo, ahi, ao⟩).1.cells)), .bool ((Msg.clip (⟨ms, mk, mkey, mhi, mo, mv⟩ : Msg) ⟨alo, ahi, ao⟩).2)]) := by
 refine Fc.go [.cell 4 87, .tmp 5] Tryz.func212 Tryz.ntmps212 rfl (fun w0 => (g9 2 ?_))
 refine W.box (L := [iV _, iV _, sV _, sV _, .bool _, sV _]) rfl rfl (fun b26 => (W.box (L := [sV _, sV _, .bool _]) rfl rfl (fun b27 => (W.alloc Z1 (fun b28 => (g9 8 ?_))))))
 refine W.qcall (ZsF _ _ _ _ _ _ _ _ _ (by first | assumption | omega | (dsimp only; omega))) rfl (g9 3 ?_)
 refine WC.cond rfl (fun h10 => ?_) (fun h10 => ?_)
 ·refine g9 2 ?_
  refine W.ok (Ya (L := [iV _, iV _, sV _, sV _, .bool _, sV _]) Zgx Z1 rfl rfl rfl) (g9 7 ?_)
  show Value.tuple #[Value.agg (List.toArray [_, _, _, _, _, _]), Value.bool _] = _
  rw [Zae (by simpa using h10)]; rfl
 refine g9 10 ?_
 refine WC.cd (fun h14 p14 => ?_) (fun h14 p14 => ?_)
 ·refine WC.seq (WC.dw ((sr9.k9.k9).k9) (d9 [0, 2] ?_))
  refine WD.any [1, 4] (by kernel_rfl) rfl ⟨WD.ap ?_, WD.ap ?_, trivial⟩
  ·refine W.qcall (ZcS _ _ _ _ _ _ (by first | assumption | omega | (dsimp only; omega))) rfl (W.nn ?_)
   refine WD.any [3, 4] (by kernel_rfl) rfl ⟨WD.ap ?_, WD.ap ?_, trivial⟩
   ·refine W.qcall (Zap _ _ _ _ _ _) rfl (W.nn (WD.a1 4 rfl (W.alloc ZU (fun b29 => (W.nn (d9 [5] ?_))))))
    refine g9 2 ?_
    refine WC.dw ((((sr9.cons _).k9).k9).k9) (d9 [0, 1, 2, 3, 4, 5, 6, 7, 8, 9, 10, 11] ?_)
    refine g9 11 ?_
    show Value.tuple #[Value.agg (List.toArray [_, _, _, _, _, _]), Value.bool _] = _
    rw [Zaf (by simpa using h10) p14]; rfl
   refine W.alloc ZU (fun b30 => (W.nn (WD.a1 3 rfl (W.qcall (Zap _ _ _ _ _ _) rfl (W.nn (d9 [5] ?_))))))
   refine g9 2 ?_
   refine WC.dw ((((sr9.cons _).k9).k9).k9) (d9 [0, 1, 2, 3, 4, 5, 6, 7, 8, 9, 10, 11] ?_)
   refine g9 11 ?_
   show Value.tuple #[Value.agg (List.toArray [_, _, _, _, _, _]), Value.bool _] = _
   rw [Zaf (by simpa using h10) p14]; rfl
  refine W.alloc ZU (fun b31 => (W.nn (WD.a1 1 rfl (W.qcall (ZcS _ _ _ _ _ _ (by first | assumption | omega | (dsimp only; omega))) rfl (W.nn (WD.a1 3 rfl (W.qcall (Zap _ _ _ _ _ _) rfl (W.nn (d9 [5] ?_)))))))))
  refine g9 2 ?_
  refine WC.dw ((((sr9.cons _).k9).k9).k9) (d9 [0, 1, 2, 3, 4, 5, 6, 7, 8, 9, 10, 11] ?_)
  refine g9 11 ?_
  show Value.tuple #[Value.agg (List.toArray [_, _, _, _, _, _]), Value.bool _] = _
  rw [Zaf (by simpa using h10) p14]; rfl
 refine g9 11 ?_
 show Value.tuple #[Value.agg (List.toArray [_, _, _, _, _, _]), Value.bool _] = _
 rw [Zdd (by simpa using h10) p14]; rfl

theorem ZsG {G : GH} (s : Str) :
    Fc Tryz.prog 239 [sV s.b] G [] (fun v _ _ => v = sV (Str.b (s.tail))) := by
 have hs := s.le
 refine Fc.go [.tmp 2] Tryz.func239 Tryz.ntmps239 rfl (fun w0 => (g9 11 ?_))
 refine W.ok (Zcf rfl rfl) (W.ok (Zms (s.b.size - 16) (s.b.size) st9 rfl ⟨_, _, rfl, om9⟩ rfl ⟨om9, om9⟩) (g9 5 ?_))
 rfl

theorem Zk9 {G : GH} (a : Str) (b : Str) (ha : a.b.size ≤ 1048576) (hb : b.b.size ≤ 1048576) :
    Fc Tryz.prog 210 [sV a.b, sV b.b] G [] (fun v _ _ => v = sV (Str.b (a.add b))) := by
 refine Fc.go [.tmp 4] Tryz.func210 Tryz.ntmps210 rfl (fun w0 => (g9 9 ?_))
 refine W.ok (Ok.str (b := (a.cat b).b) (Zmr rfl rfl om9) ((Str.cat_b om9).symm)) (W.qcall (ZsG _) rfl (g9 5 ?_))
 exact congrArg (fun s => Value.string (Str.b s)) (Str.cat_tail om9)

theorem Zla {G : GH} (s : Str) :
    Fc Tryz.prog 91 [sV s.b] G [] (fun v _ _ => v = .bool (decide (s.b.size ≤ 16))) := by
 have hs := s.le
 refine Fc.go [.tmp 2] Tryz.func91 Tryz.ntmps91 rfl (fun w0 => (g9 15 ?_))
 refine congrArg Value.bool ?_
 rw [decide_eq_decide]; omega

theorem ZsH {G : GH} (s : Str) :
    Fc Tryz.prog 92 [sV s.b] G [] (fun v _ _ => v = .bool (decide (s.b.size ≤ 16))) := by
 have hs := s.le
 refine Fc.go [.tmp 2] Tryz.func92 Tryz.ntmps92 rfl (fun w0 => (g9 15 ?_))
 refine congrArg Value.bool ?_
 rw [decide_eq_decide]; omega

theorem Zek {G : GH} (ek : Int) (ev : Str) (has : Bool) (x : Str) (he : ev.b.size ≤ 1048576) (hv : x.b.size ≤ 1048576) :
    Fc Tryz.prog 181 [.agg #[iV ek, sV ev.b], .bool has, sV x.b] G [] (fun v _ _ => v = .tuple #[.bool (((Eff.apply (⟨ek, ev⟩ : Eff) (Yz has x))).isSome), sV (Str.b (((Eff.apply (⟨ek, ev⟩ : Eff) (Yz has x))).getD Str.nil))]) := by
 refine Fc.go [.tmp 6, .tmp 7] Tryz.func181 Tryz.ntmps181 rfl (fun w0 => (g9 2 ?_))
 refine W.box (L := [iV _, sV _]) rfl rfl (fun b3 => (g9 11 ?_))
 refine WC.cond rfl (fun h9 => ?_) (fun h9 => ?_)
 ·refine g9 18 ?_
  refine WC.cd (fun h13 p13 => ?_) (fun h13 p13 => ?_)
  ·refine g9 12 ?_
   show Value.tuple #[Value.bool _, Value.string _] = _
   simp_all [Eff.apply, Yz, Str.nil]
  refine g9 6 ?_
  refine WC.cd (fun h17 p17 => ?_) (fun h17 p17 => ?_)
  ·refine g9 5 ?_
   refine W.qcall (Zk9 Str.nil ev (by show 0 ≤ 1048576; omega) (by assumption)) rfl (g9 8 ?_)
   show Value.tuple #[Value.bool _, Value.string _] = _
   simp_all [Eff.apply, Yz, Str.nil]
  refine g9 6 ?_
  refine WC.cd (fun h23 p23 => ?_) (fun h23 p23 => ?_)
  ·refine g9 10 ?_
   show Value.tuple #[Value.bool _, Value.string _] = _
   simp_all [Eff.apply, Yz, Str.nil]
  refine g9 13 ?_
  show Value.tuple #[Value.bool _, Value.string _] = _
  simp_all [Eff.apply, Yz, Str.nil]
 refine g9 16 ?_
 refine WC.cd (fun h13 p13 => ?_) (fun h13 p13 => ?_)
 ·refine g9 12 ?_
  show Value.tuple #[Value.bool _, Value.string _] = _
  simp_all [Eff.apply, Yz, Str.nil]
 refine g9 6 ?_
 refine WC.cd (fun h17 p17 => ?_) (fun h17 p17 => ?_)
 ·refine g9 5 ?_
  refine W.qcall (Zk9 x ev (by assumption) (by assumption)) rfl (g9 8 ?_)
  show Value.tuple #[Value.bool _, Value.string _] = _
  simp_all [Eff.apply, Yz, Str.nil]
 refine g9 6 ?_
 refine WC.cd (fun h23 p23 => ?_) (fun h23 p23 => ?_)
 ·refine g9 10 ?_
  show Value.tuple #[Value.bool _, Value.string _] = _
  simp_all [Eff.apply, Yz, Str.nil]
 refine g9 13 ?_
 show Value.tuple #[Value.bool _, Value.string _] = _
 simp_all [Eff.apply, Yz, Str.nil]

theorem Zel {G : GH} (ms : Int) (mk : Int) (mkey : Str) (mhi : Str) (mo : Bool) (mv : Str) (k : Str) (hk : mkey.b.size < 140737488355328) :
    Fc Tryz.prog 80 [.agg #[iV ms, iV mk, sV mkey.b, sV mhi.b, .bool mo, sV mv.b], sV k.b] G [] (fun v _ _ => v = .agg (List.toArray ((Msg.on (⟨ms, mk, mkey, mhi, mo, mv⟩ : Msg) k).cells))) := by
 refine Fc.go [.cell 4 132] Tryz.func80 Tryz.ntmps80 rfl (fun w0 => (g9 2 ?_))
 refine W.box (L := [iV _, iV _, sV _, sV _, .bool _, sV _]) rfl rfl (fun b4 => (W.alloc J9 (fun b5 => (g9 6 ?_))))
 refine W.qcall (ZcS _ _ _ _ _ _ (by first | assumption | omega | (dsimp only; omega))) rfl (W.mv (W.qcall (Zej _ _ _ _) rfl (g9 3 ?_)))
 refine WC.cond rfl (fun h9 => ?_) (fun h9 => ?_)
 ·refine g9 2 ?_
  refine W.ok (Ya (L := [iV _, sV _]) Za1 J9 rfl rfl rfl) (g9 6 ?_)
  refine congrArg (fun l => Value.agg (List.toArray l)) ?_
  show [Value.int _ _, Value.string _] = _
  first | (simp_all [Msg.on, Eff.cells, Eff.zero, Str.nil]; done) | (simp_all [Msg.on, Eff.cells, Eff.zero, Str.nil]; split <;> first | (exfalso; omega) | (simp; done) | (split <;> first | (exfalso; omega) | (simp; done)))
 refine g9 17 ?_
 refine WC.cd (fun h14 p14 => ?_) (fun h14 p14 => ?_)
 ·refine g9 9 ?_
  refine W.ok (Ya (L := [iV _, sV _]) Za1 J9 rfl rfl rfl) (g9 7 ?_)
  refine congrArg (fun l => Value.agg (List.toArray l)) ?_
  show [Value.int _ _, Value.string _] = _
  first | (simp_all [Msg.on, Eff.cells, Eff.zero, Str.nil]; done) | (simp_all [Msg.on, Eff.cells, Eff.zero, Str.nil]; split <;> first | (exfalso; omega) | (simp; done) | (split <;> first | (exfalso; omega) | (simp; done)))
 refine g9 5 ?_
 refine WC.cd (fun h15 p15 => ?_) (fun h15 p15 => ?_)
 ·refine g9 6 ?_
  refine W.ok (Ya (L := [iV _, sV _]) Za1 J9 rfl rfl rfl) (g9 7 ?_)
  refine congrArg (fun l => Value.agg (List.toArray l)) ?_
  show [Value.int _ _, Value.string _] = _
  first | (simp_all [Msg.on, Eff.cells, Eff.zero, Str.nil]; done) | (simp_all [Msg.on, Eff.cells, Eff.zero, Str.nil]; split <;> first | (exfalso; omega) | (simp; done) | (split <;> first | (exfalso; omega) | (simp; done)))
 refine g9 7 ?_
 refine WC.cd (fun h22 p22 => ?_) (fun h22 p22 => ?_)
 ·refine g9 5 ?_
  refine W.ok (Ya (L := [iV _, sV _]) Za1 J9 rfl rfl rfl) (g9 7 ?_)
  refine congrArg (fun l => Value.agg (List.toArray l)) ?_
  show [Value.int _ _, Value.string _] = _
  first | (simp_all [Msg.on, Eff.cells, Eff.zero, Str.nil]; done) | (simp_all [Msg.on, Eff.cells, Eff.zero, Str.nil]; split <;> first | (exfalso; omega) | (simp; done) | (split <;> first | (exfalso; omega) | (simp; done)))
 refine g9 5 ?_
 refine WC.cd (fun h23 p23 => ?_) (fun h23 p23 => ?_)
 ·refine g9 2 ?_
  refine W.ok (Ya (L := [iV _, sV _]) Za1 J9 rfl rfl rfl) (g9 7 ?_)
  refine congrArg (fun l => Value.agg (List.toArray l)) ?_
  show [Value.int _ _, Value.string _] = _
  first | (simp_all [Msg.on, Eff.cells, Eff.zero, Str.nil]; done) | (simp_all [Msg.on, Eff.cells, Eff.zero, Str.nil]; split <;> first | (exfalso; omega) | (simp; done) | (split <;> first | (exfalso; omega) | (simp; done)))
 refine g9 5 ?_
 refine W.ok (Ya (L := [iV _, sV _]) Za1 J9 rfl rfl rfl) (g9 5 ?_)
 refine congrArg (fun l => Value.agg (List.toArray l)) ?_
 show [Value.int _ _, Value.string _] = _
 first | (simp_all [Msg.on, Eff.cells, Eff.zero, Str.nil]; done) | (simp_all [Msg.on, Eff.cells, Eff.zero, Str.nil]; split <;> first | (exfalso; omega) | (simp; done) | (split <;> first | (exfalso; omega) | (simp; done)))

theorem ZsI {G : GH} {v_a : Value} {a : List Pair} (h_a : SlR Zp G v_a a) {v_b : Value} {b : List Pair} (h_b : SlR Zp G v_b b) :
    Fc Tryz.prog 17 [v_a, v_b] G [] (fun v _ _ => v = .bool (decide (a = b))) := by
 obtain ⟨sa_a, sc_a, rfl⟩ := h_a.form
 obtain ⟨sa_b, sc_b, rfl⟩ := h_b.form
 have ha := h_a.len47
 have hb := h_b.len47
 refine Fc.go [.tmp 4] Tryz.func17 Tryz.ntmps17 rfl (fun w0 => (g9 15 ?_))
 refine WC.cn (fun h10 p10 => ?_) (fun h10 p10 => ?_)
 ·refine g9 8 ?_
  refine congrArg Value.bool ?_
  exact (decide_eq_false fun e => by subst e; omega).symm
 have hab : a.length = b.length := by omega
 refine g9 9 ?_
 refine WC.loop (X := Nat) (fun k => [(5, nt9 k), (0, lV sa_a a.length sc_a), (1, lV sa_b b.length sc_b)]) (fun k _ Ml => Ml = [] ∧ k ≤ a.length ∧ ∀ i (h : i < a.length) (h2 : i < b.length), i < k → a[i] = b[i]) (fun k => a.length - k) 0 hs9 ?_ ?_
 ·exact ⟨rfl, om9, fun i _ _ h => by omega⟩
 rintro k gG1 G1 _ hG1 ⟨rfl, hk0, hk⟩
 refine g9 9 ?_
 refine WC.cd (fun h14 p14 => ?_) (fun h14 p14 => ?_)
 ·refine g9 8 ?_
  refine (h_a.mono hG1).a1 (i := k) om9 (fun he2 => (g9 4 ?_))
  refine (h_b.mono hG1).a1 (i := k) om9 (fun he5 => (g9 2 ?_))
  refine W.ok (Zu0 (L1 := [sV _, sV _]) (L2 := [sV _, sV _]) Zr0 rfl rfl rfl rfl) (g9 2 ?_)
  refine WC.cond rfl (fun h25 => ?_) (fun h25 => ?_)
  ·refine g9 12 ?_
   refine congrArg Value.bool ?_
   exact (decide_eq_false fun e => by subst e; exact Pair.ne_of h25 rfl).symm
  refine g9 9 ?_
  exact ⟨Le.rfl, k + 1, hs9, ⟨rfl, om9, fun i h h2 hi => by
      by_cases e : i = k
      · subst e; exact Pair.eq_of h25
      · exact hk i h h2 om9⟩, om9⟩
 refine g9 12 ?_
 refine congrArg Value.bool ?_
 exact (decide_eq_true (List.ext_getElem om9 fun i h h2 => hk i h h2 om9)).symm

theorem Jf {G : GH} {v_a : Value} {a : List Pair} (h_a : SlR Zp G v_a a) :
    Fc Tryz.prog 146 [v_a] G [] (fun v G' M' => M' = [] ∧ ∃ u0, v = u0 ∧ SlR Zp G' u0 (a)) := by
 obtain ⟨sa_a, sc_a, rfl⟩ := h_a.form
 have ha := h_a.bytes
 refine Fc.go [.tmp 2] Tryz.func146 Tryz.ntmps146 rfl (fun w0 => (g9 9 ?_))
 refine W.ok (Za4 ZL rfl rfl) (g9 2 ?_)
 refine WC.cond rfl (fun h4 => ?_) (fun h4 => ?_)
 ·have hn := SlR.isNone h_a h4
  subst hn
  refine g9 8 ?_
  refine ⟨rfl, _, rfl, ?_⟩
  · exact SlR.nil
 refine g9 4 ?_
 refine W.lit0 (e := Zp) ZL ZM XN rfl (fun v21 Ms22 ho23 => (W.mv (W.app (e := Zp) ZL ZM XN rfl Zbs rfl rfl (ho23) (h_a) pr9 (by simpa using ha) (fun v24 Ms25 ho26 => (g9 3 ?_)))))
 refine WC.giveO ho26 pr9 (fun G27 hG27 hv27 => (g9 2 ?_))
 refine ⟨rfl, _, rfl, ?_⟩
 · exact hv27

theorem JS {G : GH} {v_a : Value} {a : List Msg} (h_a : SlR Zu G v_a a) :
    Fc Tryz.prog 160 [v_a] G [] (fun v G' M' => M' = [] ∧ ∃ u0, v = u0 ∧ SlR Zu G' u0 (a)) := by
 obtain ⟨sa_a, sc_a, rfl⟩ := h_a.form
 have ha := h_a.bytes
 refine Fc.go [.tmp 2] Tryz.func160 Tryz.ntmps160 rfl (fun w0 => (g9 9 ?_))
 refine W.ok (Za4 Z2 rfl rfl) (g9 2 ?_)
 refine WC.cond rfl (fun h4 => ?_) (fun h4 => ?_)
 ·have hn := SlR.isNone h_a h4
  subst hn
  refine g9 8 ?_
  refine ⟨rfl, _, rfl, ?_⟩
  · exact SlR.nil
 refine g9 4 ?_
 refine W.lit0 (e := Zu) Z2 Z7 Z1 rfl (fun v28 Ms29 ho30 => (W.mv (W.app (e := Zu) Z2 Z7 Z1 rfl JP rfl rfl (ho30) (h_a) pr9 (by simpa using ha) (fun v31 Ms32 ho33 => (g9 3 ?_)))))
 refine WC.giveO ho33 pr9 (fun G34 hG34 hv34 => (g9 2 ?_))
 refine ⟨rfl, _, rfl, ?_⟩
 · exact hv34

theorem Zlb {G : GH} (ak : Int) (av : Str) (bk : Int) (bv : Str) (ha : av.b.size ≤ 1048576) (hb : bv.b.size ≤ 1048576) :
    Fc Tryz.prog 211 [.agg #[iV ak, sV av.b], .agg #[iV bk, sV bv.b]] G [] (fun v _ _ => v = .agg (List.toArray ((Eff.then (⟨ak, av⟩ : Eff) (⟨bk, bv⟩ : Eff)).cells))) := by
 refine Fc.go [.cell 4 132] Tryz.func211 Tryz.ntmps211 rfl (fun w0 => (g9 2 ?_))
 refine W.box (L := [iV _, sV _]) rfl rfl (fun b1 => (W.box (L := [iV _, sV _]) rfl rfl (fun b2 => (W.alloc J9 (fun b3 => (g9 12 ?_))))))
 refine WC.cd (fun h10 p10 => ?_) (fun h10 p10 => ?_)
 ·refine g9 10 ?_
  refine congrArg (fun l => Value.agg (List.toArray l)) ?_
  show [Value.int _ _, Value.string _] = _
  first | (simp_all [Eff.then, Eff.cells, Eff.apply, Yz, Str.nil]; done) | (simp_all [Eff.then, Eff.cells, Eff.apply, Yz, Str.nil]; split <;> simp)
 refine g9 6 ?_
 refine W.sm 16 (fun h15 p15 => ?_) (fun h15 p15 => ?_)
 ·refine g9 18 ?_
  refine congrArg (fun l => Value.agg (List.toArray l)) ?_
  show [Value.int _ _, Value.string _] = _
  first | (simp_all [Eff.then, Eff.cells, Eff.apply, Yz, Str.nil]; done) | (simp_all [Eff.then, Eff.cells, Eff.apply, Yz, Str.nil]; split <;> simp)
 refine g9 10 ?_
 refine WC.cd (fun h19 p19 => ?_) (fun h19 p19 => ?_)
 ·refine g9 10 ?_
  refine congrArg (fun l => Value.agg (List.toArray l)) ?_
  show [Value.int _ _, Value.string _] = _
  first | (simp_all [Eff.then, Eff.cells, Eff.apply, Yz, Str.nil]; done) | (simp_all [Eff.then, Eff.cells, Eff.apply, Yz, Str.nil]; split <;> simp)
 refine g9 11 ?_
 refine W.qcall (Zek _ _ _ _ (by first | assumption | omega | (dsimp only; omega) | (simp; omega)) (by first | assumption | omega | (dsimp only; omega) | (simp; omega))) rfl (g9 20 ?_)
 refine WC.cd (fun h37 p37 => ?_) (fun h37 p37 => ?_)
 ·refine g9 3 ?_
  refine W.ok (Ya (L := [iV _, sV _]) Za1 J9 rfl rfl rfl) (g9 6 ?_)
  refine congrArg (fun l => Value.agg (List.toArray l)) ?_
  show [Value.int _ _, Value.string _] = _
  first | (simp_all [Eff.then, Eff.cells, Eff.apply, Yz, Str.nil]; done) | (simp_all [Eff.then, Eff.cells, Eff.apply, Yz, Str.nil]; split <;> simp)
 refine g9 3 ?_
 refine W.ok (Ya (L := [iV _, sV _]) Za1 J9 rfl rfl rfl) (g9 6 ?_)
 refine congrArg (fun l => Value.agg (List.toArray l)) ?_
 show [Value.int _ _, Value.string _] = _
 first | (simp_all [Eff.then, Eff.cells, Eff.apply, Yz, Str.nil]; done) | (simp_all [Eff.then, Eff.cells, Eff.apply, Yz, Str.nil]; split <;> simp)

theorem ZsJ {G : GH} {v_l : Value} {l : List Msg} (h_l : SlR Zu G v_l l) (key : Str) (hm : ∀ m ∈ l, m.key.b.size < 140737488355328 ∧ m.val.b.size ≤ 16) :
    Fc Tryz.prog 182 [v_l, sV key.b] G [] (fun v _ _ => v = .agg (List.toArray ((YF l key).cells))) := by
 obtain ⟨sa_l, sc_l, rfl⟩ := h_l.form
 have hl := h_l.len47
 refine Fc.go [.cell 4 132] Tryz.func182 Tryz.ntmps182 rfl (fun w0 => (g9 2 ?_))
 refine W.alloc J9 (fun b4 => (g9 11 ?_))
 refine WC.loop (X := Nat) (fun k => [(9, nt9 k), (4, pt9 b4), (1, sV key.b), (7, lV sa_l l.length sc_l), (8, nt9 ((l).length))]) (fun k _ Ml => Ml = [(b4, ce9 132 [iV (YF (l.take k) key).kind, sV (YF (l.take k) key).val.b])] ∧ k ≤ l.length) (fun k => l.length - k) 0 hs9 ?_ ?_
 ·exact ⟨rfl, om9⟩
 rintro k gG5 G5 _ hG5 ⟨rfl, hk⟩
 have hon := ZeW (l.take k) key (fun m hm2 => (hm m (List.mem_of_mem_take hm2)).2)
 refine g9 6 ?_
 refine WC.cd (fun h10 p10 => ?_) (fun h10 p10 => ?_)
 ·refine g9 6 ?_
  refine (h_l.mono hG5).a2 (i := k) om9 (fun he6 hm7 => (g9 2 ?_))
  refine W.alloc Z1 (fun b11 => (g9 3 ?_))
  refine WC.dw ((sr9.cons _).k9) (d9 [1, 2] ?_)
  refine WD.any [0, 3] (by kernel_rfl) rfl ⟨WD.ap ?_, WD.ap ?_, trivial⟩
  ·refine g9 1 ?_
   refine W.nn (WD.a1 3 rfl (W.qcall (Zel _ _ _ _ _ _ _ (hm _ (List.getElem_mem _)).1) rfl (W.nn (WD.a1 4 rfl (W.qcall (Zlb (YF (l.take k) key).kind (YF (l.take k) key).val (Msg.on l[k] key).kind (Msg.on l[k] key).val om9 (by have := ZbG key (hm _ (List.getElem_mem (by omega : k < l.length))).2; omega)) rfl (W.nn (d9 [5] ?_)))))))
   refine WD.done (by kernel_rfl) (JV (Xg (g9 3 ?_)))
   refine W.sub (sr9.cons _) (g9 2 ?_)
   exact ⟨Le.rfl, k + 1, hs9, ⟨(by rw [Zhw _ om9]; rfl), om9⟩, om9⟩
  refine W.qcall (Zel _ _ _ _ _ _ _ (hm _ (List.getElem_mem _)).1) rfl (W.nn (WD.a1 0 rfl (g9 1 ?_)))
  refine W.nn (WD.a1 4 rfl (W.qcall (Zlb (YF (l.take k) key).kind (YF (l.take k) key).val (Msg.on l[k] key).kind (Msg.on l[k] key).val om9 (by have := ZbG key (hm _ (List.getElem_mem (by omega : k < l.length))).2; omega)) rfl (W.nn (d9 [5] ?_))))
  refine WD.done (by kernel_rfl) (JV (Xg (g9 3 ?_)))
  refine W.sub (sr9.cons _) (g9 2 ?_)
  exact ⟨Le.rfl, k + 1, hs9, ⟨(by rw [Zhw _ om9]; rfl), om9⟩, om9⟩
 refine g9 13 ?_
 refine congrArg (fun l => Value.agg (List.toArray l)) ?_
 show [Value.int _ _, Value.string _] = _
 rw [List.take_of_length_le om9]; rfl

theorem ZsK {G : GH} (a : Str) (b : Str) :
    Fc Tryz.prog 199 [sV a.b, sV b.b] G [] (fun v _ _ => v = iV (Js a b)) := by
 refine Fc.go [.tmp 4] Tryz.func199 Tryz.ntmps199 rfl (fun w0 => (g9 8 ?_))
 refine W.qcall (ZgF _) rfl (g9 6 ?_)
 refine W.qcall (ZgF _) rfl (g9 9 ?_)
 refine WC.cond rfl (fun h8 => ?_) (fun h8 => ?_)
 ·cases h8
 refine g9 8 ?_
 refine WC.cond rfl (fun h10 => ?_) (fun h10 => ?_)
 ·cases h10
 refine g9 10 ?_
 refine WC.cond rfl (fun h16 => ?_) (fun h16 => ?_)
 ·refine g9 8 ?_
  refine congrArg (Value.int .i64) ?_
  simp_all [Js, Str.lt]
 refine g9 7 ?_
 refine W.ok (Zvq rfl rfl) (g9 2 ?_)
 refine WC.cond rfl (fun h19 => ?_) (fun h19 => ?_)
 ·refine g9 8 ?_
  refine congrArg (Value.int .i64) ?_
  simp_all [Js, Str.lt]
 refine g9 9 ?_
 refine congrArg (Value.int .i64) ?_
 simp_all [Js, Str.lt]

theorem Zlc {G : GH} (a : Str) (b : Str) :
    Fc Tryz.prog 166 [sV a.b, sV b.b] G [] (fun v _ _ => v = iV (Js a b)) := by
 refine Fc.go [.tmp 4] Tryz.func166 Tryz.ntmps166 rfl (fun w0 => (g9 9 ?_))
 refine W.qcall (ZsK _ _) rfl (g9 5 ?_)
 rfl

theorem Zld {G : GH} (pk : Str) (pv : Str) (k : Str) :
    Fc Tryz.prog 165 [.agg #[sV pk.b, sV pv.b], sV k.b] G [] (fun v _ _ => v = iV (Js pk k)) := by
 refine Fc.go [.tmp 4] Tryz.func165 Tryz.ntmps165 rfl (fun w0 => (g9 2 ?_))
 refine W.box (L := [sV _, sV _]) rfl rfl (fun b19 => (g9 8 ?_))
 refine W.qcall (Zlc _ _) rfl (g9 5 ?_)
 rfl

theorem Zle {G : GH} (pk : Str) (pv : Str) (k : Str) :
    Fc Tryz.prog 206 [.agg #[sV pk.b, sV pv.b], sV k.b] G [] (fun v _ _ => v = iV (Js pk k)) := by
 refine Fc.go [.tmp 4] Tryz.func206 Tryz.ntmps206 rfl (fun w0 => (g9 2 ?_))
 refine W.box (L := [sV _, sV _]) rfl rfl (fun b20 => (g9 8 ?_))
 refine W.qcall (Zlc _ _) rfl (g9 5 ?_)
 rfl

theorem ZsL {G : GH} {v_l : Value} {l : List Pair} (h_l : SlR Zp G v_l l) (k : Str) (hr : Srt l) :
    Fc Tryz.prog 164 [v_l, sV k.b, .func (.func 165) #[] #[]] G [] (fun v _ _ => v = .tuple #[nt9 (ZG l k), .bool ((Zi l k).isSome)]) := by
 obtain ⟨sa_l, sc_l, rfl⟩ := h_l.form
 have hlen := h_l.len47
 refine Fc.go [.tmp 6, .tmp 7] Tryz.func164 Tryz.ntmps164 rfl (fun w0 => (g9 22 ?_))
 refine WC.loop (X := Nat × Nat) (fun x => [(9, nt9 x.1), (10, nt9 x.2), (0, lV sa_l l.length sc_l), (1, sV k.b), (2, .func (.func 165) #[] #[]), (8, nt9 ((l).length))]) (fun x _ Ml => Ml = [] ∧ x.1 ≤ x.2 ∧ x.2 ≤ l.length ∧ (∀ q (h : q < l.length), q < x.1 → l[q].key.lt k = true) ∧ (∀ q (h : q < l.length), x.2 ≤ q → l[q].key.lt k = false)) (fun x => x.2 - x.1) (0, l.length) hs9 ?_ ?_
 ·exact ⟨rfl, by simp, by simp, (fun q _ h => by simp at h), (fun q h h' => by simp at h'; omega)⟩
 rintro ⟨i, j⟩ gG21 G21 _ hG21 ⟨rfl, hi, hj, h1, h2⟩
 dsimp only at hi hj h1 h2
 refine g9 8 ?_
 refine WC.cd (fun h17 p17 => ?_) (fun h17 p17 => ?_)
 ·refine g9 8 ?_
  refine W.ok (ZgV un3 Zcb rfl om9) (W.ok (ZgX rfl rfl om9) (W.ok (ZgW Zcb un3 rfl om9) (g9 8 ?_)))
  refine (h_l.mono hG21).a1 (i := (i + j) / 2) om9 (fun he22 => (W.ok (Yu (i := (i + j) / 2) ZL ZM (h_l.mono hG21) rfl rfl ⟨by dsimp only; omega, om9⟩) (g9 2 ?_)))
  refine W.qcallV (fst := []) (caps := []) rfl (Zld _ _ _) rfl (g9 3 ?_)
  refine WC.cd (fun h31 p31 => ?_) (fun h31 p31 => ?_)
  ·refine g9 7 ?_
   exact ⟨Le.rfl, ((i + j) / 2 + 1, j), hs9, ⟨rfl, by dsimp only; omega, by dsimp only; omega, (fun q h hq => hr.below om9 (ZeV.1 p31) q h (by dsimp only at hq; omega)), h2⟩, by dsimp only; omega⟩
  refine g9 6 ?_
  exact ⟨Le.rfl, (i, (i + j) / 2), hs9, ⟨rfl, by dsimp only; omega, by dsimp only; omega, h1, (fun q h hq => hr.above om9 (ZhC p31) q h (by dsimp only at hq; omega))⟩, by dsimp only; omega⟩
 refine g9 12 ?_
 refine W.sd 39 (fun h38 p38 => ?_) (fun h38 p38 => ?_)
 ·refine g9 7 ?_
  refine (h_l.mono hG21).a1 (i := i) om9 (fun he25 => (g9 6 ?_))
  refine W.qcallV (fst := []) (caps := []) rfl (Zld _ _ _) rfl (g9 9 ?_)
  have hlow : ZG l k = i := Zco om9 h1 (fun q h hq => h2 q h om9)
  refine Zbw (by rw [hlow]) ?_
  rw [hr.has]
  rw [ZhB]
  exact decide_eq_decide.2 ⟨fun e => ⟨om9, by simp only [hlow]; exact e⟩, fun ⟨_, e⟩ => by simp only [hlow] at e; exact e⟩
 refine g9 15 ?_
 have hlow : ZG l k = i := Zco om9 h1 (fun q h hq => h2 q h om9)
 refine Zbw (by rw [hlow]) ?_
 rw [hr.has]
 exact (decide_eq_false (by rintro ⟨h, _⟩; omega)).symm

theorem ZsM {G : GH} {v_l : Value} {l : List Pair} (h_l : SlR Zp G v_l l) (k : Str) (hr : Srt l) :
    Fc Tryz.prog 164 [v_l, sV k.b, .func (.func 206) #[] #[]] G [] (fun v _ _ => v = .tuple #[nt9 (ZG l k), .bool ((Zi l k).isSome)]) := by
 obtain ⟨sa_l, sc_l, rfl⟩ := h_l.form
 have hlen := h_l.len47
 refine Fc.go [.tmp 6, .tmp 7] Tryz.func164 Tryz.ntmps164 rfl (fun w0 => (g9 22 ?_))
 refine WC.loop (X := Nat × Nat) (fun x => [(9, nt9 x.1), (10, nt9 x.2), (0, lV sa_l l.length sc_l), (1, sV k.b), (2, .func (.func 206) #[] #[]), (8, nt9 ((l).length))]) (fun x _ Ml => Ml = [] ∧ x.1 ≤ x.2 ∧ x.2 ≤ l.length ∧ (∀ q (h : q < l.length), q < x.1 → l[q].key.lt k = true) ∧ (∀ q (h : q < l.length), x.2 ≤ q → l[q].key.lt k = false)) (fun x => x.2 - x.1) (0, l.length) hs9 ?_ ?_
 ·exact ⟨rfl, by simp, by simp, (fun q _ h => by simp at h), (fun q h h' => by simp at h'; omega)⟩
 rintro ⟨i, j⟩ gG28 G28 _ hG28 ⟨rfl, hi, hj, h1, h2⟩
 dsimp only at hi hj h1 h2
 refine g9 8 ?_
 refine WC.cd (fun h17 p17 => ?_) (fun h17 p17 => ?_)
 ·refine g9 8 ?_
  refine W.ok (ZgV un3 Zcb rfl om9) (W.ok (ZgX rfl rfl om9) (W.ok (ZgW Zcb un3 rfl om9) (g9 8 ?_)))
  refine (h_l.mono hG28).a1 (i := (i + j) / 2) om9 (fun he29 => (W.ok (Yu (i := (i + j) / 2) ZL ZM (h_l.mono hG28) rfl rfl ⟨by dsimp only; omega, om9⟩) (g9 2 ?_)))
  refine W.qcallV (fst := []) (caps := []) rfl (Zle _ _ _) rfl (g9 3 ?_)
  refine WC.cd (fun h31 p31 => ?_) (fun h31 p31 => ?_)
  ·refine g9 7 ?_
   exact ⟨Le.rfl, ((i + j) / 2 + 1, j), hs9, ⟨rfl, by dsimp only; omega, by dsimp only; omega, (fun q h hq => hr.below om9 (ZeV.1 p31) q h (by dsimp only at hq; omega)), h2⟩, by dsimp only; omega⟩
  refine g9 6 ?_
  exact ⟨Le.rfl, (i, (i + j) / 2), hs9, ⟨rfl, by dsimp only; omega, by dsimp only; omega, h1, (fun q h hq => hr.above om9 (ZhC p31) q h (by dsimp only at hq; omega))⟩, by dsimp only; omega⟩
 refine g9 12 ?_
 refine W.sd 39 (fun h38 p38 => ?_) (fun h38 p38 => ?_)
 ·refine g9 7 ?_
  refine (h_l.mono hG28).a1 (i := i) om9 (fun he32 => (g9 6 ?_))
  refine W.qcallV (fst := []) (caps := []) rfl (Zle _ _ _) rfl (g9 9 ?_)
  have hlow : ZG l k = i := Zco om9 h1 (fun q h hq => h2 q h om9)
  refine Zbw (by rw [hlow]) ?_
  rw [hr.has]
  rw [ZhB]
  exact decide_eq_decide.2 ⟨fun e => ⟨om9, by simp only [hlow]; exact e⟩, fun ⟨_, e⟩ => by simp only [hlow] at e; exact e⟩
 refine g9 15 ?_
 have hlow : ZG l k = i := Zco om9 h1 (fun q h hq => h2 q h om9)
 refine Zbw (by rw [hlow]) ?_
 rw [hr.has]
 exact (decide_eq_false (by rintro ⟨h, _⟩; omega)).symm

theorem Zlf {G : GH} {v_l : Value} {l : List Pair} (h_l : SlR Zp G v_l l) (k : Str) (hr : Srt l) :
    Fc Tryz.prog 125 [v_l, sV k.b] G [] (fun v _ _ => v = .tuple #[nt9 (ZG l k), .bool ((Zi l k).isSome)]) := by
 obtain ⟨sa_l, sc_l, rfl⟩ := h_l.form
 refine Fc.go [.tmp 4, .tmp 5] Tryz.func125 Tryz.ntmps125 rfl (fun w0 => (g9 10 ?_))
 refine W.qcall (ZsL h_l k hr) rfl (g9 8 ?_)
 rfl

theorem ZsN {G : GH} {v_l : Value} {l : List Pair} (h_l : SlR Zp G v_l l) (k : Str) (hr : Srt l) :
    Fc Tryz.prog 172 [v_l, sV k.b] G [] (fun v _ _ => v = .tuple #[nt9 (ZG l k), .bool ((Zi l k).isSome)]) := by
 obtain ⟨sa_l, sc_l, rfl⟩ := h_l.form
 refine Fc.go [.tmp 4, .tmp 5] Tryz.func172 Tryz.ntmps172 rfl (fun w0 => (g9 10 ?_))
 refine W.qcall (ZsM h_l k hr) rfl (g9 8 ?_)
 rfl

theorem ZsO {G : GH} {v_l : Value} {l : List Pair} (h_l : SlR Zp G v_l l) (k : Str) (hr : Srt l) :
    Fc Tryz.prog 75 [v_l, sV k.b] G [] (fun v _ _ => v = .tuple #[sV (Str.b ((Zi l k).getD Str.nil)), .bool ((Zi l k).isSome)]) := by
 obtain ⟨sa_l, sc_l, rfl⟩ := h_l.form
 have hlen := h_l.len47
 have hh := hr.has k
 refine Fc.go [.tmp 4, .tmp 5] Tryz.func75 Tryz.ntmps75 rfl (fun w0 => (g9 10 ?_))
 refine W.qcall (Zlf h_l _ (by assumption)) rfl (g9 14 ?_)
 refine WC.cond rfl (fun h15 => ?_) (fun h15 => ?_)
 ·refine g9 9 ?_
  show Value.tuple #[Value.string _, Value.bool _] = _
  have e : Zi l k = none := by simpa using h15
  rw [e]; rfl
 have hs : (Zi l k).isSome = true := by simpa using h15
 obtain ⟨q1, q2⟩ := odt (hh.symm.trans hs)
 have hv := hr.val q1 q2
 refine g9 6 ?_
 refine h_l.a1 (i := ZG l k) (q1) (fun he35 => (W.ok (Yu (i := ZG l k) ZL ZM h_l rfl rfl ⟨om9, q1⟩) (g9 8 ?_)))
 show Value.tuple #[Value.string _, Value.bool _] = _
 rw [hv]; rfl

theorem ZsP {G : GH} {v_l : Value} {l : List Pair} (h_l : SlR Zp G v_l l) (slo : Str) (shi : Str) (so : Bool) (hn : l.length ≤ 1000000) :
    Fc Tryz.prog 126 [v_l, .agg #[sV slo.b, sV shi.b, .bool so]] G [] (fun v G' M' => M' = [] ∧ ∃ u0, v = u0 ∧ SlR Zp G' u0 (l.filter (fun p : Pair => Span.has ⟨slo, shi, so⟩ p.key))) := by
 obtain ⟨sa_l, sc_l, rfl⟩ := h_l.form
 have hl := h_l.len47
 refine Fc.go [.tmp 4] Tryz.func126 Tryz.ntmps126 rfl (fun w0 => (g9 2 ?_))
 refine W.box (L := [sV _, sV _, .bool _]) rfl rfl (fun b14 => (g9 17 ?_))
 refine WC.loop (X := (Nat) × Value × MH) (fun i => [(10, nt9 i.1), (3, pt9 b14), (8, lV sa_l l.length sc_l), (9, nt9 ((l).length)), (5, i.2.1)]) (fun i G Ml => Ml = ((b14, ce9 62 [sV slo.b, sV shi.b, .bool so]) :: (i.2.2 ++ [])) ∧ OwnR Zp 74 G i.2.1 (List.filter (fun p : Pair => Span.has ⟨slo, shi, so⟩ p.key) (l.take i.1)) i.2.2 ∧ i.1 ≤ l.length) (fun i => l.length - i.1) (0, lV none 0 0, ([] : MH)) hs9 ?_ ?_
 ·exact ⟨rfl, (by simpa using OwnR.nil), om9⟩
 rintro ⟨i, v_5, M_5⟩ gG15 G15 _ hG15 ⟨rfl, ho_5, hi⟩
 try dsimp only at ho_5 hi
 have hfl := Zns (fun p : Pair => Span.has ⟨slo, shi, so⟩ p.key) l i
 refine WC.fr (f := ZX gG15 [(10, nt9 i), (3, pt9 b14), (8, lV sa_l l.length sc_l), (9, nt9 ((l).length)), (5, v_5)]) rfl (g9 6 ?_)
 refine WC.cd (fun h11 p11 => ?_) (fun h11 p11 => ?_)
 ·refine g9 6 ?_
  refine (h_l.mono hG15).a1 (i := i) om9 (fun he16 => (g9 2 ?_))
  refine W.alloc XN (fun b19 => (g9 8 ?_))
  refine W.qcall (Zej _ _ _ _) rfl (g9 2 ?_)
  refine WC.cond rfl (fun h17 => ?_) (fun h17 => ?_)
  ·refine g9 3 ?_
   refine W.lit (e := Zp) (l := [⟨((l)[i]).key, ((l)[i]).val⟩]) (css := [[sV _, sV _]]) ZL ZM XN rfl rfl rfl rfl rfl rfl ⟨rfl, trivial⟩ (fun bl20 G20 hG20 hv20 => (W.app (e := Zp) ZL ZM XN rfl Zbs rfl rfl ((ho_5.mono hG20)) (hv20) (pmC (pmC pr9)) (by show (_ + 1) * 32 ≤ _; (try simp only [List.length_append] at *); omega) (fun v21 Ms22 ho23 => (W.perm (pmC (pmC pr9)).symm (g9 7 ?_)))))
   refine W.sub (sr9.cons _) (g9 2 ?_)
   exact ⟨hG20, (i + 1, v21, Ms22), hs9, ⟨rfl, (by have h := ho23; rw [Zdj (p := (fun p : Pair => Span.has ⟨slo, shi, so⟩ p.key)) om9 (by simpa using h17)]; exact h), om9⟩, om9⟩
  refine g9 6 ?_
  refine W.sub (sr9.cons _) (g9 2 ?_)
  exact ⟨Le.rfl, (i + 1, v_5, M_5), hs9, ⟨rfl, (by have h := ho_5; rw [Zcp (p := (fun p : Pair => Span.has ⟨slo, shi, so⟩ p.key)) om9 (by simpa using h17)]; exact h), om9⟩, om9⟩
 refine g9 11 ?_
 refine WC.giveO ho_5 (pmC pr9) (fun G24 hG24 hv24 => (g9 2 ?_))
 refine ⟨rfl, _, rfl, ?_⟩
 · have h := hv24; rw [List.take_of_length_le om9] at h; exact h

theorem Zlg {G : GH} (pk : Str) (pv : Str) (slo : Str) (shi : Str) (so : Bool) {b_s : Nat} (h_s : CellsG G b_s 0 [sV slo.b, sV shi.b, .bool so]) :
    Fc Tryz.prog 257 [.agg #[sV pk.b, sV pv.b], pt9 b_s] G [] (fun v _ _ => v = .bool (Span.has ⟨slo, shi, so⟩ pk)) := by
 refine Fc.go [.tmp 3] Tryz.func257 Tryz.ntmps257 rfl (fun w0 => (g9 2 ?_))
 refine W.box (L := [sV _, sV _]) rfl rfl (fun b1 => (g9 5 ?_))
 refine W.ok (Zcl (vs := sp9) Yt h_s rfl rfl rfl (by simp)) (g9 2 ?_)
 refine W.qcall (Zej _ _ _ _) rfl (g9 5 ?_)
 rfl

theorem ZsQ {G : GH} {v_l : Value} {l : List Pair} {Ms_l : MH} (h_l : OwnR Zp 74 G v_l l Ms_l) (slo : Str) (shi : Str) (so : Bool) {b_s : Nat} (h_s : CellsG G b_s 0 [sV slo.b, sV shi.b, .bool so]) :
    Fc Tryz.prog 261 [v_l, .func (.func 257) #[] #[pt9 b_s]] G Ms_l (fun v _ M' => v = iV (Yf (fun p : Pair => Span.has ⟨slo, shi, so⟩ p.key) l) ∧ Ms_l = M') := by
 have hl := h_l.len47
 refine Fc.go [.tmp 4] Tryz.func261 Tryz.ntmps261 rfl (fun w0 => (WC.perm (M' := (Ms_l ++ [])) (by simp) (g9 14 ?_)))
 refine WC.loop (X := Nat) (fun k => [(8, nt9 k), (0, v_l), (1, .func (.func 257) #[] #[pt9 b_s]), (7, nt9 ((l).length))]) (fun k _ Ml => Ml = (Ms_l ++ []) ∧ k ≤ l.length ∧ ∀ j (h : j < l.length), j < k → (fun p : Pair => Span.has ⟨slo, shi, so⟩ p.key) l[j] = false) (fun k => l.length - k) 0 hs9 ?_ ?_
 ·exact ⟨rfl, om9, fun j _ h => by omega⟩
 rintro k gG2 G2 _ hG2 ⟨rfl, hk, hj⟩
 refine g9 6 ?_
 refine WC.cd (fun h9 p9 => ?_) (fun h9 p9 => ?_)
 ·refine g9 15 ?_
  refine (h_l.mono hG2).a1 (i := k) om9 (fun he3 => (W.ok (Yw (i := k) ZL ZM (h_l.mono hG2) rfl rfl ⟨om9, om9⟩) (W.ok (Y4 (vs := pr29) ZM he3 pr9 rfl rfl rfl (by simp)) (W.qcallV (fst := []) (caps := [pt9 b_s]) rfl (Zlg _ _ _ _ _ (h_s.mono hG2)) rfl (g9 2 ?_)))))
  refine WC.cond rfl (fun h16 => ?_) (fun h16 => ?_)
  ·refine g9 12 ?_
   refine ⟨.inr rfl, [_], ⟨rfl, trivial⟩, Ms_l, List.sublist_append_left _ _, ?_⟩
   refine ⟨congrArg (Value.int .i64) ?_, rfl⟩
   exact (Zdy om9 (h16) hj).symm
  refine g9 8 ?_
  exact ⟨Le.rfl, k + 1, hs9, ⟨rfl, om9, fun j h hji => by
      by_cases e2 : j = k
      · subst e2; exact h16
      · exact hj j h om9⟩, om9⟩
 refine g9 11 ?_
 refine ⟨.inr rfl, [_], ⟨rfl, trivial⟩, Ms_l, List.sublist_append_left _ _, ?_⟩
 refine ⟨congrArg (Value.int .i64) ?_, rfl⟩
 exact (Zdz (fun j h => hj j h om9)).symm

theorem ZsR {G : GH} {v_l : Value} {l : List Pair} {Ms_l : MH} (h_l : OwnR Zp 74 G v_l l Ms_l) (slo : Str) (shi : Str) (so : Bool) {b_s : Nat} (h_s : CellsG G b_s 0 [sV slo.b, sV shi.b, .bool so]) :
    Fc Tryz.prog 256 [v_l, .func (.func 257) #[] #[pt9 b_s]] G Ms_l (fun v G' M' => OwnR Zp 74 G' v (l.filter (fun a => !(fun p : Pair => Span.has ⟨slo, shi, so⟩ p.key) a)) M') := by
 have hl := h_l.len47
 have hix := Zff (fun p : Pair => Span.has ⟨slo, shi, so⟩ p.key) l
 refine Fc.go [.tmp 4] Tryz.func256 Tryz.ntmps256 rfl (fun w0 => (WC.perm (M' := (Ms_l ++ [])) (by simp) (g9 9 ?_)))
 refine W.call (Mp := Ms_l) (ZsQ h_l _ _ _ h_s) rfl pr9 ?_
 intro _ G6 Ms8 hG6 q7
 refine match q7 with | ⟨e_9, e_10⟩ => ?_
 subst e_9
 subst e_10
 refine g9 10 ?_
 refine WC.cd (fun h12 p12 => ?_) (fun h12 p12 => ?_)
 ·try dsimp only at p12
  refine g9 8 ?_
  refine ⟨.inr rfl, [_], ⟨rfl, trivial⟩, Ms_l, List.sublist_append_left _ _, ?_⟩
  have h := (h_l.mono hG6)
  rw [Zoj p12]
  exact h
 try dsimp only at p12
 refine g9 11 ?_
 refine WC.loop (X := (Nat × Nat × List Pair) × Value × MH) (fun x => [(5, nt9 x.1.1), (6, nt9 x.1.2.1), (1, .func (.func 257) #[] #[pt9 b_s]), (0, x.2.1)]) (fun x G Ml => Ml = (x.2.2 ++ []) ∧ OwnR Zp 74 G x.2.1 (x.1.2.2) x.2.2 ∧ x.1.1 < x.1.2.1 ∧ x.1.2.1 ≤ l.length ∧ x.1.2.2.length = l.length ∧ x.1.2.2.take x.1.1 = (l.take x.1.2.1).filter (fun a => !(fun p : Pair => Span.has ⟨slo, shi, so⟩ p.key) a) ∧ x.1.2.2.drop x.1.2.1 = l.drop x.1.2.1) (fun x => l.length - x.1.2.1) (((Yf (fun p : Pair => Span.has ⟨slo, shi, so⟩ p.key) l).toNat, (Yf (fun p : Pair => Span.has ⟨slo, shi, so⟩ p.key) l).toNat + 1, l), v_l, Ms_l) hs9 ?_ ?_
 ·exact ⟨rfl, (by exact (h_l.mono hG6)), by dsimp only; omega, by dsimp only; omega, rfl, Zok p12, rfl⟩
 rintro ⟨⟨i, j, m⟩, v_0, M_0⟩ gG11 G11 _ hG11 ⟨rfl, ho_0, hij, hjl, hml, hmt, hmd⟩
 try dsimp only at ho_0 hij hjl hml hmt hmd
 have hmj := fun (h : j < l.length) => Zio (by omega : j < m.length) h hmd
 refine g9 9 ?_
 refine WC.cd (fun h19 p19 => ?_) (fun h19 p19 => ?_)
 ·try dsimp only at p19
  refine g9 8 ?_
  refine ho_0.a1 (i := j) om9 (fun he12 => (W.ok (Yw (i := j) ZL ZM ho_0 rfl rfl ⟨by dsimp only, om9⟩) (W.ok (Y4 (vs := pr29) ZM he12 pr9 rfl rfl rfl (by simp)) (W.alloc XN (fun b15 => (g9 7 ?_))))))
  refine W.qcallV (fst := []) (caps := [pt9 b_s]) rfl (Zlg _ _ _ _ _ (h_s.mono lec)) rfl (g9 3 ?_)
  refine WC.cond rfl (fun h29 => ?_) (fun h29 => ?_)
  ·refine g9 5 ?_
   refine ho_0.a1 (i := i) om9 (fun he16 => (W.ok (Yw (i := i) ZL ZM ho_0 rfl rfl ⟨by dsimp only, om9⟩) (W.storeO (i := i) (o := 0) (vs := pr29) (a' := m[j]) ZM rfl rfl rfl rfl rfl (ho_0) (pmC pr9) om9 (by decide) (fun cs h => by first | (rw [h]; rfl) | (rw [h.1]; exact ⟨rfl, by assumption⟩)) (fun Ms19 ho20 => (W.perm (pmC pr9).symm (g9 13 ?_))))))
   refine W.sub (sr9.cons _) (g9 2 ?_)
   exact ⟨Le.rfl, ((i + 1, j + 1, m.set i m[j]), v_0, Ms19), hs9, ⟨rfl, (by exact ho20), by dsimp only; omega, by dsimp only; omega, by simpa using hml, (Ziq (p := (fun a => !(fun p : Pair => Span.has ⟨slo, shi, so⟩ p.key) a)) hij om9 hml hmt hmd (by rw [← hmj om9]; simpa using h29)).1, (Ziq (p := (fun a => !(fun p : Pair => Span.has ⟨slo, shi, so⟩ p.key) a)) hij om9 hml hmt hmd (by rw [← hmj om9]; simpa using h29)).2⟩, by dsimp only; omega⟩
  refine g9 7 ?_
  refine W.sub (sr9.cons _) (g9 2 ?_)
  exact ⟨Le.rfl, ((i, j + 1, m), v_0, M_0), hs9, ⟨rfl, (by exact ho_0), by dsimp only; omega, by dsimp only; omega, hml, (Zir (p := (fun a => !(fun p : Pair => Span.has ⟨slo, shi, so⟩ p.key) a)) om9 hmt hmd (by rw [← hmj om9]; simpa using h29)).1, (Zir (p := (fun a => !(fun p : Pair => Span.has ⟨slo, shi, so⟩ p.key) a)) om9 hmt hmd (by rw [← hmj om9]; simpa using h29)).2⟩, by dsimp only; omega⟩
 try dsimp only at p19
 refine g9 9 ?_
 have q22 := ho_0.formB om9
 refine match q22 with | ⟨b38, c38, e_21⟩ => ?_
 subst e_21
 have hc38 := ho_0.cap_le
 refine W.ok (XP i m.length ZL ZM ho_0 rfl ⟨_, _, rfl, by first | omega | (dsimp only; omega) | dsimp only⟩ rfl ⟨om9, .inl om9⟩) (W.clearO (e := Zp) (lo := i) (hi := m.length) (m := i) ZL ZM XN rfl rfl ho_0 pr9 rfl om9 hc38 ⟨_, rfl⟩ om9 om9 (fun Ms38 ho38 => (g9 6 ?_)))
 refine W.ok (ZeG 0 i ZL ZM rfl rfl ⟨_, _, rfl, by first | omega | (dsimp only; omega) | dsimp only⟩ ⟨om9, by simp only [YZ] at hc38; omega⟩) (g9 4 ?_)
 refine ⟨.inr rfl, [_], ⟨rfl, trivial⟩, Ms38, List.sublist_append_left _ _, ?_⟩
 have h := ho38
 rw [← List.take_of_length_le (l := l) (i := j) om9, ← hmt]
 exact h

theorem ZsS {G : GH} {v_s : Value} {s : List Pair} {Ms_s : MH} (h_s : OwnR Zp 74 G v_s s Ms_s) (i : Nat) {v_u : Value} {u : List Pair} {Ms_u : MH} (h_u : OwnR Zp 74 G v_u u Ms_u) (hi : i ≤ s.length) (hu : 0 < u.length) (hw : (s.length + u.length) * 32 ≤ 140737488355328) :
    Fc Tryz.prog 200 [v_s, nt9 i, v_u] G (Ms_s ++ Ms_u) (fun v G' M' => OwnR Zp 74 G' v ((s.take i ++ u) ++ s.drop i) M') := by
 have hs := h_s.len47
 have hul := h_u.len47
 have hcs := h_s.cap_le
 refine Fc.go [.tmp 6] Tryz.func200 Tryz.ntmps200 rfl (fun w0 => (WC.perm (M' := (Ms_s ++ (Ms_u ++ []))) (by simp) (g9 9 ?_)))
 refine W.ok (XP (i) (s.length) ZL ZM h_s rfl ⟨_, _, rfl, om9⟩ rfl ⟨om9, .inl om9⟩) (g9 16 ?_)
 refine WC.cd (fun h16 p16 => ?_) (fun h16 p16 => ?_)
 ·exact absurd p16 om9
 refine g9 17 ?_
 refine WC.cd (fun h22 p22 => ?_) (fun h22 p22 => ?_)
 ·refine g9 4 ?_
  refine W.giveO h_u (pmA pr9) (fun G1 hG1 hv1 => ?_)
  have q3 := hv1.form
  refine match q3 with | ⟨_, _, e_2⟩ => ?_
  subst e_2
  refine W.app (e := Zp) ZL ZM XN rfl Zbs rfl rfl ((h_s.mono hG1)) (hv1) pr9 (hw) (fun v4 Ms5 ho6 => (g9 5 ?_))
  refine ⟨.inr rfl, [_], ⟨rfl, trivial⟩, Ms5, List.sublist_append_left _ _, ?_⟩
  have h := ho6
  rw [show (s.take i ++ u) ++ s.drop i = s ++ u from by rw [List.take_of_length_le om9, List.drop_eq_nil_of_le om9, List.append_nil]]
  exact h
 refine g9 7 ?_
 refine W.ok (Ok.int (n := ((s.length + u.length : Nat) : Int)) (YY rfl rfl om9) om9) (W.mv ?_)
 have q7 := h_s.capForm
 refine match q7 with | ⟨ac30, hcf30⟩ => ?_
 refine W.ok (Zhc (c := YZ v_s) ZL hcf30) (g9 3 ?_)
 refine WC.cd (fun h31 p31 => ?_) (fun h31 p31 => ?_)
 ·refine g9 4 ?_
  refine W.ok (XP (0) (i) ZL ZM h_s rfl rfl ⟨_, _, rfl, om9⟩ ⟨om9, .inl om9⟩) (g9 2 ?_)
  refine W.ok (Ok.int (n := ((s.length + u.length : Nat) : Int)) (YY rfl rfl om9) om9) (W.mv (W.ok (Ok.int (n := ((s.length + u.length - i : Nat) : Int)) (Zar rfl rfl om9) om9) (W.appZ (e := Zp) (i := i) (c := s.length + u.length - i) ZL ZM XN rfl Zbs Tryz.underlying3 h_s pr9 rfl rfl om9 om9 om9 om9 (by rw [show i + (s.length + u.length - i) = s.length + u.length from by omega]; exact hw) rfl (fun v40 Ms40 hp40 => (g9 7 ?_)))))
  refine W.ok (XF (i) (i + (s.length + u.length - i)) ZL ZM hp40 rfl ⟨_, _, rfl, om9⟩ rfl ⟨om9, by have := OwnP.cap_le hp40; omega⟩) (W.mv (W.copyP (i) (by simp; omega) ZL ZM hp40 pr9 (Src.ofOwn0 h_u (pmA (pmA pr9)) om9) rfl rfl om9 om9 (fun z45 Ms45 hp45 => (g9 3 ?_))))
  refine WC.dw sn9 (d9 [0, 1, 2] ?_)
  refine WD.tk 3 rfl (Ok.int (n := ((i + u.length : Nat) : Int)) (YY rfl rfl om9) om9) (WD.tk 4 rfl (XF (i + u.length) (i + (s.length + u.length - i)) ZL ZM hp45 rfl ⟨_, _, rfl, om9⟩ rfl ⟨om9, by have := OwnP.cap_le hp45; omega⟩) (d9 [5, 6] ?_))
  refine WD.tk 7 rfl (XP (i) (s.length) ZL ZM h_s rfl ⟨_, _, rfl, om9⟩ rfl ⟨om9, .inl om9⟩) (WD.a1 8 rfl (W.copyP (i + u.length) (by simp; omega) ZL ZM hp45 pr9 (Src.ofOwn (lo := i) h_s (pmA pr9) om9 om9) rfl rfl (by simp; omega) om9 (fun z54 Ms54 hp54 => (W.nn (g9 10 ?_)))))
  refine ⟨.inr rfl, [_], ⟨rfl, trivial⟩, Ms54, List.sublist_append_left _ _, ?_⟩
  have h := (hp54.own' (by simp; omega))
  rw [List.append_nil] at h
  exact h
 refine g9 7 ?_
 refine W.ok (Ok.int (n := ((s.length + u.length : Nat) : Int)) (YY rfl rfl om9) om9) (W.ok (XP 0 (s.length + u.length) ZL ZM h_s rfl rfl ⟨_, _, rfl, om9⟩ ⟨om9, .inr om9⟩) ?_)
 have hp60 := OwnP.extend (m := u.length) (OwnR.open h_s om9) om9 hw om9
 refine g9 10 ?_
 refine W.ok (Ok.int (n := ((i + u.length : Nat) : Int)) (YY rfl rfl om9) om9) (W.ok (XF (i + u.length) (s.length + u.length) ZL ZM hp60 rfl ⟨_, _, rfl, om9⟩ rfl ⟨om9, by have := OwnP.cap_le hp60; omega⟩) ?_)
 have hc67 := OwnP.cap_le hp60
 refine W.ok (Zhe (fn := Tryz.f228) (tR := 4) (lo := i + u.length) (hi := s.length + u.length) Tryz.func228 (by kernel_rfl) (by kernel_rfl) (by kernel_rfl) (by kernel_rfl) ZL ZM h_u hp60 ((List.Perm.append_left _ pr9).trans (pmA pr9)) om9 om9 rfl rfl rfl) (g9 5 ?_)
 refine WC.dw sn9 (d9 [0, 1, 2] ?_)
 refine WD.tk 3 rfl (Ok.int (n := ((i + u.length : Nat) : Int)) (YY rfl rfl om9) om9) (WD.tk 4 rfl (XF (i + u.length) (s.length + u.length) ZL ZM hp60 rfl ⟨_, _, rfl, om9⟩ rfl ⟨om9, by have := OwnP.cap_le hp60; omega⟩) (d9 [5, 6] ?_))
 refine WD.tk 7 rfl (XF (i) (s.length + u.length) ZL ZM hp60 rfl ⟨_, _, rfl, om9⟩ rfl ⟨om9, by have := OwnP.cap_le hp60; omega⟩) (WD.a1 8 rfl (W.copyShift (i := i) ZL ZM hp60 pr9 rfl rfl om9 (fun z77 Ms77 hp77 => (W.nn (g9 6 ?_)))))
 refine W.ok (XF (i) (s.length + u.length) ZL ZM hp77 rfl ⟨_, _, rfl, om9⟩ rfl ⟨om9, by have := OwnP.cap_le hp77; omega⟩) (W.mv (W.copyP (i) (by simp; omega) ZL ZM hp77 pr9 (Src.ofOwn0 h_u (pmA pr9) om9) rfl rfl om9 om9 (fun z82 Ms82 hp82 => (g9 10 ?_))))
 refine ⟨.inr rfl, [_], ⟨rfl, trivial⟩, Ms82, List.sublist_append_left _ _, ?_⟩
 exact (hp82.own' om9)

theorem ZsT {G : GH} {v_s : Value} {s : List Pair} {Ms_s : MH} (h_s : OwnR Zp 74 G v_s s Ms_s) (i : Nat) (j : Nat) (hij : i < j ∧ j ≤ s.length) :
    Fc Tryz.prog 201 [v_s, nt9 i, nt9 j] G Ms_s (fun v G' M' => OwnR Zp 74 G' v (s.take i ++ s.drop j) M') := by
 have hs := h_s.len47
 obtain ⟨hij1, hij2⟩ := hij
 refine Fc.go [.tmp 6] Tryz.func201 Tryz.ntmps201 rfl (fun w0 => (WC.perm (M' := (Ms_s ++ [])) (by simp) (g9 12 ?_)))
 have q8 := h_s.capForm
 refine match q8 with | ⟨ac13, hcf13⟩ => ?_
 have hcl13 := h_s.cap_le
 refine W.okx (Zvv i j s.length ZL ZM hcf13 ⟨_, _, rfl, om9⟩ ⟨_, _, rfl, om9⟩ ⟨_, _, rfl, om9⟩ ⟨om9, om9, om9⟩) (fun u13 => (g9 10 ?_))
 refine WC.cd (fun h16 p16 => ?_) (fun h16 p16 => ?_)
 ·exact absurd p16 om9
 refine g9 10 ?_
 refine WC.dw sn9 (d9 [0, 1] ?_)
 refine WD.tk 2 rfl (XP (0) (i) ZL ZM h_s rfl rfl ⟨_, _, rfl, om9⟩ ⟨om9, .inl om9⟩) (d9 [3, 4] ?_)
 refine WD.tk 5 rfl (XP (j) (s.length) ZL ZM h_s rfl ⟨_, _, rfl, om9⟩ rfl ⟨om9, .inl om9⟩) (WD.a1 6 rfl (W.appDel (e := Zp) (i := i) (j := j) ZL ZM XN rfl h_s pr9 rfl rfl om9 om9 om9 (fun v26 Ms26 ho26 hc26 hf26 => (W.nn (d9 [7] ?_)))))
 refine g9 8 ?_
 have hl31 : (s.take i ++ s.drop j).length = i + (s.length - j) := by simp; omega
 refine W.ok (XP (s.take i ++ s.drop j).length s.length ZL ZM ho26 rfl ⟨_, _, rfl, om9⟩ ⟨_, _, rfl, om9⟩ ⟨om9, .inr om9⟩) (W.clearT (e := Zp) (lo := (s.take i ++ s.drop j).length) (hi := s.length) ZL ZM XN rfl rfl ho26 pr9 rfl om9 hc26 hf26 om9 (fun Ms31 ho31 => (g9 9 ?_)))
 refine ⟨.inr rfl, [_], ⟨rfl, trivial⟩, Ms31, List.sublist_append_left _ _, ?_⟩
 exact ho31

theorem ZgH {G : GH} {v_a : Value} {a : List Pair} (h_a : SlR Zp G v_a a) :
    Fc Tryz.prog 146 [v_a] G [] (fun v G' M' => OwnR Zp 74 G' v (a) M') := by
 obtain ⟨sa_a, sc_a, rfl⟩ := h_a.form
 have ha := h_a.bytes
 refine Fc.go [.tmp 2] Tryz.func146 Tryz.ntmps146 rfl (fun w0 => (g9 9 ?_))
 refine W.ok (Za4 ZL rfl rfl) (g9 2 ?_)
 refine WC.cond rfl (fun h4 => ?_) (fun h4 => ?_)
 ·have hn := SlR.isNone h_a h4
  subst hn
  refine g9 8 ?_
  exact OwnR.nil
 refine g9 4 ?_
 refine W.lit0 (e := Zp) ZL ZM XN rfl (fun v1 Ms2 ho3 => (W.mv (W.app (e := Zp) ZL ZM XN rfl Zbs rfl rfl (ho3) (h_a) pr9 (by simpa using ha) (fun v4 Ms5 ho6 => (g9 4 ?_)))))
 refine ⟨.inr rfl, [_], ⟨rfl, trivial⟩, Ms5, List.sublist_append_left _ _, ?_⟩
 have h := ho6
 rw [List.nil_append] at h
 exact h

theorem ZsU {G : GH} {v_l : Value} {l : List Pair} (h_l : SlR Zp G v_l l) (k : Str) (ek : Int) (ev : Str) (hP : PairsR l) (hn : l.length ≤ 1000000) (he : ev.b.size ≤ 1048576) :
    Fc Tryz.prog 167 [v_l, sV k.b, .agg #[iV ek, sV ev.b]] G [] (fun v G' M' => M' = [] ∧ ∃ u0, v = u0 ∧ SlR Zp G' u0 (Y5 l k (⟨ek, ev⟩ : Eff))) := by
 obtain ⟨sa_l, sc_l, rfl⟩ := h_l.form
 have hl := h_l.len47
 have hgv := hP.val k
 have hr := hP.srt
 have hh := hr.has k
 have hfl := Zdi l k
 refine Fc.go [.tmp 6] Tryz.func167 Tryz.ntmps167 rfl (fun w0 => (g9 2 ?_))
 refine W.box (L := [iV _, sV _]) rfl rfl (fun b7 => (g9 7 ?_))
 refine W.qcall (Zlf h_l _ (by assumption)) rfl (g9 18 ?_)
 refine WC.cond rfl (fun h16_1 => ?_) (fun h16_1 => ?_)
 ·have hs1 : (Zi l k).isSome = true := h16_1
  obtain ⟨q1, q2⟩ := odt (hh.symm.trans hs1)
  have hvk := hr.val q1 q2
  refine g9 3 ?_
  refine h_l.a1 (i := ZG l k) (q1) (fun he8 => (W.ok (Yu (i := ZG l k) ZL ZM h_l rfl rfl ⟨om9, q1⟩) (g9 8 ?_)))
  refine W.call (Mp := []) (ZgH h_l) rfl pr9 ?_
  rintro v12 G11 Ms13 hG11 ho14
  refine W.perm (pmC pr9).symm (g9 9 ?_)
  refine W.qcall (Zek ek ev (Zi l k).isSome l[ZG l k].val om9 (by rw [hvk] at hgv; simpa using Nat.le_trans hgv (by decide))) rfl (g9 12 ?_)
  refine W.sp 36 rfl (fun h31_0 => ?_) (fun h31_0 => ?_)
  ·have hap : Eff.apply (⟨ek, ev⟩ : Eff) (Zi l k) = some ((Eff.apply (⟨ek, ev⟩ : Eff) (Yz (Zi l k).isSome l[ZG l k].val)).getD Str.nil) := by
     rw [hs1, hvk] at *; simp only [Yz, if_true] at *; exact Zis h31_0
   refine g9 11 ?_
   refine ho14.a1 (i := ZG l k) (q1) (fun he15 => (W.ok (Yw (i := ZG l k) ZL ZM ho14 rfl rfl ⟨om9, q1⟩) (g9 1 ?_)))
   refine W.storeO (i := ZG l k) (o := 1) (vs := sc9) (a' := ⟨l[ZG l k].key, (((Eff.apply (⟨ek, ev⟩ : Eff) (Yz (Zi l k).isSome l[ZG l k].val))).getD Str.nil)⟩) ty9 rfl rfl rfl rfl rfl (ho14) (pmC pr9) om9 (by decide) (fun cs h => by rw [h]; rfl) (fun Ms18 ho19 => (W.perm (pmC pr9).symm (g9 9 ?_)))
   refine WC.giveO ho19 (pmC pr9) (fun G20 hG20 hv20 => (g9 2 ?_))
   refine ⟨rfl, _, rfl, ?_⟩
   · have h := hv20; rw [Znn hr q1 q2 hap] at h; exact h
  have hap : Eff.apply (⟨ek, ev⟩ : Eff) (Zi l k) = none := by
    rw [hs1, hvk] at *; simp only [Yz, if_true] at *; simpa using h31_0
  refine g9 24 ?_
  refine W.ok (Ok.int (n := ((ZG l k + 1 : Nat) : Int)) (YY rfl rfl om9) om9) (W.call (Mp := Ms13) (ZsT ho14 _ _ (by first | assumption | omega)) rfl (pmC pr9) ?_)
  rintro v22 G21 Ms23 hG21 ho24
  refine W.perm (pmC pr9).symm (g9 10 ?_)
  refine WC.giveO ho24 (pmC pr9) (fun G25 hG25 hv25 => (g9 2 ?_))
  refine ⟨rfl, _, rfl, ?_⟩
  · have h := hv25; rw [Znp hr q1 q2 hap] at h; exact h
 have hn0 : (Zi l k).isSome = false := h16_1
 have hnn : Zi l k = none := by simpa using hn0
 refine g9 5 ?_
 refine W.call (Mp := []) (ZgH h_l) rfl pr9 ?_
 rintro v27 G26 Ms28 hG26 ho29
 refine W.perm (pmC pr9).symm (g9 9 ?_)
 refine W.qcall (Zek ek ev (Zi l k).isSome Str.nil om9 (by show (ByteArray.mk #[]).size ≤ _; decide)) rfl (g9 12 ?_)
 refine W.sp 36 rfl (fun h31_0 => ?_) (fun h31_0 => ?_)
 ·have hap : Eff.apply (⟨ek, ev⟩ : Eff) (Zi l k) = some ((Eff.apply (⟨ek, ev⟩ : Eff) (Yz (Zi l k).isSome Str.nil)).getD Str.nil) := by
    rw [hn0, hnn] at *; simp only [Yz] at *; exact Zis h31_0
  refine g9 19 ?_
  refine W.ok (Ya (L := [sV _, sV _]) ZrM XN rfl rfl rfl) (W.litO (e := Zp) (l := [⟨k, (((Eff.apply (⟨ek, ev⟩ : Eff) (Yz (Zi l k).isSome Str.nil))).getD Str.nil)⟩]) (css := [[sV _, sV _]]) ZL ZM XN rfl rfl rfl rfl rfl rfl ⟨rfl, trivial⟩ (fun v30 Ms31 ho32 => (W.perm (pmC pr9).symm (W.call (Mp := Ms28 ++ Ms31) (ZsS ho29 _ ho32 (by first | assumption | omega) (by first | assumption | omega | simp) (by first | assumption | omega | (simp; omega))) rfl ((List.Perm.of_eq (List.append_assoc _ _ _)).trans ((List.Perm.append_left _ (pmC pr9)).trans (pmC (pmA pr9)))) ?_))))
  rintro v34 G33 Ms35 hG33 ho36
  refine W.perm (pmC pr9).symm (g9 10 ?_)
  refine WC.giveO ho36 (pmC pr9) (fun G37 hG37 hv37 => (g9 2 ?_))
  refine ⟨rfl, _, rfl, ?_⟩
  · have h := hv37; rw [Zno hr hn0 hap] at h; exact h
 have hap : Eff.apply (⟨ek, ev⟩ : Eff) (Zi l k) = none := by
   rw [hn0, hnn] at *; simp only [Yz] at *; simpa using h31_0
 refine g9 29 ?_
 refine WC.giveO ho29 (pmC pr9) (fun G38 hG38 hv38 => (g9 2 ?_))
 refine ⟨rfl, _, rfl, ?_⟩
 · have h := hv38; rw [Znq hr hn0 hap] at h; exact h

end Go.Proofs.YtbbemibbmbmamaaGreat
