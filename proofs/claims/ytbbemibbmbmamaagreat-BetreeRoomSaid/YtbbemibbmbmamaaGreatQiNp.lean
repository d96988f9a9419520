/- The leaves of a sound tree from the left to the right, and a sweep through them. Plain Lean; nothing of the program is named here. No condition. -/
import Derived.Test.YtbbemibbmbmamaaGreatQiU3
set_option linter.unusedVariables false
set_option linter.unusedSimpArgs false
set_option linter.unnecessarySimpa false
set_option maxRecDepth 100000
set_option maxHeartbeats 1600000

namespace Go.Fw
open Go Go.RowKit
variable {c : Cfg} {l : List Nd} {ss : List Seat}
noncomputable def JE (l : List Nd) : Nat → Seat → List Seat
 | 0, x => [x]
 | n + 1, x => (Zk l x).flatMap (JE l n)
theorem Tree.leaves_dfs (t : Tree c l ss) : ∀ (n : Nat) (R T : List Seat), T = R ++ T.flatMap (Zk l) → (∀ x ∈ T, x ∈ ss) → (∀ x ∈ R, x.n.level.toNat = n) → ZC T = R.flatMap (JE l n) := by
 intro n
 induction n with
 | zero =>
  intro R T hT hs hR
  have hRT : ∀ x ∈ R, x ∈ T := fun x hx => by rw [hT]; exact List.mem_append_left _ hx
  have h0 : ∀ x ∈ R, x.n.level = 0 := fun x hx => by have := t.lvl (hs x (hRT x hx)); have := hR x hx; omega
  have hK : R.flatMap (Zk l) = [] := List.flatMap_eq_nil_iff.2 fun x hx => Xz (h0 x hx)
  generalize hS : T.flatMap (Zk l) = S at hT
  have hS2 : S = S.flatMap (Zk l) := by
   conv => lhs; rw [← hS, hT]
   rw [List.flatMap_append, hK, List.nil_append]
  have hST : ∀ x ∈ S, x ∈ T := fun x hx => by rw [hT]; exact List.mem_append_right _ hx
  have hn := Zgf hS2 fun x hx y hy => by have := (t.kid_lvl (hs x (hST x hx)) hy).2; omega
  rw [hT, hn, List.append_nil]
  unfold ZC
  rw [List.filter_eq_self.2 fun x hx => decide_eq_true (h0 x hx)]
  exact (List.flatMap_singleton' R).symm
 | succ n ih =>
  intro R T hT hs hR
  have hRT : ∀ x ∈ R, x ∈ T := fun x hx => by rw [hT]; exact List.mem_append_left _ hx
  generalize hS : T.flatMap (Zk l) = S at hT
  have hS2 : S = R.flatMap (Zk l) ++ S.flatMap (Zk l) := by
   conv => lhs; rw [← hS, hT]
   rw [List.flatMap_append]
  have hST : ∀ x ∈ S, x ∈ T := fun x hx => by rw [hT]; exact List.mem_append_right _ hx
  have h1 := ih (R.flatMap (Zk l)) S hS2 (fun x hx => hs x (hST x hx)) fun y hy => by
   obtain ⟨x, hx, hyx⟩ := List.mem_flatMap.1 hy
   have := (t.kid_lvl (hs x (hRT x hx)) hyx).2
   have := hR x hx
   omega
  have h2 : ZC R = [] := List.filter_eq_nil_iff.2 fun x hx => by have := hR x hx; simp; omega
  rw [hT]
  unfold ZC at *
  rw [List.filter_append, h2, List.nil_append, h1, List.flatMap_assoc]
  rfl
theorem Tree.leaves (t : Tree c l ss) : ZC ss = JE l (Zm l 0).n.level.toNat (Zm l 0) := by
 have := t.leaves_dfs (Zm l 0).n.level.toNat [Zm l 0] ss (by exact t.fix) (fun x hx => hx) (fun x hx => by simp at hx; rw [hx])
 simpa using this
def Bef (a b : Seat) : Prop := ∀ p q, a.s.has p = true → b.s.has q = true → p.lt q = true
theorem Zcv {P : List Str} {p q : Str} (h : p.lt q = false) : Ze P q ≤ Ze P p := by
 unfold Ze
 rw [← List.countP_eq_length_filter, ← List.countP_eq_length_filter]
 refine List.countP_mono_left fun x _ hx => ?_
 simp only [Bool.not_eq_true'] at hx ⊢
 exact Str.le_trans hx h
theorem ZpA {x : Seat} (h : YC x.n.pivots x.n.kids.length = true) : (Xp l x x.n.kids.length).Pairwise Bef := by
 unfold Xp
 rw [List.pairwise_map]
 refine List.Pairwise.imp_of_mem (fun {i j} hi hj hij => ?_) List.pairwise_lt_range
 intro p q hp hq
 rw [Za9 h (List.mem_range.1 hi), Bool.and_eq_true, decide_eq_true_eq] at hp
 rw [Za9 h (List.mem_range.1 hj), Bool.and_eq_true, decide_eq_true_eq] at hq
 cases hl : p.lt q
 ·have := Zcv (P := x.n.pivots) hl; omega
 ·rfl
theorem Tree.dfs (t : Tree c l ss) : ∀ (n : Nat) (x : Seat), x ∈ ss → x.n.level.toNat = n → (∀ y ∈ JE l n x, y ∈ ss ∧ y.n.level = 0 ∧ ∀ k, y.s.has k = true → x.s.has k = true) ∧ (JE l n x).Pairwise Bef := by
 intro n
 induction n with
 | zero =>
  intro x hx hn
  have h0 : x.n.level = 0 := by have := t.lvl hx; omega
  exact ⟨fun y hy => by simp [JE] at hy; subst hy; exact ⟨hx, h0, fun k h => h⟩, by simp [JE]⟩
 | succ n ih =>
  intro x hx hn
  have h0 : ¬ x.n.level = 0 := om9
  obtain ⟨h1, h2, h3, h4⟩ := Z8 (t.kids hx) h0
  have hk : ∀ y ∈ Zk l x, y ∈ ss ∧ y.n.level.toNat = n ∧ ∀ k, y.s.has k = true → x.s.has k = true := fun y hy => by
   have := t.kid_lvl hx hy
   rw [h1] at hy
   obtain ⟨j, hj, rfl⟩ := List.mem_map.1 hy
   exact ⟨this.1, om9, fun k => Zbb k⟩
  refine ⟨fun y hy => ?_, ?_⟩
  ·obtain ⟨z, hz, hyz⟩ := List.mem_flatMap.1 hy
   obtain ⟨a1, a2, a3⟩ := hk z hz
   obtain ⟨b1, b2, b3⟩ := (ih z a1 a2).1 y hyz
   exact ⟨b1, b2, fun k h => a3 k (b3 k h)⟩
  ·show ((Zk l x).flatMap (JE l n)).Pairwise Bef
   rw [List.pairwise_flatMap]
   refine ⟨fun z hz => (ih z (hk z hz).1 (hk z hz).2.1).2, ?_⟩
   rw [h1]
   refine List.Pairwise.imp_of_mem (fun {a b} ha hb hab => ?_) (ZpA h3)
   intro u hu v hv p q hp hq
   rw [← h1] at ha hb
   exact hab p q (((ih a (hk a ha).1 (hk a ha).2.1).1 u hu).2.2 p hp) (((ih b (hk b hb).1 (hk b hb).2.1).1 v hv).2.2 q hq)
theorem Tree.leaves_bef (t : Tree c l ss) : (ZC ss).Pairwise Bef := by rw [t.leaves]; exact (t.dfs _ _ t.root rfl).2
theorem Tree.view_keys (t : Tree c l ss) {x : Seat} (hx : x ∈ ss) {p : Pair} (hp : p ∈ YJ x) : x.s.has p.key = true := by
 rw [t.view hx] at hp; exact (List.mem_filter.1 hp).2
theorem Tree.foldR (t : Tree c l ss) {x : Seat} (hx : x ∈ ss) : PairsR (Zr x.n.rows x.ms) := (t.rows hx).fold fun m hm => YZ ((t.fits x hx).2 m hm)
theorem Tree.srt (t : Tree c l ss) : Srt (Zh l) := by
 rw [JM t.sts]
 unfold Srt
 rw [List.pairwise_flatMap]
 refine ⟨fun x hx => ?_, List.Pairwise.imp_of_mem (fun {a b} ha hb hab => ?_) t.leaves_bef⟩
 ·rw [t.view (List.mem_filter.1 hx).1]; exact (t.foldR (List.mem_filter.1 hx).1).srt.filter _
 ·intro p hp q hq
  exact hab _ _ (t.view_keys (List.mem_filter.1 ha).1 hp) (t.view_keys (List.mem_filter.1 hb).1 hq)
theorem Tree.mapFits (t : Tree c l ss) : PairsR (Zh l) := J4.2 ⟨fun p hp => by
 rw [JM t.sts] at hp
 obtain ⟨x, hx, hp⟩ := List.mem_flatMap.1 hp
 rw [t.view (List.mem_filter.1 hx).1] at hp
 exact (J4.1 (t.foldR (List.mem_filter.1 hx).1)).1 p (List.mem_filter.1 hp).1, t.srt⟩
theorem Tree.map_view (t : Tree c l ss) {z : Seat} (hz : z ∈ ss) (h0 : z.n.level = 0) : (Zh l).filter (fun p => z.s.has p.key) = YJ z := by
 have hm : z ∈ ZC ss := List.mem_filter.2 ⟨hz, decide_eq_true h0⟩
 obtain ⟨A, B, e⟩ := List.append_of_mem hm
 have ho := t.leaves_bef
 have hsub : ∀ x ∈ A ++ z :: B, x ∈ ss := fun x hx => by rw [← e] at hx; exact (List.mem_filter.1 hx).1
 rw [JM t.sts, e]
 rw [e] at ho
 obtain ⟨h1, h2, h3⟩ := List.pairwise_append.1 ho
 have hA : (A.flatMap YJ).filter (fun p => z.s.has p.key) = [] := List.filter_eq_nil_iff.2 fun p hp hh => by
  obtain ⟨x, hx, hp⟩ := List.mem_flatMap.1 hp
  have := h3 x hx z (by simp) p.key p.key (t.view_keys (hsub x (List.mem_append_left _ hx)) hp) hh
  rw [Str.lt_irrefl] at this; cases this
 have hB : (B.flatMap YJ).filter (fun p => z.s.has p.key) = [] := List.filter_eq_nil_iff.2 fun p hp hh => by
  obtain ⟨x, hx, hp⟩ := List.mem_flatMap.1 hp
  have := (List.pairwise_cons.1 h2).1 x hx p.key p.key hh (t.view_keys (hsub x (List.mem_append_right _ (List.mem_cons_of_mem _ hx))) hp)
  rw [Str.lt_irrefl] at this; cases this
 have hV : (YJ z).filter (fun p => z.s.has p.key) = YJ z := List.filter_eq_self.2 fun p hp => t.view_keys hz hp
 rw [List.flatMap_append, List.flatMap_cons, List.filter_append, List.filter_append, hA, hB, hV, List.append_nil, List.nil_append]
def YB (A : List Msg) : Nat := (A.filter fun m => !decide (m.kind = 4)).length
theorem ZpB (A B : List Msg) : YB (A ++ B) = YB A + YB B := by simp [YB]
theorem ZpC (A : List Msg) : YB A ≤ A.length := List.length_filter_le _ _
theorem Zcw (m : Msg) (A : List Msg) : YB (m :: A) = (if m.kind = 4 then 0 else 1) + YB A := by
 unfold YB
 rw [List.filter_cons]
 by_cases h : m.kind = 4
 ·simp [h]
 ·simp [h]; omega
theorem Ziv {m : Msg} {s : Span} (h : (m.clip s).2 = true) : (m.clip s).1.kind = m.kind := by
 rw [(Xh h).2]; split <;> rfl
theorem Ziw (s : Span) : ∀ (A : List Msg), YB (Zc s A) ≤ YB A
 | [] => Nat.le_refl _
 | m :: A => by
  have ih := Ziw s A
  rw [Xi, Zcw]
  split
  ·rename_i h
   rw [Zcw, Ziv h]
   omega
  ·omega
theorem ZpD {ms : List Msg} : ∀ {l : List Pair}, PairsR l → (∀ m ∈ ms, m.fit) → (Zr l ms).length ≤ l.length + YB ms := by
 induction ms with
 | nil => intro l _ _; simp [Zr, YB]
 | cons m ms ih =>
  intro l h hm
  have h1 := ih (l := takeN l m) (h.takeF (hm m (by simp))) fun x hx => hm x (List.mem_cons_of_mem _ hx)
  have h2 : (takeN l m).length ≤ l.length + (if m.kind = 4 then 0 else 1) := by
   by_cases h4 : m.kind = 4
   ·rw [if_pos h4]
    unfold takeN
    rw [if_pos h4]
    exact List.length_filter_le _ _
   ·rw [if_neg h4]; exact h.take_len m
  rw [Zcw]
  show (Zr (takeN l m) ms).length ≤ _
  omega
def Xl (f : Nat → Nat) : Nat → Nat
 | 0 => 0
 | n + 1 => Xl f n + f n
theorem Ze7 {f g : Nat → Nat} : ∀ n, (∀ j, j < n → f j ≤ g j) → Xl f n ≤ Xl g n
 | 0, _ => Nat.le_refl _
 | n + 1, h => by have := Ze7 n fun j hj => h j om9; have := h n om9; unfold Xl; omega
theorem Zdh (f g : Nat → Nat) : ∀ n, Xl (fun j => f j + g j) n = Xl f n + Xl g n
 | 0 => rfl
 | n + 1 => by have := Zdh f g n; simp only [Xl]; omega
theorem Zix {f : Nat → Nat} {r : Nat} : ∀ n, (∀ j, f j ≤ 1) → (∀ j, j ≠ r → f j = 0) → Xl f n ≤ if r < n then 1 else 0
 | 0, _, _ => Nat.zero_le _
 | n + 1, h, h2 => by
  have ih := Zix n h h2
  simp only [Xl]
  by_cases e : n = r
  ·have := h n
   rw [if_neg om9] at ih
   rw [if_pos om9]; omega
  ·have := h2 n e
   by_cases h3 : r < n
   ·rw [if_pos h3] at ih; rw [if_pos om9]; omega
   ·rw [if_neg h3] at ih; omega
theorem Ze8 {f : Nat → Nat} : ∀ n, (∀ j, f j = 0) → Xl f n = 0
 | 0, _ => rfl
 | n + 1, h => by have := Ze8 n h; have := h n; simp only [Xl]; omega
theorem Ze9 {x : Seat} (hr : YC x.n.pivots x.n.kids.length = true) : ∀ (A : List Msg), (∀ m ∈ A, m.R) → Xl (fun j => YB (Zc (Zb l x j).s A)) x.n.kids.length ≤ YB A
 | [], _ => by rw [Ze8]; exact Nat.zero_le _; intro j; rfl
 | m :: A, h => by
  have ih := Ze9 hr A fun y hy => h y (List.mem_cons_of_mem _ hy)
  have hR := h m (by simp)
  have e : ∀ j, YB (Zc (Zb l x j).s (m :: A)) = (if (m.clip (Zb l x j).s).2 = true ∧ ¬ m.kind = 4 then 1 else 0) + YB (Zc (Zb l x j).s A) := fun j => by
   rw [Xi]
   by_cases h1 : (m.clip (Zb l x j).s).2 = true
   ·rw [if_pos h1, Zcw, Ziv h1]
    by_cases h4 : m.kind = 4
    ·rw [if_pos h4, if_neg (fun h => h.2 h4)]
    ·rw [if_neg h4, if_pos ⟨h1, h4⟩]
   ·rw [if_neg h1, if_neg (fun h => h1 h.1)]; omega
  rw [show (fun j => YB (Zc (Zb l x j).s (m :: A))) = fun j => (if (m.clip (Zb l x j).s).2 = true ∧ ¬ m.kind = 4 then 1 else 0) + YB (Zc (Zb l x j).s A) from funext e, Zdh, Zcw]
  by_cases h4 : m.kind = 4
  ·rw [if_pos h4, Ze8 _ fun j => if_neg fun h => h.2 h4]; omega
  ·rw [if_neg h4]
   have hrt := ZcI hr m.key
   have hsp : m.span = ⟨m.key, m.key.next, false⟩ := by unfold Msg.span; rw [if_neg h4]
   have hz : ∀ j, j < x.n.kids.length → j ≠ Ze x.n.pivots m.key → (m.clip (Zb l x j).s).2 = false := fun j hj hne => Jt.2 (YN.2 fun q => by
    rw [ZI, hsp, J3 (by have := hR.1.2.1; omega), Za9 hr hj]
    by_cases e : q = m.key
    ·rw [e, decide_eq_false hne]; simp
    ·simp [e])
   have h1 : Xl (fun j => if (m.clip (Zb l x j).s).2 = true ∧ ¬ m.kind = 4 then 1 else 0) x.n.kids.length ≤ Xl (fun j => if j = Ze x.n.pivots m.key then 1 else 0) x.n.kids.length := Ze7 _ fun j hj => by
    by_cases e : j = Ze x.n.pivots m.key
    ·rw [if_pos e]; split <;> omega
    ·rw [if_neg (fun h => by rw [hz j hj e] at h; exact absurd h.1 (by simp))]; exact Nat.zero_le _
   have h2 := Zix (f := fun j => if j = Ze x.n.pivots m.key then 1 else 0) (r := Ze x.n.pivots m.key) x.n.kids.length (fun j => by split <;> omega) fun j hj => if_neg hj
   rw [if_pos hrt] at h2
   omega
theorem Ziy {f : Seat → Nat} {g : Nat → Seat} (h : Seat → List Seat) : ∀ n, (((List.range n).map g).flatMap h).map f = ((List.range n).map fun j => (h (g j)).map f).flatten
 | n => by rw [List.flatMap_map, List.map_flatMap, List.flatMap_def]
theorem Zfa (f : Nat → List Nat) : ∀ n, (((List.range n).map f).flatten).sum = Xl (fun j => (f j).sum) n
 | 0 => rfl
 | n + 1 => by rw [List.range_succ, List.map_append, List.flatten_append, List.sum_append_nat, Zfa f n]; simp [Xl]
theorem Tree.pts_below (t : Tree c l ss) : ∀ (n : Nat) (x : Seat), x ∈ ss → x.n.level.toNat = n → ((JE l n x).map fun y => YB y.ms).sum ≤ YB x.ms + ((XJ l n x).map fun y => YB y.n.msgs).sum := by
 intro n
 induction n with
 | zero => intro x _ _; simp [JE, XJ]
 | succ n ih =>
  intro x hx hn
  have h0 : ¬ x.n.level = 0 := om9
  obtain ⟨h1, h2, h3, h4⟩ := Z8 (t.kids hx) h0
  rw [JE, XJ, List.map_cons, List.sum_cons, h1]
  unfold Xp
  rw [Ziy, Ziy, Zfa, Zfa]
  have a1 : Xl (fun j => ((JE l n (Zb l x j)).map fun y => YB y.ms).sum) x.n.kids.length ≤ Xl (fun j => (YB (Zc (Zb l x j).s x.n.msgs) + YB (Zc (Zb l x j).s x.ms)) + ((XJ l n (Zb l x j)).map fun y => YB y.n.msgs).sum) x.n.kids.length := Ze7 _ fun j hj => by
   have ha := t.at hx h0 hj
   have := ih (Zb l x j) ha.1 om9
   rw [(t.kid_ms hx (t.rst x hx) j).1, ZpB] at this
   exact this
  rw [Zdh, Zdh] at a1
  have a2 := Ze9 (l := l) h3 x.n.msgs (t.msgs hx).2.1
  have a3 := Ze9 (l := l) h3 x.ms (t.fits x hx).2
  omega
theorem Ziz {f : Seat → List Pair} {g : Seat → Nat} : ∀ (T : List Seat), (∀ x ∈ T, (f x).length ≤ g x) → (T.flatMap f).length ≤ (T.map g).sum
 | [], _ => Nat.le_refl _
 | x :: T, h => by
  have := h x (by simp)
  have := Ziz T fun y hy => h y (List.mem_cons_of_mem _ hy)
  rw [List.flatMap_cons, List.length_append, List.map_cons, List.sum_cons]; omega
theorem ZiA {f : Seat → Nat} {b : Nat} : ∀ (T : List Seat), (T.map fun x => b + f x).sum = T.length * b + (T.map f).sum
 | [] => by simp
 | x :: T => by
  rw [List.map_cons, List.sum_cons, ZiA T, List.map_cons, List.sum_cons, List.length_cons, Nat.succ_mul]; omega
theorem ZiB {f : Seat → Nat} {b : Nat} : ∀ (T : List Seat), (∀ x ∈ T, f x ≤ b) → (T.map f).sum ≤ T.length * b
 | [], _ => by simp
 | x :: T, h => by
  have := h x (by simp)
  have := ZiB T fun y hy => h y (List.mem_cons_of_mem _ hy)
  rw [List.map_cons, List.sum_cons, List.length_cons, Nat.succ_mul]; omega
theorem Tree.map_pts (t : Tree c l ss) : (Zh l).length ≤ l.length * 1088 := by
 have hp := t.pre_perm (Zm l 0).n.level.toNat [Zm l 0] ss (by exact t.fix) (fun x hx => hx) (fun x hx => by simp at hx; rw [hx])
 rw [List.flatMap_cons, List.flatMap_nil, List.append_nil] at hp
 rw [JM t.sts]
 have h1 := Ziz (f := YJ) (g := fun x => 64 + YB x.ms) (ZC ss) fun x hx => by
  have hx := (List.mem_filter.1 hx).1
  have g1 := t.rows hx
  have g2 : (x.n.rows.filter fun p => x.s.has p.key).length ≤ x.n.rows.length := List.length_filter_le _ _
  have g3 := t.rows_len hx
  have g5 := Ziw x.s x.ms
  have g6 := ZpD (l := x.n.rows.filter fun p => x.s.has p.key) (ms := Zc x.s x.ms) (g1.filter _) (Zhw (by have := (t.fits x hx).1.1; omega) fun m hm => YZ ((t.fits x hx).2 m hm))
  unfold YJ
  omega
 rw [ZiA] at h1
 have h2 := t.pts_below _ (Zm l 0) t.root rfl
 rw [← t.leaves] at h2
 have h3 : ((XJ l (Zm l 0).n.level.toNat (Zm l 0)).map fun y => YB y.n.msgs).sum = (ss.map fun y => YB y.n.msgs).sum := ((hp.map _).sum_nat).symm
 have h4 := ZiB (f := fun y => YB y.n.msgs) (b := 1024) ss fun x hx => Nat.le_trans (ZpC _) (t.msgs_len hx)
 have h5 : YB (Zm l 0).ms = 0 := rfl
 have h6 : (ZC ss).length ≤ ss.length := List.length_filter_le _ _
 have h7 := t.len
 have h8 : (ZC ss).length * 64 ≤ ss.length * 64 := Nat.mul_le_mul_right 64 h6
 rw [h7] at h8 h4
 omega
theorem Tree.map_len (t : Tree c l ss) : (Zh l).length ≤ 10246400 := by
 have := t.map_pts
 have := t.sml.1
 omega
theorem ZiC {M : List Pair} (hM : Srt M) (p : Str → Bool) (h : Str) : M.filter (fun a => p a.key) = M.filter (fun a => p a.key && a.key.lt h) ++ M.filter (fun a => p a.key && !a.key.lt h) := by
 induction M with
 | nil => rfl
 | cons a M ih =>
  have hp := List.pairwise_cons.1 hM
  rw [List.filter_cons, List.filter_cons, List.filter_cons, ih hp.2]
  cases hpa : p a.key
  ·simp
  ·cases hl : a.key.lt h
   ·have : M.filter (fun a => p a.key && a.key.lt h) = [] := List.filter_eq_nil_iff.2 fun b hb hh => by
     have hab := hp.1 b hb
     simp only [Bool.and_eq_true] at hh
     have := Str.lt_trans hab hh.2
     rw [hl] at this; cases this
    rw [this]; simp
   ·simp
structure SwOk (l : List Nd) (x : Span) (n : Int) (rest : Span) (out : List Pair) : Prop where
 eq : out ++ (Zh l).filter (fun p => rest.has p.key) = (Zh l).filter (fun p => x.has p.key)
 len : out = [] ∨ (out.length : Int) < n
theorem SwOk.init (l : List Nd) (x : Span) (n : Int) : SwOk l x n x.norm [] := ⟨by
 rw [List.nil_append]; exact List.filter_congr fun p _ => ZaA x p.key, .inl rfl⟩
theorem SwOk.empty {x rest : Span} {n : Int} {out : List Pair} (h : SwOk l x n rest out) (he : rest.empty = true) : out = Ys (Zh l) x n := by
 have h1 := h.eq
 rw [List.filter_eq_nil_iff.2 (fun p _ => by rw [YN.1 he]; simp), List.append_nil] at h1
 unfold Ys
 rw [← h1]
 rcases h.len with h2 | h2
 ·rw [h2]; simp
 ·exact (List.take_of_length_le om9).symm
theorem SwOk.full {x rest : Span} {n : Int} {out : List Pair} (h : SwOk l x n rest out) (hn : n ≤ (out.length : Int)) : out = Ys (Zh l) x n := by
 have h2 : out = [] := h.len.resolve_right om9
 subst h2
 unfold Ys
 rw [show n.toNat = 0 by simp at hn; omega]; rfl
structure Leg (l : List Nd) (z : Seat) (rest s : Span) : Prop where
 se : s = rest.meet z.s
 lo : s.has rest.lo = true
theorem Tree.leg (t : Tree c l ss) {rest : Span} (he : rest.empty = false) : Leg l (Zn l rest.lo) rest (rest.meet (Zn l rest.lo).s) := ⟨rfl, by
 rw [ZI, (t.leafOk rest.lo).has, Bool.and_true]
 have := Span.empty_eq rest
 rw [he] at this; simpa using this⟩
theorem Leg.view (t : Tree c l ss) {z : Seat} (hz : z ∈ ss) (h0 : z.n.level = 0) {rest s : Span} (g : Leg l z rest s) : Zr (z.n.rows.filter fun p => s.has p.key) (Zc s z.ms) = (Zh l).filter (fun p => s.has p.key) := by
 have hsz : ∀ k, s.has k = true → z.s.has k = true := fun k hk => by rw [g.se, ZI, Bool.and_eq_true] at hk; exact hk.2
 have e : (Zh l).filter (fun p => s.has p.key) = ((Zh l).filter (fun p => z.s.has p.key)).filter (fun p => s.has p.key) := by
  rw [List.filter_filter]
  refine List.filter_congr fun p _ => ?_
  cases hs : s.has p.key
  ·rfl
  ·rw [hsz _ hs]; rfl
 rw [e, t.map_view hz h0, t.view hz, List.filter_filter, Za0 (t.rows hz).srt fun m hm => by have := (YZ ((t.fits z hz).2 m hm)).1; omega]
 refine List.filter_congr fun p _ => ?_
 cases hs : s.has p.key
 ·rfl
 ·rw [hsz _ hs]; rfl
theorem Leg.nonempty {z : Seat} {rest s : Span} (g : Leg l z rest s) : s.empty = false := by
 cases h : s.empty
 ·rfl
 ·have := YN.1 h rest.lo; rw [g.lo] at this; cases this
theorem ZpE {s : Span} {a b k : Str} (ha : s.has a = true) (hb : s.has b = true) (h1 : k.lt a = false) (h2 : b.lt k = false) : s.has k = true := by
 unfold Span.has at *
 simp only [Bool.and_eq_true, Bool.not_eq_true', Bool.or_eq_true] at *
 refine ⟨Str.le_trans ha.1 h1, hb.2.imp id fun h => Str.lt_of_le_of_lt h2 h⟩
theorem Leg.fin {z : Seat} {rest s : Span} (g : Leg l z rest s) (ho : s.opn = false) : rest.lo.lt s.hi = true := by
 have h := g.lo
 unfold Span.has at h
 rw [ho] at h
 simp only [Bool.false_or, Bool.and_eq_true] at h
 exact h.2
theorem Leg.split (t : Tree c l ss) {z : Seat} {rest s : Span} (g : Leg l z rest s) (ho : s.opn = false) : (Zh l).filter (fun p => rest.has p.key) = (Zh l).filter (fun p => s.has p.key) ++ (Zh l).filter (fun p => (rest.meet ⟨s.hi, Str.nil, true⟩).has p.key) := by
 rw [ZiC t.srt (fun k => rest.has k) s.hi]
 congr 1
 ·refine List.filter_congr fun p _ => ?_
  have hr : s.has p.key = true → rest.has p.key = true := fun hk => by rw [g.se, ZI, Bool.and_eq_true] at hk; exact hk.1
  have hl := g.lo
  cases hs : s.has p.key
  ·cases hrk : rest.has p.key
   ·rfl
   ·cases hlt : p.key.lt s.hi
    ·rfl
    ·exfalso
     have h3 : s.has p.key = true := by
      unfold Span.has at *
      rw [ho] at *
      simp only [Bool.false_or, Bool.and_eq_true, Bool.not_eq_true', Bool.or_eq_true] at *
      exact ⟨Str.le_trans hl.1 hrk.1, hlt⟩
     rw [hs] at h3; cases h3
  ·rw [hr hs]
   unfold Span.has at hs
   rw [ho] at hs
   simp only [Bool.false_or, Bool.and_eq_true] at hs
   rw [hs.2]; rfl
 ·refine List.filter_congr fun p _ => ?_
  rw [ZI]
  congr 1
  show _ = (!p.key.lt s.hi && (true || _))
  simp
theorem Leg.open (t : Tree c l ss) {z : Seat} {rest s : Span} (g : Leg l z rest s) (ho : s.opn = true) : (Zh l).filter (fun p => rest.has p.key) = (Zh l).filter (fun p => s.has p.key) := by
 refine List.filter_congr fun p _ => ?_
 have hl := g.lo
 cases hs : s.has p.key
 ·cases hrk : rest.has p.key
  ·rfl
  ·exfalso
   have h3 : s.has p.key = true := by
    unfold Span.has at *
    rw [ho] at *
    simp only [Bool.true_or, Bool.and_true, Bool.and_eq_true, Bool.not_eq_true'] at *
    exact Str.le_trans hl hrk.1
   rw [hs] at h3; cases h3
 ·rw [g.se, ZI, Bool.and_eq_true] at hs
  exact hs.1
theorem ZiD {A : List Pair} {n : Int} {k : Nat} (hn : 0 < n) : A.take (Xr A n) = A.take n.toNat := by
 unfold Xr
 by_cases h : (A.length : Int) ≤ n
 ·rw [List.take_of_length_le om9, List.take_of_length_le om9]
 ·congr 1; omega
theorem SwOk.last {x rest : Span} {n : Int} {out V R : List Pair} (h : SwOk l x n rest out) (hn : ¬ n ≤ (out.length : Int)) (hV : (Zh l).filter (fun p => rest.has p.key) = V ++ R) (hl : R = [] ∨ n - (out.length : Int) ≤ (V.length : Int)) :
  out ++ V.take (Xr V (n - (out.length : Int))) = Ys (Zh l) x n := by
 unfold Ys
 rw [← h.eq, hV, ZiD (k := 0) om9, List.take_append, List.take_of_length_le (by omega : out.length ≤ n.toNat), show (n - (out.length : Int)).toNat = n.toNat - out.length by omega]
 congr 1
 rcases hl with rfl | hl
 ·rw [List.append_nil]
 ·rw [List.take_append_of_le_length om9]
theorem SwOk.next {x rest r2 : Span} {n : Int} {out V : List Pair} (h : SwOk l x n rest out) (hn : ¬ n ≤ (out.length : Int)) (hV : (Zh l).filter (fun p => rest.has p.key) = V ++ (Zh l).filter (fun p => r2.has p.key)) (hl : ¬ n - (out.length : Int) ≤ (V.length : Int)) :
  SwOk l x n r2 (out ++ V) ∧ V.take (Xr V (n - (out.length : Int))) = V :=
 ⟨⟨by rw [List.append_assoc, ← hV]; exact h.eq, .inr (by rw [List.length_append]; omega)⟩, by rw [ZiD (k := 0) om9]; exact List.take_of_length_le om9⟩
def Zdi (ss : List Seat) (rest : Span) : Nat := if rest.empty = true then 0 else 1 + ((ZC ss).filter fun y => y.s.opn || rest.lo.lt y.s.hi).length
theorem Leg.ahead {z : Seat} (hz : z ∈ ss) (h0 : z.n.level = 0) {rest s : Span} (he : rest.empty = false) (g : Leg l z rest s) (ho : s.opn = false) : Zdi ss (rest.meet ⟨s.hi, Str.nil, true⟩) < Zdi ss rest := by
 have hfin := g.fin ho
 unfold Zdi
 rw [he, if_neg (by simp : ¬ false = true)]
 split
 ·omega
 ·rename_i hne
  generalize hr : rest.meet ⟨s.hi, Str.nil, true⟩ = r2 at hne ⊢
  have hr2 : r2.has r2.lo = true := by have := Span.empty_eq r2; cases h : r2.empty; rw [h] at this; simpa using this; exact absurd h hne
  have hm : rest.has r2.lo = true ∧ r2.lo.lt s.hi = false := by
   have h1 : (rest.meet ⟨s.hi, Str.nil, true⟩).has r2.lo = true := by rw [hr]; exact hr2
   rw [ZI, Bool.and_eq_true] at h1
   refine ⟨h1.1, ?_⟩
   have h2 := h1.2
   unfold Span.has at h2
   simp only [Bool.and_eq_true, Bool.not_eq_true'] at h2
   exact h2.1
  have hrl : rest.has rest.lo = true := by have := g.lo; rw [g.se, ZI, Bool.and_eq_true] at this; exact this.1
  have hzl : z.s.has rest.lo = true := by have := g.lo; rw [g.se, ZI, Bool.and_eq_true] at this; exact this.2
  have hlt : rest.lo.lt r2.lo = true := Str.lt_of_lt_of_le hfin hm.2
  have hzc : (z.s.opn || rest.lo.lt z.s.hi) = true := by
   unfold Span.has at hzl; rw [Bool.and_eq_true] at hzl; exact hzl.2
  have hzn : (z.s.opn || r2.lo.lt z.s.hi) = false := by
   cases h : (z.s.opn || r2.lo.lt z.s.hi)
   ·rfl
   ·exfalso
    have h1 : rest.has s.hi = true := ZpE hrl hm.1 (Str.lt_asymm hfin) hm.2
    have h2 : z.s.has s.hi = true := by
     have h5 := hzl
     unfold Span.has at h5 ⊢
     simp only [Bool.and_eq_true, Bool.not_eq_true', Bool.or_eq_true] at h5 h ⊢
     exact ⟨Str.le_trans h5.1 (Str.lt_asymm hfin), h.imp id fun h => Str.lt_of_le_of_lt hm.2 h⟩
    have h3 : s.has s.hi = true := by rw [g.se, ZI, ← g.se, h1, h2]; rfl
    unfold Span.has at h3
    rw [ho, Str.lt_irrefl] at h3
    simp at h3
  have hmono : ∀ y : Seat, (y.s.opn || r2.lo.lt y.s.hi) = true → (y.s.opn || rest.lo.lt y.s.hi) = true := fun y h => by
   rw [Bool.or_eq_true] at h ⊢
   exact h.imp id fun h => Str.lt_trans hlt h
  have hzm : z ∈ ZC ss := List.mem_filter.2 ⟨hz, decide_eq_true h0⟩
  have key : ∀ T : List Seat, z ∈ T → (T.filter fun y => y.s.opn || r2.lo.lt y.s.hi).length < (T.filter fun y => y.s.opn || rest.lo.lt y.s.hi).length := by
   intro T
   induction T with
   | nil => intro h; cases h
   | cons y T ih =>
    intro h
    have hle : (T.filter fun y => y.s.opn || r2.lo.lt y.s.hi).length ≤ (T.filter fun y => y.s.opn || rest.lo.lt y.s.hi).length := by
     rw [← List.countP_eq_length_filter, ← List.countP_eq_length_filter]
     exact List.countP_mono_left fun y _ h => hmono y h
    rw [List.filter_cons, List.filter_cons]
    rcases List.mem_cons.1 h with rfl | h
    ·rw [hzn, hzc]; simp; omega
    ·have ih := ih h
     cases ha : (y.s.opn || r2.lo.lt y.s.hi)
     ·simp only [Bool.false_eq_true, if_false]
      split
      ·simp; omega
      ·exact ih
     ·rw [hmono y ha]; simp; omega
  have := key _ hzm
  omega
theorem SwOk.olen (t : Tree c l ss) {x rest : Span} {n : Int} {out : List Pair} (h : SwOk l x n rest out) : out.length ≤ 10246400 := by
 have h1 := congrArg List.length h.eq
 have h2 := List.length_filter_le (fun p : Pair => x.has p.key) (Zh l)
 have h3 := t.map_len
 rw [List.length_append] at h1
 omega
theorem Leg.part (t : Tree c l ss) {z : Seat} (hz : z ∈ ss) (h0 : z.n.level = 0) {rest s : Span} (g : Leg l z rest s) (b : Str) (n : Int) :
  Zbc z.n.rows s z.ms b n = (((Zh l).filter (fun p => s.has p.key)).take (Xr ((Zh l).filter (fun p => s.has p.key)) n), (if s.opn = true then Str.nil else s.hi), s.opn || decide (n ≤ (((Zh l).filter (fun p => s.has p.key)).length : Int))) := by
 rw [Zgh g.nonempty rfl rfl, g.view t hz h0]
theorem SwOk.over (t : Tree c l ss) {x rest s : Span} {z : Seat} {n : Int} {out : List Pair} (h : SwOk l x n rest out) (hn : ¬ n ≤ (out.length : Int)) (g : Leg l z rest s) (ho : (s.opn || decide (n - (out.length : Int) ≤ (((Zh l).filter (fun p => s.has p.key)).length : Int))) = true) :
  out ++ ((Zh l).filter (fun p => s.has p.key)).take (Xr ((Zh l).filter (fun p => s.has p.key)) (n - (out.length : Int))) = Ys (Zh l) x n := by
 cases hs : s.opn
 ·rw [hs, Bool.false_or, decide_eq_true_eq] at ho
  exact h.last hn (g.split t hs) (.inr ho)
 ·exact h.last hn (R := []) (by rw [List.append_nil]; exact g.open t hs) (.inl rfl)
theorem SwOk.go (t : Tree c l ss) {x rest s : Span} {z : Seat} {n : Int} {out : List Pair} (h : SwOk l x n rest out) (hn : ¬ n ≤ (out.length : Int)) (g : Leg l z rest s) (ho : (s.opn || decide (n - (out.length : Int) ≤ (((Zh l).filter (fun p => s.has p.key)).length : Int))) = false) :
  s.opn = false ∧ SwOk l x n (rest.meet ⟨s.hi, Str.nil, true⟩) (out ++ (Zh l).filter (fun p => s.has p.key)) ∧ ((Zh l).filter (fun p => s.has p.key)).take (Xr ((Zh l).filter (fun p => s.has p.key)) (n - (out.length : Int))) = (Zh l).filter (fun p => s.has p.key) := by
 rw [Bool.or_eq_false_iff, decide_eq_false_iff_not] at ho
 exact ⟨ho.1, h.next hn (g.split t ho.1) ho.2⟩
theorem ZpF (t : Tree c l ss) (k : Str) : Zn l k ∈ ss ∧ (Zn l k).n.level = 0 := ⟨(t.leafOk k).mem, (t.leafOk k).lvl⟩
theorem ZpG {M : List Pair} {n : Int} (h : (M.length : Int) ≤ n) : Ys M Span.all n = M := by
 unfold Ys
 rw [List.filter_eq_self.2 fun p _ => Zav p.key, List.take_of_length_le om9]
def JT (n : Nd) : Seat := ⟨n, Span.all, []⟩
theorem ZiE {n : Nd} (hs : n.slot = 0) (hseen : n.seen ≤ 1099511627776) : SlotsP [n] := fun i h => by
 have : i = 0 := by simp at h; omega
 subst this
 exact ⟨by simpa using hs, hseen⟩
theorem ZiF {n : Nd} (h0 : n.level = 0) (hs : n.slot = 0) (hseen : n.seen ≤ 1099511627776) : JJ [n] 0 = some [JT n] := by
 have hf : Zw [n] 0 = (n, true) := Zgc (ZiE hs hseen) (i := 0) (by simp)
 unfold JJ
 rw [if_pos (by rw [hf])]
 have hr : Zm [n] 0 = JT n := by unfold Zm JT; rw [hf]
 rw [hr]
 show X3 [n] (2 + 1) 0 [JT n] = _
 rw [Zf9 (l := [n]) (f := 2) (i := 0) (out := [JT n]) (ks := []) (by simp) (by simp) (ZaM h0)]
 exact Zf8 (l := [n]) (f := 1) (i := 1) (out := [JT n]) (by simp)
theorem ZiG {c : Cfg} {n : Nd} (hc : CfgR c) (h0 : n.level = 0) (hs : n.slot = 0) (hseen : n.seen ≤ 1099511627776) (hR : n.R c.fan c.leaf c.bud) (ht : n.top = true) (hS : NdS n) : Tree c [n] [JT n] := by
 have hl := hR.2.2.2
 rw [if_pos h0] at hl
 have ht2 := hR.2.1 ht
 have hz := hl.1
 have hk := hc.2.2.2.1
 refine ⟨hc, by simp, ⟨by simp, fun m hm => by simp at hm; subst hm; exact hS⟩, ZiE hs hseen, ZiF h0 hs hseen, ⟨⟨rfl, fun i h => ?_⟩, fun i h => ?_, by simp; omega⟩, fun i h => ?_⟩
 ·have : i = 0 := by simp at h; omega
  subst this
  simp [ZcH, JT]
 ·have : i = 0 := by simp at h; omega
  subst this
  rw [Zga (by simp)]
  exact ht2.2
 ·have : i = 0 := by simp at h; omega
  subst this
  refine ⟨hR, ⟨⟨ht, ht2.1⟩, fun i h => Zav _, fun i h => ?_, fun i h => ?_⟩, by show n.slot < c.slots; omega, fun j h => ?_⟩
  ·have h : i < n.pivots.length := h
   omega
  ·have h : i < n.msgs.length := h
   omega
  ·have h : j < ([] : List Msg).length := h
   simp at h
theorem Zfb {n : Nd} (h0 : n.level = 0) (hs : n.slot = 0) (hseen : n.seen ≤ 1099511627776) : Zh [n] = n.rows := by
 rw [JM (ZiF h0 hs hseen)]
 have e : ZC [JT n] = [JT n] := List.filter_eq_self.2 fun x hx => by simp at hx; subst hx; exact decide_eq_true h0
 rw [e, List.flatMap_cons, List.flatMap_nil, List.append_nil]
 show Zr (n.rows.filter fun p => Span.all.has p.key) (Zc Span.all []) = n.rows
 rw [List.filter_eq_self.2 fun p _ => Zav p.key]; rfl
section
variable {c : Cfg} {l : List Nd} {ss : List Seat}
structure Free (l : List Nd) (n : Nat) (x : Seat) (mt : List (Int × Bool)) : Prop where
 none : ∀ y ∈ XJ l n x, Xy mt y.n.slot = none
 nd : ((XJ l n x).map fun y : Seat => y.n.slot).Nodup
structure FreeK (l : List Nd) (n : Nat) (x : Seat) (j : Nat) (mt : List (Int × Bool)) : Prop where
 none : ∀ y ∈ ((Zk l x).drop j).flatMap (XJ l n), Xy mt y.n.slot = none
 nd : ((((Zk l x).drop j).flatMap (XJ l n)).map fun y : Seat => y.n.slot).Nodup
theorem Tree.kidsD_at (t : Tree c l ss) {x : Seat} (hx : x ∈ ss) (h0 : ¬ x.n.level = 0) : (Zk l x).length = x.n.kids.length ∧ ∀ j (h : j < (Zk l x).length), (Zk l x)[j] = Zb l x j := by
 have h1 := (Z8 (t.kids hx) h0).1
 refine ⟨by rw [h1, Zac], fun j h => ?_⟩
 simp only [h1, Xp, List.getElem_map, List.getElem_range]
end
section
variable {α : Type} {E : Env} {f : Fr} {G : GH} {M Mk Ms Mr : MH} {ops rest : List Oper} {q : Bool} {K : Kt} {d : Nat} {ty : TypeId} {pos : String} {aft : Array Edge} {t et : TypeId} {x y kk : Operand} {b : Nat} {k : Int} {m : List (Int × α)} {V : VEnc α}
theorem W.lookO {z0 : Value} {z : α} (ht : Za8 E.P t = some et) (hz : zvK E.P et = some z0) (hzz : V.R G z0 z) (hx : ev f x = .map (some b)) (hk : ev f kk = .int .i64 k) (hm : MpR V b G m Ms) (hp : (Ms ++ Mr).Perm M)
  (h : ∀ v, V.R G v ((Xy m k).getD z) → W E ops.toArray q rest (upd f d v) G M K) (hd : Nat.blt d E.n = true := by rfl) :
  W E ops.toArray q (⟨some d, .lookup t x kk false, ty, pos, aft, none⟩ :: rest) f G M K := by
 obtain ⟨v, h1, h2⟩ := Zr2 (E := E) (f := f) (M := M) (d := d) (ty := ty) (pos := pos) (aft := aft) (ok := false) ht hz hzz hx hk hm hp
 exact W.ok h2 (h v h1) hd
end
theorem ZpH {l : List Nd} {x : Seat} (h : (Z7 l x).isSome = true) : Z7 l x = some (Zk l x) := by
 unfold Zk
 cases e : Z7 l x with
 | none => rw [e] at h; cases h
 | some y => rfl
theorem ZpI {l : List Nd} {x y : Seat} (h : (Z7 l x).isSome = true) (hy : y ∈ Zk l x) : y.n.level < x.n.level := by
 by_cases h0 : x.n.level = 0
 ·rw [Xz h0] at hy; cases hy
 ·obtain ⟨h1, h2, h3, h4⟩ := Z8 h h0
  rw [h1] at hy
  obtain ⟨j, hj, rfl⟩ := List.mem_map.1 hy
  have := h4 j (List.mem_range.1 hj)
  unfold XQ at this
  rw [Bool.and_eq_true, decide_eq_true_eq] at this
  have e : (Zb l x j).n.level = x.n.level - 1 := this.2
  omega
theorem ZpJ {l : List Nd} {root : Int} {T : List Seat} (h1 : (Zw l root).2 = true) (h2 : T = Zm l root :: T.flatMap (Zk l)) (h3 : ∀ x ∈ T, (Z7 l x).isSome = true) (h4 : T.length ≤ l.length) : JJ l root = some T := by
 have key : ∀ (d i f : Nat), i + d = T.length → d < f → i ≤ (Zm l root :: (T.take i).flatMap (Zk l)).length → X3 l f i (Zm l root :: (T.take i).flatMap (Zk l)) = some T := by
  intro d
  induction d with
  | zero =>
   intro i f hi hf hl
   rw [List.take_of_length_le om9, ← h2]
   obtain ⟨f, rfl⟩ : ∃ q, f = q + 1 := ⟨f - 1, om9⟩
   exact Zf8 om9
  | succ d ih =>
   intro i f hi hf hl
   obtain ⟨f, rfl⟩ : ∃ q, f = q + 1 := ⟨f - 1, om9⟩
   have hT : T = (Zm l root :: (T.take i).flatMap (Zk l)) ++ (T.drop i).flatMap (Zk l) := by
    rw [List.cons_append, ← List.flatMap_append, List.take_append_drop]; exact h2
   obtain ⟨O, hO⟩ : ∃ O, O = Zm l root :: (T.take i).flatMap (Zk l) := ⟨_, rfl⟩
   rw [← hO] at hl hT ⊢
   have hTl := congrArg List.length hT
   rw [List.length_append] at hTl
   by_cases hlt : i < O.length
   ·have e : O[i] = T[i]'om9 := by
     have h5 := List.getElem_of_eq hT (show i < T.length by omega)
     rw [h5, List.getElem_append_left hlt]
    have hk : Z7 l O[i] = some (Zk l (T[i]'om9)) := by rw [e]; exact ZpH (h3 _ (List.getElem_mem _))
    rw [Zf9 hlt om9 hk]
    have e2 : O ++ Zk l (T[i]'om9) = Zm l root :: (T.take (i + 1)).flatMap (Zk l) := by
     rw [hO, List.take_succ_eq_append_getElem om9, List.flatMap_append]; simp
    rw [e2]
    exact ih (i + 1) f om9 om9 (by rw [← e2, List.length_append]; omega)
   ·exfalso
    have hd : T.drop i = (T.drop i).flatMap (Zk l) := by
     have h5 := congrArg (List.drop i) hT
     rw [List.drop_append, List.drop_of_length_le (l := O) om9, List.nil_append, show i - O.length = 0 by omega, List.drop_zero] at h5
     exact h5
    have h6 := Zgf hd fun x hx y hy => ZpI (h3 x (List.mem_of_mem_drop hx)) hy
    have h7 := congrArg List.length h6
    rw [List.length_drop] at h7
    simp at h7
    omega
 unfold JJ
 rw [if_pos h1]
 have := key T.length 0 (l.length + 2) om9 om9 (Nat.zero_le _)
 simpa using this
abbrev Key9 := Int × Int × Int
def Seat.key (x : Seat) : Key9 := (x.n.slot, x.n.level, x.n.right)
def LkK : List Key9 → Prop
 | [] => True
 | [x] => x.2.2 = -1
 | x :: y :: T => x.2.2 = (if y.2.1 = x.2.1 then y.1 else -1) ∧ LkK (y :: T)
theorem ZiH (x : Seat) (L : List Seat) (i : Nat) : ZaN (x :: L) (i + 1) = ZaN L i := by
 unfold ZaN
 simp
theorem ZbE : ∀ ss, LinkedP ss ↔ LkK (ss.map Seat.key)
 | [] => ⟨fun _ => trivial, fun _ i h => absurd h (Nat.not_lt_zero _)⟩
 | [x] => by
  constructor
  ·intro h
   have := h 0 (by simp)
   rw [Zga (by simp)] at this
   exact this
  ·intro h i hi
   have : i = 0 := by simp at hi; exact hi
   subst this
   rw [Zga (by simp)]
   exact h
 | x :: y :: T => by
  have ih := ZbE (y :: T)
  have e : ZaN (x :: y :: T) 0 = if y.n.level = x.n.level then y.n.slot else -1 := by
   unfold ZaN
   simp
  constructor
  ·intro h
   refine ⟨?_, ih.1 fun i hi => ?_⟩
   ·have := h 0 (by simp)
    rw [e] at this
    exact this
   ·have := h (i + 1) (by simpa using hi)
    rw [ZiH] at this
    exact this
  ·intro h i hi
   cases i with
   | zero => rw [e]; exact h.1
   | succ i => rw [ZiH]; exact ih.2 h.2 i (by simpa using hi)
theorem Zfc {s v r y : Int} : ∀ (P S : List Key9), LkK (P ++ (s, v, r) :: S) → LkK (P ++ (s, v, y) :: (y, v, r) :: S)
 | [], [], h => ⟨(if_pos rfl).symm, h⟩
 | [], q :: S, h => ⟨(if_pos rfl).symm, h.1, h.2⟩
 | [p], S, h => by
  have h : p.2.2 = (if v = p.2.1 then s else -1) ∧ LkK ([] ++ (s, v, r) :: S) := h
  exact ⟨h.1, Zfc [] S h.2⟩
 | p :: q :: P, S, h => by
  have h : p.2.2 = (if q.2.1 = p.2.1 then q.1 else -1) ∧ LkK ((q :: P) ++ (s, v, r) :: S) := h
  exact ⟨h.1, Zfc (q :: P) S h.2⟩
theorem ZpK {s s' v r : Int} : ∀ (S : List Key9), LkK ((s, v, r) :: S) → LkK ((s', v, r) :: S)
 | [], h => h
 | q :: S, h => ⟨h.1, h.2⟩
theorem ZpL {s v x y : Int} {S : List Key9} (h : LkK ((s, v, -1) :: S)) : LkK ((s, v + 1, -1) :: (x, v, y) :: (y, v, -1) :: S) :=
 ⟨(if_neg (by show ¬ v = v + 1; omega)).symm, (if_pos rfl).symm, ZpK S h⟩
theorem ZpM {l : List Nd} {T : List Seat} (hs : SlotsP l) (hp : (T.map fun x : Seat => x.n.slot).Perm (l.map fun n : Nd => n.slot)) : OnceP l T := by
 refine ⟨by simpa using hp.length_eq.symm, fun i h => ?_⟩
 have h1 := (List.Perm.filter (fun q : Int => decide (q = l[i].slot)) hp).length_eq
 rw [ZdP, ZdP, List.length_map, List.length_map] at h1
 have h2 : (l.filter fun n => decide (n.slot = l[i].slot)).length = 1 := by
  have := Zgb hs l[i].slot
  unfold atS at this
  rw [this, (hs i h).1, dif_pos ⟨om9, om9, om9⟩]
  rfl
 rw [← h2, ← h1]; rfl
theorem ZpN {l : List Nd} (hs : SlotsP l) : (l.map fun n : Nd => n.slot).Nodup := by
 refine List.pairwise_iff_getElem.2 fun i j hi hj hij he => ?_
 rw [List.getElem_map, List.getElem_map] at he
 have h3 := (hs i (by simpa using hi)).1
 have h4 := (hs j (by simpa using hj)).1
 omega
variable {c : Cfg} {l : List Nd} {ss : List Seat}
theorem Tree.perm_s (t : Tree c l ss) : (ss.map fun x : Seat => x.n.slot).Perm (l.map fun n : Nd => n.slot) := by
 have := t.perm.map fun n : Nd => n.slot
 rwa [List.map_map] at this
theorem Tree.nodup_s (t : Tree c l ss) : (ss.map fun x : Seat => x.n.slot).Nodup := (t.perm_s.nodup_iff).2 (ZpN t.slot)
theorem ZiI : ∀ {L : List Seat}, (L.map fun x : Seat => x.n.slot).Nodup → ∀ {x y : Seat}, x ∈ L → y ∈ L → x.n.slot = y.n.slot → x = y
 | [], _, _, _, hx, _, _ => by cases hx
 | a :: L, h, x, y, hx, hy, e => by
  rw [List.map_cons, List.nodup_cons] at h
  rcases List.mem_cons.1 hx with e1 | h1
  ·rcases List.mem_cons.1 hy with e2 | h2
   ·rw [e1, e2]
   ·exact absurd (List.mem_map.2 ⟨y, h2, by rw [← e1]; exact e.symm⟩) h.1
  ·rcases List.mem_cons.1 hy with e2 | h2
   ·exact absurd (List.mem_map.2 ⟨x, h1, by rw [← e2]; exact e⟩) h.1
   ·exact ZiI h.2 h1 h2 e
theorem Tree.uniq (t : Tree c l ss) {x y : Seat} (hx : x ∈ ss) (hy : y ∈ ss) (e : x.n.slot = y.n.slot) : x = y := ZiI t.nodup_s hx hy e
theorem ZiJ {f : Seat → List Seat} : ∀ {L : List Seat}, ((L.flatMap f).map fun x : Seat => x.n.slot).Nodup → ∀ {x z y y' : Seat}, x ∈ L → z ∈ L → y ∈ f x → y' ∈ f z → y.n.slot = y'.n.slot → x = z
 | [], _, _, _, _, _, hx, _, _, _, _ => by cases hx
 | a :: L, h, x, z, y, y', hx, hz, hy, hy', e => by
  rw [List.flatMap_cons, List.map_append, List.nodup_append] at h
  obtain ⟨h1, h2, h3⟩ := h
  rcases List.mem_cons.1 hx with e1 | g1
  ·rcases List.mem_cons.1 hz with e2 | g2
   ·rw [e1, e2]
   ·exact absurd e (h3 _ (List.mem_map.2 ⟨y, by rw [← e1]; exact hy, rfl⟩) _ (List.mem_map.2 ⟨y', List.mem_flatMap.2 ⟨z, g2, hy'⟩, rfl⟩))
  ·rcases List.mem_cons.1 hz with e2 | g2
   ·exact absurd e.symm (h3 _ (List.mem_map.2 ⟨y', by rw [← e2]; exact hy', rfl⟩) _ (List.mem_map.2 ⟨y, List.mem_flatMap.2 ⟨x, g1, hy⟩, rfl⟩))
   ·exact ZiJ h2 g1 g2 hy hy' e
theorem ZiK {f : Seat → List Seat} : ∀ {L : List Seat}, ((L.flatMap f).map fun x : Seat => x.n.slot).Nodup → ∀ {x : Seat}, x ∈ L → ((f x).map fun x : Seat => x.n.slot).Nodup
 | [], _, _, hx => by cases hx
 | a :: L, h, x, hx => by
  rw [List.flatMap_cons, List.map_append, List.nodup_append] at h
  rcases List.mem_cons.1 hx with rfl | hx
  ·exact h.1
  ·exact ZiK h.2.1 hx
theorem Tree.tail_nd (t : Tree c l ss) : ((ss.flatMap (Zk l)).map fun x : Seat => x.n.slot).Nodup := by
 have h := t.nodup_s
 rw [t.fix, List.map_cons, List.nodup_cons] at h
 exact h.2
theorem Tree.root_kid (t : Tree c l ss) {x y : Seat} (hx : x ∈ ss) (hy : y ∈ Zk l x) : y.n.slot ≠ (Zm l 0).n.slot := fun e => by
 have h := t.nodup_s
 rw [t.fix, List.map_cons, List.nodup_cons] at h
 exact h.1 (List.mem_map.2 ⟨y, List.mem_flatMap.2 ⟨x, hx, hy⟩, e⟩)
theorem Tree.parent (t : Tree c l ss) {x z y y' : Seat} (hx : x ∈ ss) (hz : z ∈ ss) (hy : y ∈ Zk l x) (hy' : y' ∈ Zk l z) (e : y.n.slot = y'.n.slot) : x = z := ZiJ t.tail_nd hx hz hy hy' e
theorem Tree.kid_nd (t : Tree c l ss) {x : Seat} (hx : x ∈ ss) {i j : Nat} (hi : i < (Zk l x).length) (hj : j < (Zk l x).length) (e : (Zk l x)[i].n.slot = (Zk l x)[j].n.slot) : i = j := by
 have h := ZiK t.tail_nd hx
 have h2 := List.pairwise_iff_getElem.1 h
 simp only [List.length_map, List.getElem_map] at h2
 rcases Nat.lt_trichotomy i j with h3 | h3 | h3
 ·exact absurd e (h2 i j hi hj h3)
 ·exact h3
 ·exact absurd e.symm (h2 j i hj hi h3)
theorem Zdj (hc : CfgR c) (hpos : 0 < l.length) (hsml : Sml l) (hs : SlotsP l) (hfix : ss = Zm l 0 :: ss.flatMap (Zk l)) (hk : ∀ x ∈ ss, (Z7 l x).isSome = true)
  (hp : (ss.map fun x : Seat => x.n.slot).Perm (l.map fun n : Nd => n.slot)) (hlk : LkK (ss.map Seat.key)) (hlen : (l.length : Int) ≤ c.slots) (hseat : ∀ x ∈ ss, SeatP c x) : Tree c l ss :=
 ⟨hc, hpos, hsml, hs, ZpJ (by have := Zgc hs hpos; rw [show ((0 : Nat) : Int) = 0 from rfl] at this; rw [this]) hfix hk (by have := hp.length_eq; simp at this; omega),
  ⟨⟨ZpM hs hp, (ZbE ss).2 hlk, hlen⟩, fun i h => hseat _ (List.getElem_mem h)⟩⟩
theorem Tree.two (t : Tree c l ss) {x : Seat} (hx : x ∈ ss) (s : Span) : ZQ [Zc s x.n.msgs, Zc s x.ms] = Zc s x.n.msgs ++ Zc s x.ms ∧ Rst (Zc s x.n.msgs ++ Zc s x.ms) := by
 obtain ⟨h1, _, h3⟩ := t.msgs hx
 have hs := (t.seat hx).2.2.2
 refine ZaO (Ju h1) (Ju (t.rst x hx)) fun a ha b hb => ?_
 obtain ⟨a', ha', e1⟩ := JL ha
 obtain ⟨b', hb', e2⟩ := JL hb
 have := h3 a' ha'
 obtain ⟨i, hi, rfl⟩ := List.getElem_of_mem hb'
 have := hs i hi
 omega
theorem ZbF {l l' : List Nd} {x y : Seat} {i j : Nat} (hn : (Zw l (x.n.kids.getD i 0)).1 = (Zw l' (y.n.kids.getD j 0)).1)
  (hs : ∀ q, (x.s.meet (Zf x.n.pivots (i : Int))).has q = (y.s.meet (Zf y.n.pivots (j : Int))).has q)
  (hm : ∀ s : Span, s = x.s.meet (Zf x.n.pivots (i : Int)) → ZQ [Zc s x.n.msgs, Zc s x.ms] = ZQ [Zc s y.n.msgs, Zc s y.ms]) : Zb l x i = Zb l' y j := by
 have e : x.s.meet (Zf x.n.pivots (i : Int)) = y.s.meet (Zf y.n.pivots (j : Int)) := by
  rw [← XR x.s, ← XR y.s]
  exact Zba hs
 have h := hm _ rfl
 show (⟨_, _, _⟩ : Seat) = ⟨_, _, _⟩
 rw [hn, h, e]
theorem Zfd (A B : List Str) (q : Str) : Ze (A ++ B) q = Ze A q + Ze B q := by
 unfold Ze
 rw [List.filter_append, List.length_append]
theorem Zfe (P : List Str) (h : Nat) (q : Str) : Ze P q = Ze (P.take h) q + Ze (P.drop h) q := by
 rw [← Zfd, List.take_append_drop]
theorem ZiL (P : List Str) (i : Nat) (k q : Str) : Ze ((P.take i ++ [k]) ++ P.drop i) q = Ze P q + if q.lt k = true then 0 else 1 := by
 have e : Ze [k] q = if q.lt k = true then 0 else 1 := by
  unfold Ze
  cases h : q.lt k <;> simp [List.filter_cons, h]
 rw [Zfd, Zfd, e, Zfe P i]
 omega
theorem ZiM {P : List Str} (hr : ZX P = true) {h : Nat} (hh : h < P.length) {q : Str} (hq : q.lt P[h] = true) : Ze (P.take h) q = Ze P q := by
 have e : Ze (P.drop h) q = 0 := by
  unfold Ze
  rw [List.length_eq_zero_iff, List.filter_eq_nil_iff]
  intro x hx
  obtain ⟨j, hj, rfl⟩ := List.getElem_of_mem hx
  rw [List.getElem_drop]
  rw [List.length_drop] at hj
  by_cases h0 : j = 0
  ·subst h0; simp [hq]
  ·simp [Str.lt_trans hq (J0 hr (h + j) h om9 om9)]
 rw [Zfe P h, e]; omega
theorem ZiN {P : List Str} (hr : ZX P = true) {h : Nat} (hh : h < P.length) {q : Str} (hq : q.lt P[h] = false) : Ze P q = (h + 1) + Ze (P.drop (h + 1)) q := by
 have e : Ze (P.take (h + 1)) q = h + 1 := by
  unfold Ze
  rw [List.filter_eq_self.2]
  ·rw [List.length_take]; omega
  ·intro x hx
   obtain ⟨j, hj, rfl⟩ := List.getElem_of_mem hx
   rw [List.getElem_take]
   rw [List.length_take] at hj
   cases h2 : q.lt P[j]
   ·rfl
   ·exfalso
    by_cases h0 : j = h
    ·subst h0; rw [hq] at h2; cases h2
    ·have := Str.lt_trans h2 (J0 hr h j om9 om9); rw [hq] at this; cases this
 rw [Zfe P (h + 1), e]
theorem ZpO {K : List Int} {h j : Nat} (hj : j < h) : (K.take h).getD j 0 = K.getD j 0 := by
 rw [List.getD_eq_getElem?_getD, List.getD_eq_getElem?_getD, List.getElem?_take, if_pos hj]
theorem ZpP {K : List Int} {h j : Nat} : (K.drop h).getD j 0 = K.getD (h + j) 0 := by
 rw [List.getD_eq_getElem?_getD, List.getD_eq_getElem?_getD, List.getElem?_drop]
theorem ZaG {l : List Nd} {x : Seat} (h0 : 0 < x.n.level) (h2 : YC x.n.pivots x.n.kids.length = true) (h : ∀ j, j < x.n.kids.length → XQ l x j = true) : (Z7 l x).isSome = true ∧ Zk l x = Xp l x x.n.kids.length := by
 have e := Zsh om9 om9 h2 h
 unfold Zk
 rw [e]; exact ⟨rfl, rfl⟩
theorem ZbG {l l' : List Nd} {x y : Seat} {i j : Nat} (hn : Zw l (x.n.kids.getD i 0) = Zw l' (y.n.kids.getD j 0)) (hl : x.n.level = y.n.level) : XQ l x i = XQ l' y j := by
 unfold XQ; rw [hn, hl]
variable {l l' : List Nd} {K A : Seat}
theorem ZpQ (hK : (Z7 l K).isSome = true) (h0 : ¬ K.n.level = 0) {h : Nat} (hh : h < K.n.pivots.length)
  (ep : A.n.pivots = K.n.pivots.take h) (ek : A.n.kids = K.n.kids.take (h + 1)) (el : A.n.level = K.n.level) (hs : ∀ q, A.s.has q = (K.s.has q && q.lt K.n.pivots[h]))
  (hm : ∀ s : Span, (∀ q, s.has q = true → A.s.has q = true) → ZQ [Zc s A.n.msgs, Zc s A.ms] = ZQ [Zc s K.n.msgs, Zc s K.ms])
  (hf : ∀ j, j < K.n.kids.length → Zw l' (K.n.kids.getD j 0) = Zw l (K.n.kids.getD j 0)) :
  (Z7 l' A).isSome = true ∧ Zk l' A = (Zk l K).take (h + 1) := by
 obtain ⟨h1, h2, h3, h4⟩ := Z8 hK h0
 obtain ⟨hr, hc⟩ := YR h3
 have hkl : A.n.kids.length = h + 1 := by rw [ek, List.length_take]; omega
 have hra : ZX A.n.pivots = true := by rw [ep]; exact ZlR hr _
 have hpl : A.n.pivots.length = h := by rw [ep, List.length_take]; omega
 have hg : ∀ j, j < h + 1 → A.n.kids.getD j 0 = K.n.kids.getD j 0 := fun j hj => by rw [ek, ZpO hj]
 obtain ⟨g1, g2⟩ := ZaG (l := l') (x := A) om9 (ZcU hra om9) fun j hj => by
  rw [ZbG (l' := l) (y := K) (j := j) (by rw [hg j om9, hf j om9]) el]
  exact h4 j om9
 refine ⟨g1, ?_⟩
 rw [g2, h1, hkl]
 unfold Xp
 rw [← List.map_take, List.take_range, show min (h + 1) K.n.kids.length = h + 1 by omega]
 refine List.map_congr_left fun j hj => ?_
 have hj := List.mem_range.1 hj
 refine ZbF (by rw [hg j hj, hf j om9]) (fun q => ?_) fun s hse => hm s fun q hq => ?_
 ·rw [ZI, ZI, Xu hra q om9, Xu hr q om9, hs q, ep]
  cases hk : q.lt K.n.pivots[h]
  ·have := ZiN hr hh hk
   rw [decide_eq_false (show ¬ j = Ze K.n.pivots q by omega)]; simp
  ·rw [ZiM hr hh hk]; simp
 ·rw [hse, ZI, Bool.and_eq_true] at hq
  exact hq.1
theorem ZpR (hK : (Z7 l K).isSome = true) (h0 : ¬ K.n.level = 0) {h : Nat} (hh : h < K.n.pivots.length)
  (ep : A.n.pivots = K.n.pivots.drop (h + 1)) (ek : A.n.kids = K.n.kids.drop (h + 1)) (el : A.n.level = K.n.level) (hs : ∀ q, A.s.has q = (K.s.has q && !q.lt K.n.pivots[h]))
  (hm : ∀ s : Span, (∀ q, s.has q = true → A.s.has q = true) → ZQ [Zc s A.n.msgs, Zc s A.ms] = ZQ [Zc s K.n.msgs, Zc s K.ms])
  (hf : ∀ j, j < K.n.kids.length → Zw l' (K.n.kids.getD j 0) = Zw l (K.n.kids.getD j 0)) :
  (Z7 l' A).isSome = true ∧ Zk l' A = (Zk l K).drop (h + 1) := by
 obtain ⟨h1, h2, h3, h4⟩ := Z8 hK h0
 obtain ⟨hr, hc⟩ := YR h3
 have hkl : A.n.kids.length = K.n.kids.length - (h + 1) := by rw [ek, List.length_drop]
 have hra : ZX A.n.pivots = true := by rw [ep]; exact ZlS hr _
 have hpl : A.n.pivots.length = K.n.pivots.length - (h + 1) := by rw [ep, List.length_drop]
 have hg : ∀ j, A.n.kids.getD j 0 = K.n.kids.getD (h + 1 + j) 0 := fun j => by rw [ek, ZpP]
 obtain ⟨g1, g2⟩ := ZaG (l := l') (x := A) om9 (ZcU hra om9) fun j hj => by
  rw [ZbG (l' := l) (y := K) (j := h + 1 + j) (by rw [hg j, hf _ om9]) el]
  exact h4 _ om9
 refine ⟨g1, ?_⟩
 rw [g2, h1, hkl]
 refine List.ext_getElem (by simp [Xp]) fun j hj hj2 => ?_
 have hj : j < K.n.kids.length - (h + 1) := by simpa [Xp] using hj
 rw [List.getElem_drop]
 simp only [Xp, List.getElem_map, List.getElem_range]
 refine ZbF (by rw [hg j, hf _ om9]) (fun q => ?_) fun s hse => hm s fun q hq => ?_
 ·rw [ZI, ZI, Xu hra q om9, Xu hr q om9, hs q, ep]
  cases hk : q.lt K.n.pivots[h]
  ·have := ZiN hr hh hk
   rw [this]
   simp
  ·have h5 := ZiM hr hh hk
   have h6 : Ze (K.n.pivots.take h) q ≤ h := Zt5 _ _ _
   rw [decide_eq_false (show ¬ h + 1 + j = Ze K.n.pivots q by omega)]; simp
 ·rw [hse, ZI, Bool.and_eq_true] at hq
  exact hq.1
theorem ZiO {s : Span} (h : s.empty = false) : s.has s.lo = true := by
 have := Span.empty_eq s
 rw [h] at this
 simpa using this
theorem Yi {s : Span} {q : Str} : s.has q = true ↔ q.lt s.lo = false ∧ (s.opn = true ∨ q.lt s.hi = true) := by
 unfold Span.has
 simp
theorem ZpS {s : Span} (h : s.norm = s) (he : s.empty = false) : s.opn = true → s.hi = Str.nil := fun ho => by
 unfold Span.norm at h
 rw [if_neg (by simp [he]), if_pos ho] at h
 rw [← h]
theorem ZpT {s a : Span} {k : Str} (hs : s.norm = s) (ha : a.norm = a) (hk : s.has k = true) (hk2 : k ≠ s.lo) (h : ∀ q, a.has q = (s.has q && q.lt k)) : a = ⟨s.lo, k, false⟩ ∧ s.lo.lt k = true := by
 have h1 := Yi.1 hk
 have h2 : s.lo.lt k = true := by
  cases e : s.lo.lt k
  ·exact absurd (Str.lt_total h1.1 e) hk2
  ·rfl
 refine ⟨?_, h2⟩
 rw [← ha, ← Zer (s := ⟨s.lo, k, false⟩) (by simp [Span.empty, h2]) rfl]
 refine Zba fun q => ?_
 rw [h q, Bool.eq_iff_iff, Bool.and_eq_true, Yi, Yi]
 refine ⟨fun ⟨⟨g1, g2⟩, g3⟩ => ⟨g1, .inr g3⟩, fun ⟨g1, g2⟩ => ?_⟩
 have g2 : q.lt k = true := by rcases g2 with g | g; cases g; exact g
 refine ⟨⟨g1, ?_⟩, g2⟩
 rcases h1.2 with g | g
 ·exact .inl g
 ·exact .inr (Str.lt_trans g2 g)
theorem ZiP {s a : Span} {k : Str} (hs : s.norm = s) (ha : a.norm = a) (hk : s.has k = true) (h : ∀ q, a.has q = (s.has q && !q.lt k)) : a = ⟨k, s.hi, s.opn⟩ := by
 have h1 := Yi.1 hk
 have he : (⟨k, s.hi, s.opn⟩ : Span).empty = false := by
  cases e : (⟨k, s.hi, s.opn⟩ : Span).empty
  ·rfl
  ·have := YN.1 e k
   have h3 : (⟨k, s.hi, s.opn⟩ : Span).has k = true := Yi.2 ⟨Str.lt_irrefl k, h1.2⟩
   rw [h3] at this; cases this
 have hse : s.empty = false := by
  cases e : s.empty
  ·rfl
  ·have := YN.1 e k; rw [hk] at this; cases this
 have hn : (⟨k, s.hi, s.opn⟩ : Span).norm = ⟨k, s.hi, s.opn⟩ := by
  unfold Span.norm
  rw [if_neg (by simp [he])]
  split
  ·rename_i ho
   rw [ZpS hs hse ho]
  ·rfl
 rw [← ha, ← hn]
 refine Zba fun q => ?_
 rw [h q, Bool.eq_iff_iff, Bool.and_eq_true, Yi, Yi]
 refine ⟨fun ⟨⟨g1, g2⟩, g3⟩ => ⟨by simpa using g3, g2⟩, fun ⟨g1, g2⟩ => ⟨⟨?_, g2⟩, by simpa using g1⟩⟩
 have g1 : q.lt k = false := g1
 cases e : q.lt s.lo
 ·rfl
 ·have := Str.lt_of_lt_of_le e h1.1
  rw [g1] at this; cases this
theorem ZiQ {m : Msg} (hm : m.R) (h4 : ¬ m.kind = 4) {q : Str} : m.span.has q = decide (q = m.key) := by
 unfold Msg.span
 rw [if_neg h4]
 exact J3 (by have := hm.1.2.1; omega)
theorem Zcx {m : Msg} {s : Span} (hm : m.R) (h : (m.clip s).2 = true) {q : Str} (hq : (m.clip s).1.span.has q = true) : m.span.has q = true ∧ s.has q = true := by
 by_cases h4 : m.kind = 4
 ·rw [ZbV h h4, ZI, Bool.and_eq_true] at hq
  exact hq
 ·have e := (Xh h)
  rw [e.2, if_neg h4] at hq
  refine ⟨hq, ?_⟩
  cases hs : s.has q
  ·exfalso
   have : (m.span.meet s).empty = true := YN.2 fun p => by
    rw [ZI, ZiQ hm h4]
    by_cases ep : p = m.key
    ·rw [ZiQ hm h4, decide_eq_true_eq] at hq
     rw [ep, ← hq, hs]; simp
    ·simp [ep]
   rw [this] at e
   exact absurd e.1 (by simp)
  ·rfl
theorem ZiR {a s : Span} (h : ∀ q, a.has q = true → s.has q = true) : a.meet s = a.norm := by
 rw [← XR]
 refine Zba fun q => ?_
 rw [ZI]
 cases e : a.has q
 ·rfl
 ·rw [h q e]; rfl
theorem ZiS {a s : Span} (h : a.meet s = a.norm) {q : Str} (hq : a.has q = true) : s.has q = true := by
 have h2 := ZI a s q
 rw [h, ZaA, hq] at h2
 simpa using h2.symm
theorem ZpU {A B K : Seat} {k : Str} {h : Nat} (hP : PairsR K.n.rows) (hms : ∀ m ∈ K.ms, m.R) (ea : A.n.rows = K.n.rows.take h) (eb : B.n.rows = K.n.rows.drop h)
  (ha : ∀ q, A.s.has q = (K.s.has q && q.lt k)) (hb : ∀ q, B.s.has q = (K.s.has q && !q.lt k)) (h1 : ∀ i (hi : i < K.n.rows.length), i < h → K.n.rows[i].key.lt k = true) (h2 : ∀ i (hi : i < K.n.rows.length), h ≤ i → K.n.rows[i].key.lt k = false)
  (ma : Zc A.s A.ms = Zc A.s K.ms) (mb : Zc B.s B.ms = Zc B.s K.ms) : YJ A ++ YJ B = YJ K := by
 have hk : ∀ m ∈ K.ms, m.key.b.size < 140737488355328 := fun m hm => by have := (YZ (hms m hm)).1; omega
 have fa : (A.n.rows.filter fun p => A.s.has p.key) = K.n.rows.filter fun p => A.s.has p.key := by
  conv => rhs; rw [← List.take_append_drop h K.n.rows]
  rw [List.filter_append, ea, List.filter_eq_nil_iff (l := K.n.rows.drop h) |>.2 ?_, List.append_nil]
  intro p hp
  obtain ⟨i, hi, rfl⟩ := List.getElem_of_mem hp
  rw [List.length_drop] at hi
  rw [List.getElem_drop, ha, h2 _ om9 om9]; simp
 have fb : (B.n.rows.filter fun p => B.s.has p.key) = K.n.rows.filter fun p => B.s.has p.key := by
  conv => rhs; rw [← List.take_append_drop h K.n.rows]
  rw [List.filter_append, eb, List.filter_eq_nil_iff (l := K.n.rows.take h) |>.2 ?_, List.nil_append]
  intro p hp
  obtain ⟨i, hi, rfl⟩ := List.getElem_of_mem hp
  rw [List.length_take] at hi
  rw [List.getElem_take, hb, h1 _ om9 om9]; simp
 have hF := (hP.fold fun m hm => YZ (hms m hm)).srt (l := Zr K.n.rows K.ms)
 unfold YJ
 rw [fa, fb, ma, mb, Za0 hP.srt hk, Za0 hP.srt hk, Za0 hP.srt hk, ZiC hF K.s.has k]
 congr 1
 ·exact List.filter_congr fun p _ => ha _
 ·exact List.filter_congr fun p _ => hb _
def isW (m : Msg) : Bool := decide (m.kind = 4)
def Zj (l : List Msg) : List Msg := if Yw isW l = -1 then l else if Yw isW l = 0 then l.take 1 else l.take (Yw isW l).toNat
def XH (P : List Str) (i : Int) (m : Msg) : Option Msg := if ((Ze P m.key : Nat) : Int) = i ∧ (m.clip (Zf P i)).2 = true then some (m.clip (Zf P i)).1 else none
def Zd (P : List Str) (l : List Msg) (i : Int) : List Msg := (Zj l).filterMap (XH P i)
def Msg.zero : Msg := ⟨0, 0, Str.nil, Str.nil, false, Str.nil⟩
def ZD (m : Msg) (s : Span) : Msg × Bool := if s.opn = true then (Msg.zero, false) else m.clip ⟨s.hi, Str.nil, true⟩
def Y3 (P : List Str) (i : Int) (T : List Msg) (m : Msg) : Option Msg :=
 if m.stamp ∈ T.map Msg.stamp then (if m.kind = 4 ∧ (ZD m (Zf P i)).2 = true then some (ZD m (Zf P i)).1 else none) else some m
def ZJ (P : List Str) (i : Int) (T : List Msg) (l : List Msg) : List Msg := l.filterMap (Y3 P i T)
theorem ZiT (P : List Str) (i : Int) (T A B : List Msg) : ZJ P i T (A ++ B) = ZJ P i T A ++ ZJ P i T B := List.filterMap_append
theorem Zdk {P : List Str} {i : Int} {T : List Msg} : ∀ {l : List Msg}, (∀ m ∈ l, ¬ m.stamp ∈ T.map Msg.stamp) → ZJ P i T l = l
 | [], _ => rfl
 | m :: l, h => by
  have ih := Zdk (P := P) (i := i) (T := T) (l := l) fun x hx => h x (List.mem_cons_of_mem _ hx)
  unfold ZJ at ih ⊢
  rw [List.filterMap_cons, show Y3 P i T m = some m from if_neg (h m (by simp)), ih]
theorem Zff (P : List Str) (i : Int) (l : List Msg) : ZJ P i [] l = l := Zdk fun m _ h => by cases h
theorem ZpV {m : Msg} {s t : Span} (hst : ∀ k, m.span.has k = true → s.has k = true → t.has k = true) : (if (m.clip t).2 = true then (m.clip t).1.clip s else (⟨0, 0, Str.nil, Str.nil, false, Str.nil⟩, false)) = m.clip s := by
 cases h : (m.clip t).2
 ·rw [if_neg (by simp)]
  have h1 := Jt.1 h
  have h2 : (m.span.meet s).empty = true := YN.2 fun k => by
   have := YN.1 h1 k
   rw [ZI] at this ⊢
   cases hm : m.span.has k
   ·rfl
   ·rw [hm, Bool.true_and] at this
    cases hs : s.has k
    ·rfl
    ·rw [hst k hm hs] at this; cases this
  rw [J1 h2]
 ·rw [if_pos rfl]
  by_cases k : m.kind = 4
  ·have hs := ZbV h k
   have k2 : (m.clip t).1.kind = 4 := by rw [(Xh h).2, if_pos k]; exact k
   have e : (m.span.meet t).meet s = m.span.meet s := Zge fun q => by
    rw [ZI]
    cases hm : m.span.has q
    ·simp
    ·cases hs : s.has q
     ·simp
     ·rw [hst q hm hs]; simp
   cases he : (m.span.meet s).empty
   ·rw [J2 (by rw [hs, e]; exact he) k2, J2 he k, hs, e, (Xh h).2, if_pos k]
   ·rw [J1 (by rw [hs, e]; exact he), J1 he]
  ·rw [(Xh h).2, if_neg k]
theorem ZpW {m : Msg} {s t : Span} (h : ∀ k, m.span.has k = true → s.has k = t.has k) : m.clip s = m.clip t := by
 have e : m.span.meet s = m.span.meet t := Zge fun k => by
  cases hm : m.span.has k
  ·rfl
  ·rw [h k hm]
 unfold Msg.clip
 rw [e]
theorem ZiU {s : Span} : ∀ {l : List Msg}, (∀ m ∈ l, ∀ k, m.span.has k = true → s.has k = false) → Zc s l = []
 | [], _ => rfl
 | m :: l, h => by
  rw [Xi, if_neg, ZiU fun x hx => h x (List.mem_cons_of_mem _ hx)]
  rw [Jt.2 (YN.2 fun k => by
   rw [ZI]
   cases hm : m.span.has k
   ·rfl
   ·rw [h m (by simp) k hm]; rfl)]
  simp
theorem Zfg {m : Msg} (hR : m.R) (h : ¬ m.kind = 4) (k : Str) : m.span.has k = decide (k = m.key) := by
 have : m.span = ⟨m.key, m.key.next, false⟩ := by unfold Msg.span; rw [if_neg h]
 rw [this, J3 (by have := hR.1.2.1; omega)]
theorem Zfh {m : Msg} (hR : m.R) (h : ¬ m.kind = 4) (s : Span) : (m.clip s).2 = s.has m.key ∧ ((m.clip s).2 = true → (m.clip s).1 = m) := by
 refine ⟨?_, fun h2 => by rw [(Xh h2).2, if_neg h]⟩
 cases h2 : (m.clip s).2
 ·have := YN.1 (Jt.1 h2) m.key
  rw [ZI, Zfg hR h, decide_eq_true rfl, Bool.true_and] at this
  exact this.symm
 ·cases h3 : s.has m.key
  ·exfalso
   have : (m.clip s).2 = false := Jt.2 (YN.2 fun k => by
    rw [ZI, Zfg hR h]
    by_cases e : k = m.key
    ·rw [e, h3]; simp
    ·simp [e])
   rw [this] at h2; cases h2
  ·rfl
theorem Zfi {α : Type} (g : α → Bool) : ∀ (F : List α) (n : Nat), ∃ q, (F.take q).filter g = (F.filter g).take n
 | [], n => ⟨0, by simp⟩
 | a :: F, 0 => ⟨0, by simp⟩
 | a :: F, n + 1 => by
  cases h : g a
  ·obtain ⟨q, hq⟩ := Zfi g F (n + 1)
   exact ⟨q + 1, by rw [List.take_succ_cons, List.filter_cons_of_neg (by simp [h]), List.filter_cons_of_neg (by simp [h]), hq]⟩
  ·obtain ⟨q, hq⟩ := Zfi g F n
   exact ⟨q + 1, by rw [List.take_succ_cons, List.filter_cons_of_pos h, List.filter_cons_of_pos h, hq, List.take_succ_cons]⟩
theorem ZpX (l : List Msg) : (∃ w R, l = w :: R ∧ w.kind = 4 ∧ Zj l = [w]) ∨ ∃ F R, l = F ++ R ∧ Zj l = F ∧ ∀ m ∈ F, ¬ m.kind = 4 := by
 rcases Zcu isW l with ⟨h, h2⟩ | ⟨k, hk, h, h2, h3⟩
 ·refine .inr ⟨l, [], by simp, by unfold Zj; rw [if_pos h], fun m hm e => ?_⟩
  have := h2 m hm
  simp [isW, e] at this
 ·cases k with
  | zero =>
   left
   match l, hk with
   | w :: R, _ => exact ⟨w, R, rfl, by simpa [isW] using h2, by unfold Zj; rw [if_neg (by rw [h]; decide), if_pos (by rw [h]; rfl)]; rfl⟩
  | succ k =>
   right
   refine ⟨l.take (k + 1), l.drop (k + 1), (List.take_append_drop _ _).symm, by unfold Zj; rw [if_neg (by rw [h]; omega), if_neg (by rw [h]; omega), h]; rfl, fun m hm e => ?_⟩
   obtain ⟨j, hj, rfl⟩ := List.getElem_of_mem hm
   rw [List.length_take] at hj
   rw [List.getElem_take] at e
   have := h3 j om9 om9
   simp [isW, e] at this
theorem Zdl {l : List Msg} (h : MsgsR l) : Rst l := (MsgsR.iff.1 h).2
inductive Moved (P : List Str) (i : Nat) (l T : List Msg) : Prop
 | none (hT : T = []) : Moved P i l T
 | wipe (w : Msg) (R : List Msg) (hl : l = w :: R) (hk : w.kind = 4) (hr : Ze P w.key = i) (hc : (w.clip (Zf P i)).2 = true) (hT : T = [(w.clip (Zf P i)).1])
   (hA : ZJ P i T l = (if (ZD w (Zf P i)).2 = true then [(ZD w (Zf P i)).1] else []) ++ R) : Moved P i l T
 | points (F R : List Msg) (hl : l = F ++ R) (hF : ∀ m ∈ F, ¬ m.kind = 4) (hT : T = F.filter fun m => decide (Ze P m.key = i)) (hA : ZJ P i T l = (F.filter fun m => !decide (Ze P m.key = i)) ++ R) : Moved P i l T
theorem ZaH {A B : List Msg} (h : Rst (A ++ B)) : Rst A ∧ Rst B ∧ ∀ a ∈ A, ∀ b ∈ B, a.stamp < b.stamp := List.pairwise_append.1 h
theorem ZiV : ∀ {l : List Msg}, Rst l → ∀ {a b : Msg}, a ∈ l → b ∈ l → a.stamp = b.stamp → a = b
 | [], _, _, _, ha, _, _ => by cases ha
 | x :: l, h, a, b, ha, hb, e => by
  obtain ⟨h1, h2⟩ := List.pairwise_cons.1 h
  rcases List.mem_cons.1 ha with ea | ha2
  ·rcases List.mem_cons.1 hb with eb | hb2
   ·rw [ea, eb]
   ·have := h1 b hb2; rw [ea] at e; omega
  ·rcases List.mem_cons.1 hb with eb | hb2
   ·have := h1 a ha2; rw [eb] at e; omega
   ·exact ZiV h2 ha2 hb2 e
theorem ZiW {P : List Str} {i : Nat} {l : List Msg} (hP : ZX P = true) (hi : i ≤ P.length) (hm : MsgsR l) (n : Nat) : Moved P i l ((Zd P l i).take n) := by
 have hR := (MsgsR.iff.1 hm).1
 have hs := Zdl hm
 rcases ZpX l with ⟨w, R, rfl, hk, hf⟩ | ⟨F, R, rfl, hf, hF⟩
 ·by_cases hT : (Zd P (w :: R) i).take n = []
  ·exact .none hT
  ·have e0 : Zd P (w :: R) i = (XH P i w).toList := by unfold Zd; rw [hf]; cases h : XH P i w <;> simp [h]
   have hw : (Ze P w.key = i) ∧ (w.clip (Zf P i)).2 = true := by
    by_cases h : ((Ze P w.key : Nat) : Int) = i ∧ (w.clip (Zf P i)).2 = true
    ·exact ⟨om9, h.2⟩
    ·exact absurd (by rw [e0, show XH P i w = none from if_neg h]; simp) hT
   have e1 : Zd P (w :: R) i = [(w.clip (Zf P i)).1] := by rw [e0, show XH P i w = some _ from if_pos ⟨om9, hw.2⟩]; rfl
   have e2 : (Zd P (w :: R) i).take n = [(w.clip (Zf P i)).1] := by
    rw [e1] at hT ⊢
    cases n with
    | zero => exact absurd rfl hT
    | succ n => rw [List.take_succ_cons, List.take_nil]
   refine .wipe w R rfl hk hw.1 hw.2 e2 ?_
   rw [e2]
   have hst : (w.clip (Zf P i)).1.stamp = w.stamp := X7 hw.2
   rw [show w :: R = [w] ++ R from rfl, ZiT, Zdk (l := R) fun m hm h => ?_]
   ·congr 1
    unfold ZJ Y3
    by_cases h : (ZD w (Zf P i)).2 = true
    ·rw [if_pos h]; simp [hst, hk, h]
    ·rw [if_neg h]; simp [hst, hk, h]
   ·have := (List.pairwise_cons.1 hs).1 m hm
    simp [hst] at h
    omega
 ·obtain ⟨q, hq⟩ := Zfi (fun m : Msg => decide (Ze P m.key = i)) F n
  have hRF : ∀ m ∈ F, m.R := fun m h => hR m (List.mem_append_left _ h)
  have hfor : ∀ (G : List Msg), (∀ m ∈ G, m ∈ F) → G.filterMap (XH P i) = G.filter fun m => decide (Ze P m.key = i) := fun G => by
   induction G with
   | nil => intro _; rfl
   | cons m G ih =>
    intro hG
    have hmF := hG m (by simp)
    have hc := Zfh (hRF m hmF) (hF m hmF) (Zf P i)
    rw [Xu hP _ hi] at hc
    rw [List.filterMap_cons, ih fun x hx => hG x (List.mem_cons_of_mem _ hx)]
    by_cases e : Ze P m.key = i
    ·have h2 : (m.clip (Zf P i)).2 = true := by rw [hc.1, decide_eq_true e.symm]
     rw [show XH P i m = some m from (if_pos ⟨om9, h2⟩).trans (congrArg some (hc.2 h2)), List.filter_cons_of_pos (by simp [e])]
    ·rw [show XH P i m = none from if_neg fun h => e om9, List.filter_cons_of_neg (by simp [e])]
  have hT : (Zd P (F ++ R) i).take n = (F.take q).filter fun m => decide (Ze P m.key = i) := by
   unfold Zd
   rw [hf, hfor F (fun m h => h), hq]
  refine .points (F.take q) (F.drop q ++ R) (by rw [← List.append_assoc, List.take_append_drop]) (fun m hm => hF m (List.mem_of_mem_take hm)) hT ?_
  rw [hT]
  have hl : F ++ R = F.take q ++ (F.drop q ++ R) := by rw [← List.append_assoc, List.take_append_drop]
  rw [hl] at hs ⊢
  obtain ⟨s1, s2, s3⟩ := ZaH hs
  rw [ZiT, Zdk (l := F.drop q ++ R) fun m hm h => ?_]
  ·congr 1
   generalize hFq : F.take q = G at *
   have hGF : ∀ m ∈ G, ¬ m.kind = 4 := fun m hm => hF m (by rw [← hFq] at hm; exact List.mem_of_mem_take hm)
   have key : ∀ (H : List Msg), (∀ m ∈ H, m ∈ G) → ZJ P i (G.filter fun m => decide (Ze P m.key = i)) H = H.filter fun m => !decide (Ze P m.key = i) := fun H => by
    induction H with
    | nil => intro _; rfl
    | cons m H ih =>
     intro hH
     have hmG := hH m (by simp)
     have ih := ih fun x hx => hH x (List.mem_cons_of_mem _ hx)
     unfold ZJ at ih ⊢
     rw [List.filterMap_cons, ih]
     by_cases e : Ze P m.key = i
     ·have : m.stamp ∈ (G.filter fun m => decide (Ze P m.key = i)).map Msg.stamp := List.mem_map.2 ⟨m, List.mem_filter.2 ⟨hmG, by simp [e]⟩, rfl⟩
      rw [show Y3 P i (G.filter fun m => decide (Ze P m.key = i)) m = none from (if_pos this).trans (if_neg fun h => hGF m hmG h.1), List.filter_cons_of_neg (by simp [e])]
     ·have : ¬ m.stamp ∈ (G.filter fun m => decide (Ze P m.key = i)).map Msg.stamp := fun h => by
       obtain ⟨x, hx, hxs⟩ := List.mem_map.1 h
       obtain ⟨hx1, hx2⟩ := List.mem_filter.1 hx
       rw [ZiV s1 hx1 hmG hxs] at hx2
       simp [e] at hx2
      rw [show Y3 P i (G.filter fun m => decide (Ze P m.key = i)) m = some m from if_neg this, List.filter_cons_of_pos (by simp [e])]
   exact key G fun m h => h
  ·obtain ⟨x, hx, hxs⟩ := List.mem_map.1 h
   have := s3 x (List.mem_filter.1 hx).1 m hm
   omega
section
variable {P : List Str} {i : Nat} {l T : List Msg} (hP : ZX P = true) (hi : i ≤ P.length) (hm : MsgsR l) (h : Moved P i l T)
include hP hi hm h
theorem Moved.clips_in {s : Span} (hs : ∀ k, s.has k = true → (Zf P i).has k = true) (hS : ∀ m ∈ l, ∀ k, m.span.has k = true → (Zf P i).has k = true → s.has k = true) : Zc s l = T ++ Zc s (ZJ P i T l) := by
 have hR := (MsgsR.iff.1 hm).1
 cases h with
 | none hT => rw [hT, Zff]; rfl
 | wipe w R hl hk hr hc hT hA =>
  subst hl
  have e1 : w.clip s = w.clip (Zf P i) := ZpW fun k hk => by
   cases h1 : (Zf P i).has k
   ·cases h2 : s.has k
    ·rfl
    ·rw [hs k h2] at h1; cases h1
   ·exact hS w (by simp) k hk h1
  have e2 : Zc s (if (ZD w (Zf P i)).2 = true then [(ZD w (Zf P i)).1] else []) = [] := by
   by_cases h2 : (ZD w (Zf P i)).2 = true
   ·rw [if_pos h2]
    unfold ZD at h2 ⊢
    by_cases ho : (Zf P i).opn = true
    ·rw [if_pos ho] at h2; cases h2
    ·rw [if_neg ho] at h2 ⊢
     refine ZiU fun m hm k hk2 => ?_
     rw [List.mem_singleton] at hm
     subst hm
     rw [ZbV h2 hk, ZI, Bool.and_eq_true] at hk2
     cases h3 : s.has k
     ·rfl
     ·have a1 := (Yi.1 (hs k h3)).2
      have a2 := (Yi.1 hk2.2).1
      rcases a1 with a1 | a1
      ·exact absurd a1 ho
      ·rw [show (⟨(Zf P i).hi, Str.nil, true⟩ : Span).lo = (Zf P i).hi from rfl, a1] at a2; cases a2
   ·rw [if_neg h2]; rfl
  rw [hA, Jj, e2, Xi, e1, if_pos hc, hT]; rfl
 | points F R hl hF hT hA =>
  subst hl
  have hRF : ∀ m ∈ F, m.R := fun m h => hR m (List.mem_append_left _ h)
  have key : ∀ (G : List Msg), (∀ m ∈ G, m ∈ F) → Zc s G = G.filter (fun m => decide (Ze P m.key = i)) ∧ Zc s (G.filter fun m => !decide (Ze P m.key = i)) = [] := fun G => by
   induction G with
   | nil => intro _; exact ⟨rfl, rfl⟩
   | cons m G ih =>
    intro hG
    have hmF := hG m (by simp)
    obtain ⟨i1, i2⟩ := ih fun x hx => hG x (List.mem_cons_of_mem _ hx)
    have hc := Zfh (hRF m hmF) (hF m hmF) s
    have hk : m.span.has m.key = true := by rw [Zfg (hRF m hmF) (hF m hmF)]; simp
    have hrg := Xu hP m.key hi
    by_cases e : Ze P m.key = i
    ·have h1 : s.has m.key = true := hS m (List.mem_append_left _ hmF) m.key hk (by rw [hrg, decide_eq_true e.symm])
     rw [h1] at hc
     refine ⟨?_, by rw [List.filter_cons_of_neg (by simp [e])]; exact i2⟩
     rw [Xi, if_pos hc.1, hc.2 hc.1, i1, List.filter_cons_of_pos (by simp [e])]
    ·have h1 : s.has m.key = false := by
      cases h1 : s.has m.key
      ·rfl
      ·have := hs _ h1; rw [hrg, decide_eq_true_eq] at this; exact absurd this.symm e
     rw [h1] at hc
     refine ⟨?_, ?_⟩
     ·rw [Xi, if_neg (by simp [hc.1]), i1, List.filter_cons_of_neg (by simp [e])]
     ·rw [List.filter_cons_of_pos (by simp [e]), Xi, if_neg (by simp [hc.1]), i2]
  obtain ⟨k1, k2⟩ := key F fun m h => h
  rw [hA, Jj, Jj, k1, k2, hT]; rfl
theorem Moved.clips_out {t : Span} (ht : ∀ k, t.has k = true → (Zf P i).has k = false) : Zc t (ZJ P i T l) = Zc t l := by
 have hR := (MsgsR.iff.1 hm).1
 cases h with
 | none hT => rw [hT, Zff]
 | wipe w R hl hk hr hc hT hA =>
  subst hl
  rw [hA, Jj, Xi]
  have hwk : (Zf P i).has w.key = true := by rw [Xu hP _ hi, decide_eq_true hr.symm]
  have hlo : ∀ k, w.span.has k = true → k.lt (Zf P i).lo = false := fun k h1 => by
   have hsp : w.span = ⟨w.key, w.hi, w.opn⟩ := by unfold Msg.span; rw [if_pos hk]
   rw [hsp] at h1
   have a1 := (Yi.1 h1).1
   have a2 := (Yi.1 hwk).1
   exact Str.le_trans a2 a1
  have e2 : Zc t (if (ZD w (Zf P i)).2 = true then [(ZD w (Zf P i)).1] else []) = if (w.clip t).2 = true then [(w.clip t).1] else [] := by
   unfold ZD
   by_cases ho : (Zf P i).opn = true
   ·rw [if_pos ho, if_neg (by simp), if_neg]
    ·rfl
    ·rw [Jt.2 (YN.2 fun k => by
      rw [ZI]
      cases h1 : w.span.has k
      ·rfl
      ·cases h2 : t.has k
       ·rfl
       ·have := ht k h2
        rw [Yi.2 ⟨hlo k h1, .inl ho⟩] at this; cases this)]
     simp
   ·rw [if_neg ho]
    have e := ZpV (m := w) (s := t) (t := ⟨(Zf P i).hi, Str.nil, true⟩) fun k h1 h2 => by
     refine Yi.2 ⟨?_, .inl rfl⟩
     show k.lt (Zf P i).hi = false
     cases h3 : k.lt (Zf P i).hi
     ·rfl
     ·have := ht k h2
      rw [Yi.2 ⟨hlo k h1, .inr h3⟩] at this; cases this
    cases h2 : (w.clip ⟨(Zf P i).hi, Str.nil, true⟩).2
    ·rw [h2, if_neg (by simp)] at e
     rw [← e, if_neg (by simp), if_neg (by simp)]; rfl
    ·rw [h2, if_pos rfl] at e
     rw [if_pos rfl, Xi, e]; rfl
  rw [e2]
  by_cases h2 : (w.clip t).2 = true
  ·rw [if_pos h2, if_pos h2]; rfl
  ·rw [if_neg h2, if_neg h2]; rfl
 | points F R hl hF hT hA =>
  subst hl
  have hRF : ∀ m ∈ F, m.R := fun m h => hR m (List.mem_append_left _ h)
  rw [hA, Jj, Jj]
  congr 1
  have key : ∀ (G : List Msg), (∀ m ∈ G, m ∈ F) → Zc t (G.filter fun m => !decide (Ze P m.key = i)) = Zc t G := fun G => by
   induction G with
   | nil => intro _; rfl
   | cons m G ih =>
    intro hG
    have hmF := hG m (by simp)
    have ih := ih fun x hx => hG x (List.mem_cons_of_mem _ hx)
    have hc := Zfh (hRF m hmF) (hF m hmF) t
    by_cases e : Ze P m.key = i
    ·have h1 : t.has m.key = false := by
      cases h1 : t.has m.key
      ·rfl
      ·have := ht _ h1; rw [Xu hP _ hi, decide_eq_false_iff_not] at this; exact absurd e.symm this
     rw [h1] at hc
     rw [List.filter_cons_of_neg (by simp [e]), ih, Xi, if_neg (by simp [hc.1])]
    ·rw [List.filter_cons_of_pos (by simp [e]), Xi, Xi, ih]
  exact key F fun m h => h
end
variable {c : Cfg} {l : List Nd} {ss : List Seat}
def Wst (l : List Msg) : Prop := l.Pairwise fun a b => a.stamp ≤ b.stamp
theorem Rst.wst {l : List Msg} (h : Rst l) : Wst l := h.imp fun h => Int.le_of_lt h
theorem ZpY {m : Msg} {s : Span} {k : Str} (hk : s.has k = true) : (m.clip s).2 = true → (m.clip s).1.on k = m.on k := fun h => by
 by_cases h4 : m.kind = 4
 ·have h5 := ZbV h h4
  have k2 : (m.clip s).1.kind = 4 := by rw [(Xh h).2, if_pos h4]; exact h4
  unfold Msg.on
  rw [h5, ZI, hk, Bool.and_true, k2, h4]; rfl
 ·rw [(Xh h).2, if_neg h4]
theorem Zfj {s : Span} {k : Str} (hk : s.has k = true) : ∀ (A : List Msg) (o : Option Str), (Zc s A).foldl (fun o m => (m.on k).apply o) o = A.foldl (fun o m => (m.on k).apply o) o
 | [], o => rfl
 | m :: A, o => by
  rw [Xi, List.foldl_cons]
  cases h : (m.clip s).2
  ·rw [if_neg (by simp), Zfj hk A]
   have := YN.1 (Jt.1 h) k
   rw [ZI, hk, Bool.and_true] at this
   have e : m.on k = Eff.zero := by unfold Msg.on; rw [if_pos (.inl this)]
   rw [e]; rfl
  ·rw [if_pos rfl, List.foldl_cons, ZpY hk h, Zfj hk A]
def ptS (k : Str) : Span := ⟨k, k.next, false⟩
structure Gp (l : List Nd) (ss : List Seat) (k : Str) (x : Seat) (W : List Msg) : Prop where
 mem : x ∈ ss
 has : x.s.has k = true
 wst : Wst W
 eq : Zc (ptS k) W = Zc (ptS k) x.ms
 fit : ∀ m ∈ W, m.R
 len : W.length ≤ 1024 * ((Zm l 0).n.level - x.n.level).toNat
section
variable {α : Type} {E : Env} {f : Fr} {G : GH} {M Mk Ms Mr : MH} {ops rest : List Oper} {q : Bool} {K : Kt} {d : Nat} {ty : TypeId} {pos : String} {aft : Array Edge} {t et : TypeId} {x y kk : Operand} {b : Nat} {k : Int} {m : List (Int × α)} {V : VEnc α}
end
def Yj (bud : Int) (ms : List Msg) (m : Msg) : Bool := decide (m.size ≤ bud - Zx ms) && (ms.getLast?.all fun x => decide (x.stamp < m.stamp))
def Xd (bud : Int) : List Msg → List Msg → Nat
 | _, [] => 0
 | ms, m :: l => if Yj bud ms m = true then Xd bud (ms ++ [m]) l + 1 else 0
def Zq (leaf bud : Int) (k : Nd) (l : List Msg) : Nd × Nat :=
 if k.level = 0 then ({ k with rows := (Yb leaf k.rows l).1 }, (Yb leaf k.rows l).2) else ({ k with msgs := k.msgs ++ l.take (Xd bud k.msgs l) }, Xd bud k.msgs l)
def KidOf (p k : Nd) (i : Int) : Prop := 1 ≤ p.level ∧ k.level = p.level - 1 ∧ 0 ≤ i ∧ i < (p.kids.length : Int)
instance (p k : Nd) (i : Int) : Decidable (KidOf p k i) := by unfold KidOf; infer_instance
noncomputable def ZO (leaf bud : Int) (p k : Nd) (i : Int) : Nat := if KidOf p k i then (Zq leaf bud k (Zd p.pivots p.msgs i)).2 else 0
noncomputable def ZU (leaf bud : Int) (p k : Nd) (i : Int) : Nd × Nd × Nat :=
 if ZO leaf bud p k i = 0 then (p, k, 0)
 else ({ p with msgs := ZJ p.pivots i ((Zd p.pivots p.msgs i).take (ZO leaf bud p k i)) p.msgs },
  { (Zq leaf bud k (Zd p.pivots p.msgs i)).1 with seen := (((Zd p.pivots p.msgs i).take (ZO leaf bud p k i)).getLast?.getD Msg.zero).stamp }, ZO leaf bud p k i)
theorem ZiX (bud : Int) : ∀ (l ms : List Msg), Xd bud ms l ≤ l.length
 | [], _ => Nat.le_refl _
 | m :: l, ms => by
  unfold Xd
  split
  ·have := ZiX bud l (ms ++ [m]); simp; omega
  ·omega
theorem ZiY (leaf bud : Int) (k : Nd) (l : List Msg) : (Zq leaf bud k l).2 ≤ l.length := by
 unfold Zq
 split
 ·exact ZeC _ _ _
 ·exact ZiX _ _ _
theorem Zdm (A B : List Msg) : Zx (A ++ B) = Zx A + Zx B := by simp [Zx]
theorem ZiZ (bud : Int) : ∀ (l ms : List Msg), Zx ms ≤ bud → Zx (ms ++ l.take (Xd bud ms l)) ≤ bud
 | [], ms, h => by simpa using h
 | m :: l, ms, h => by
  unfold Xd
  split
  ·rename_i hr
   have hr2 : m.size ≤ bud - Zx ms := by unfold Yj at hr; rw [Bool.and_eq_true, decide_eq_true_eq] at hr; exact hr.1
   have := ZiZ bud l (ms ++ [m]) (by rw [Zdm]; show _ + (m.size + 0) ≤ _; omega)
   rw [List.append_assoc] at this
   exact this
  ·simpa using h
def Nd.spanN (n : Nd) : Span := if n.top = true then Span.all else Span.norm ⟨Str.nil, n.high, false⟩
theorem ZpZ (n : Nd) (k : Str) : n.spanN.has k = n.has k := by
 unfold Nd.spanN Nd.has
 cases n.top
 ·rw [if_neg (by simp), ZaA]
  unfold Span.has
  simp [Str.nil_le]
 ·rw [if_pos rfl, Zav]; rfl
def YH (p : Nd) (i : Int) : Span := p.spanN.meet (Zf p.pivots i)
def MayP (c : Cfg) (p k : Nd) (i : Int) : Prop := (p.R c.fan c.leaf c.bud ∧ k.R c.fan c.leaf c.bud ∧ KidOf p k i) ∧ (k.top = (YH p i).opn ∧ k.high = (YH p i).hi) ∧ ∀ j (h : j < p.msgs.length), (p.msgs[j].span.meet (YH p i)).empty = false → k.seen < p.msgs[j].stamp
instance (c : Cfg) (p k : Nd) (i : Int) : Decidable (MayP c p k i) := by unfold MayP; infer_instance
theorem Zdn {n : Nd} {m : Msg} (hm : m.R) : (n.top = true ∨ (m.span.opn = false ∧ n.high.lt m.span.hi = false)) ↔ ∀ k, m.span.has k = true → n.has k = true := by
 have hne : m.span.empty = false := by
  cases h : m.span.empty
  ·rfl
  ·have := YN.1 h m.key; rw [Msg.has_key hm] at this; cases this
 have hlo : m.span.opn = true ∨ m.span.lo.lt m.span.hi = true := by
  have := hne; unfold Span.empty at this
  cases h : m.span.opn
  ·right; simpa [h] using this
  ·exact .inl rfl
 constructor
 ·rintro (h | ⟨h1, h2⟩) k hk
  ·unfold Nd.has; rw [h]; rfl
  ·have := (Yi.1 hk).2
   rcases this with h3 | h3
   ·rw [h1] at h3; cases h3
   ·unfold Nd.has; rw [Str.lt_of_lt_of_le h3 h2]; simp
 ·intro h
  cases ht : n.top
  ·right
   have key : ∀ q, m.span.has q = true → q.lt n.high = true := fun q hq => by
    have := h q hq; unfold Nd.has at this; rw [ht] at this; simpa using this
   -- the greater one of two texts
   have mx : m.span.has (if m.span.lo.lt n.high = true then n.high else m.span.lo) = true → False := fun hq => by
    have := key _ hq
    split at this
    ·rw [Str.lt_irrefl] at this; cases this
    ·rename_i h1; exact h1 this
   have hmx : (if m.span.lo.lt n.high = true then n.high else m.span.lo).lt m.span.lo = false := by
    split
    ·rename_i h1; exact Str.lt_asymm h1
    ·exact Str.lt_irrefl _
   cases ho : m.span.opn
   ·refine ⟨rfl, ?_⟩
    cases h2 : n.high.lt m.span.hi
    ·rfl
    ·exfalso
     refine mx (Yi.2 ⟨hmx, .inr ?_⟩)
     split
     ·exact h2
     ·rcases hlo with h3 | h3
      ·rw [ho] at h3; cases h3
      ·exact h3
   ·exact absurd (Yi.2 ⟨hmx, .inl ho⟩) (fun hq => mx hq)
  ·exact .inl rfl
theorem Zi0 {P : List Str} {i : Int} {T : List Msg} {m m' : Msg} (h : Y3 P i T m = some m') : m' = m ∨ ((Zf P i).opn = false ∧ (m.clip ⟨(Zf P i).hi, Str.nil, true⟩).2 = true ∧ m' = (m.clip ⟨(Zf P i).hi, Str.nil, true⟩).1) := by
 unfold Y3 at h
 split at h
 ·split at h
  ·rename_i h2
   cases h
   right
   have h3 := h2.2
   unfold ZD at h3 ⊢
   split at h3
   ·cases h3
   ·rename_i h4
    rw [if_neg h4]
    exact ⟨by simpa using h4, h3, rfl⟩
  ·cases h
 ·cases h; exact .inl rfl
theorem Zfk {P : List Str} {i : Int} {T : List Msg} {m m' : Msg} (h : Y3 P i T m = some m') : m'.stamp = m.stamp ∧ m'.size = m.size := by
 rcases Zi0 h with rfl | ⟨_, h2, rfl⟩
 ·exact ⟨rfl, rfl⟩
 ·exact ⟨X7 h2, Zg7 h2⟩
theorem Zp0 {P : List Str} {i : Int} {T l : List Msg} {m' : Msg} (h : m' ∈ ZJ P i T l) : ∃ m ∈ l, Y3 P i T m = some m' := List.mem_filterMap.1 h
theorem Zp1 {P : List Str} {i : Int} {T l : List Msg} (h : Rst l) : Rst (ZJ P i T l) := by
 unfold Rst ZJ
 rw [List.pairwise_filterMap]
 refine List.Pairwise.imp (fun {a b} hab x hx y hy => ?_) h
 have := (Zfk hx).1
 have := (Zfk hy).1
 omega
theorem Zi1 (m : Msg) : 0 ≤ m.size := by unfold Msg.size; split <;> omega
theorem Zi2 (P : List Str) (i : Int) (T : List Msg) : ∀ (l : List Msg), Zx (ZJ P i T l) ≤ Zx l
 | [] => Int.le_refl _
 | m :: l => by
  have ih := Zi2 P i T l
  have hp := Zi1 m
  unfold ZJ at ih ⊢
  rw [List.filterMap_cons]
  have e : Zx (m :: l) = m.size + Zx l := by simp [Zx]
  split
  ·omega
  ·rename_i m' h
   have := (Zfk h).2
   have e2 : ∀ L, Zx (m' :: L) = m'.size + Zx L := fun L => by simp [Zx]
   rw [e2]; omega
theorem Zfl {P : List Str} {i : Int} {T l : List Msg} (hP : ∀ k ∈ P, k.b.size ≤ 16) (hl : ∀ m ∈ l, m.R) {m' : Msg} (h : m' ∈ ZJ P i T l) : m'.R ∧ ∃ m ∈ l, m'.stamp = m.stamp ∧ ∀ q, m'.span.has q = true → m.span.has q = true := by
 obtain ⟨m, hm, h2⟩ := Zp0 h
 rcases Zi0 h2 with rfl | ⟨_, h3, rfl⟩
 ·exact ⟨hl _ hm, m', hm, rfl, fun q hq => hq⟩
 ·have hr := ZcG (p := P) (i := i) (n := 16) hP
  exact ⟨ZaU (hl m hm) hr.2 (by show Str.nil.b.size ≤ 16; decide) h3, m, hm, X7 h3, fun q hq => (Zcx (hl m hm) h3 hq).1⟩
theorem Zp2 {l : List Msg} {n : Nat} (h : 0 < n) (hl : n ≤ l.length) : ∃ x ∈ l.take n, (l.take n).getLast?.getD Msg.zero = x ∧ ∀ y ∈ l.take n, Rst l → y.stamp ≤ x.stamp := by
 obtain ⟨j, rfl⟩ : ∃ j, n = j + 1 := ⟨n - 1, om9⟩
 have e : l.take (j + 1) = l.take j ++ [l[j]] := List.take_succ_eq_append_getElem om9
 refine ⟨l[j], by rw [e]; exact List.mem_append_right _ (List.mem_singleton.2 rfl), by rw [e, List.getLast?_concat]; rfl, fun y hy hr => ?_⟩
 rw [e, List.mem_append, List.mem_singleton] at hy
 rcases hy with hy | rfl
 ·obtain ⟨q, hq, rfl⟩ := List.getElem_of_mem hy
  rw [List.length_take] at hq
  rw [List.getElem_take]
  have := List.pairwise_iff_getElem.1 hr q j om9 om9 om9
  omega
 ·omega
structure Poured (c : Cfg) (p k : Nd) (i : Int) (a b : Nd) (T : List Msg) : Prop where
 ne : 0 < T.length
 ea : a = { p with msgs := ZJ p.pivots i T p.msgs }
 eb : b = { k with rows := b.rows, msgs := b.msgs, seen := b.seen }
 leaf : k.level = 0 → b.msgs = k.msgs ∧ b.rows = Zr k.rows T ∧ (PairsR k.rows → (∀ m ∈ Zd p.pivots p.msgs i, m.R) → (k.rows.length : Int) ≤ c.leaf → (b.rows.length : Int) ≤ c.leaf)
 inner : ¬ k.level = 0 → b.rows = k.rows ∧ b.msgs = k.msgs ++ T ∧ (Zx k.msgs ≤ c.bud → Zx b.msgs ≤ c.bud)
 seen : b.seen = (T.getLast?.getD Msg.zero).stamp
 take : ∃ n, 0 < n ∧ n ≤ (Zd p.pivots p.msgs i).length ∧ T = (Zd p.pivots p.msgs i).take n
theorem Zp3 (c : Cfg) (p k : Nd) (i : Int) : (ZU c.leaf c.bud p k i = (p, k, 0)) ∨ (KidOf p k i ∧ ∃ T, Poured c p k i (ZU c.leaf c.bud p k i).1 (ZU c.leaf c.bud p k i).2.1 T ∧ (ZU c.leaf c.bud p k i).2.2 = T.length) := by
 by_cases h : ZO c.leaf c.bud p k i = 0
 ·left; unfold ZU; rw [if_pos h]
 ·right
  have hk : KidOf p k i := by
   unfold ZO at h
   by_cases hk : KidOf p k i
   ·exact hk
   ·rw [if_neg hk] at h; exact absurd rfl h
  have hc : ZO c.leaf c.bud p k i = (Zq c.leaf c.bud k (Zd p.pivots p.msgs i)).2 := if_pos hk
  have hle := ZiY c.leaf c.bud k (Zd p.pivots p.msgs i)
  rw [← hc] at hle
  refine ⟨hk, (Zd p.pivots p.msgs i).take (ZO c.leaf c.bud p k i), ?_, by unfold ZU; rw [if_neg h, List.length_take]; show ZO c.leaf c.bud p k i = _; omega⟩
  unfold ZU
  rw [if_neg h]
  refine ⟨by rw [List.length_take]; omega, rfl, ?_, fun h0 => ?_, fun h0 => ?_, rfl, _, om9, hle, rfl⟩
  ·dsimp only
   unfold Zq
   split <;> rfl
  ·have hm : Zq c.leaf c.bud k (Zd p.pivots p.msgs i) = ({ k with rows := (Yb c.leaf k.rows (Zd p.pivots p.msgs i)).1 }, (Yb c.leaf k.rows (Zd p.pivots p.msgs i)).2) := if_pos h0
   rw [hc, hm]
   dsimp only
   refine ⟨rfl, Zht _ _ _, fun h1 h2 hl => ?_⟩
   have := ZeD c.leaf (Zd p.pivots p.msgs i) k.rows h1 h2
   omega
  ·have hm : Zq c.leaf c.bud k (Zd p.pivots p.msgs i) = ({ k with msgs := k.msgs ++ (Zd p.pivots p.msgs i).take (Xd c.bud k.msgs (Zd p.pivots p.msgs i)) }, Xd c.bud k.msgs (Zd p.pivots p.msgs i)) := if_neg h0
   rw [hc, hm]
   exact ⟨rfl, rfl, ZiZ _ _ _⟩
theorem Zi3 {P : List Str} {l : List Msg} {i : Int} {m : Msg} (h : m ∈ Zd P l i) : ∃ a ∈ l, (a.clip (Zf P i)).2 = true ∧ (a.clip (Zf P i)).1 = m := by
 obtain ⟨a, ha, h2⟩ := List.mem_filterMap.1 h
 unfold XH at h2
 split at h2
 ·rename_i h3
  cases h2
  refine ⟨a, ?_, h3.2, rfl⟩
  unfold Zj at ha
  split at ha
  ·exact ha
  ·split at ha
   ·exact List.mem_of_mem_take ha
   ·exact List.mem_of_mem_take ha
 ·cases h2
theorem ZbH {c : Cfg} {n : Nd} (h : n.R c.fan c.leaf c.bud) : ∀ k ∈ n.pivots, k.b.size ≤ 16 := fun k hk => by
 have h4 := h.2.2.2
 by_cases h0 : n.level = 0
 ·rw [if_pos h0] at h4
  have := h4.1
  have e : n.pivots = [] := List.eq_nil_of_length_eq_zero om9
  rw [e] at hk; cases hk
 ·rw [if_neg h0] at h4
  obtain ⟨j, hj, rfl⟩ := List.getElem_of_mem hk
  exact (h4.2.2.2.2.2.1 j hj).2.1
theorem Zp4 {c : Cfg} {n : Nd} (h : n.R c.fan c.leaf c.bud) : n.high.b.size ≤ 16 := by
 cases ht : n.top
 ·exact (h.2.2.1 ht).2.1
 ·rw [(h.2.1 ht).1]; decide
theorem Zp5 {c : Cfg} {n : Nd} (h : n.R c.fan c.leaf c.bud) : n.spanN.lo.b.size ≤ 16 ∧ n.spanN.hi.b.size ≤ 16 := by
 have h1 := Zp4 h
 unfold Nd.spanN
 split
 ·exact ⟨by decide, by decide⟩
 ·unfold Span.norm
  split
  ·exact ⟨by decide, by decide⟩
  ·split
   ·exact ⟨by show Str.nil.b.size ≤ 16; decide, by show Str.nil.b.size ≤ 16; decide⟩
   ·exact ⟨by show Str.nil.b.size ≤ 16; decide, h1⟩
theorem Zdo (p : Nd) (i : Int) (k : Str) : (YH p i).has k = (p.has k && (Zf p.pivots i).has k) := by unfold YH; rw [ZI, ZpZ]
structure Takes (c : Cfg) (p k : Nd) (i : Int) (T : List Msg) : Prop where
 R : ∀ m ∈ T, m.R
 up : ∀ m ∈ T, k.seen < m.stamp
 sp : ∀ m ∈ T, ∀ q, m.span.has q = true → (YH p i).has q = true
 rst : Rst T
 late : ∀ m ∈ ZJ p.pivots i T p.msgs, (m.span.meet (YH p i)).empty = false → ∀ x ∈ T, x.stamp < m.stamp
 clip : Zc (YH p i) p.msgs = T ++ Zc (YH p i) (ZJ p.pivots i T p.msgs)
theorem Zcy {c : Cfg} {p k : Nd} {i : Int} {a b : Nd} {T : List Msg} (h : MayP c p k i) (hp : Poured c p k i a b T) : Takes c p k i T := by
 obtain ⟨⟨hpR, hkR, hk⟩, hsp, hst⟩ := h
 obtain ⟨k1, k2, k3, k4⟩ := hk
 have hin : p.innerR c.fan c.bud := by have := hpR.2.2.2; rwa [if_neg om9] at this
 obtain ⟨j, rfl⟩ : ∃ j : Nat, i = j := ⟨i.toNat, om9⟩
 obtain ⟨hr1, hr2⟩ := YR hin.2.1
 have hj : j ≤ p.pivots.length := om9
 have hm := hin.2.2.1
 have hmR := (MsgsR.iff.1 hm).1
 obtain ⟨n, n1, n2, rfl⟩ := hp.take
 have mv := ZiW (P := p.pivots) hr1 hj hm n
 have hs : ∀ q, (YH p j).has q = true → (Zf p.pivots j).has q = true := fun q hq => by rw [Zdo, Bool.and_eq_true] at hq; exact hq.2
 have hfit : ∀ m ∈ p.msgs, ∀ q, m.span.has q = true → p.has q = true := fun m hm' => by
  obtain ⟨x, hx, rfl⟩ := List.getElem_of_mem hm'
  exact (Zdn (hmR _ hm')).1 (hin.2.2.2.2.2.2 x hx).2
 have hcl := mv.clips_in hr1 hj hm hs fun m hm' q h1 h2 => by rw [Zdo, hfit m hm' q h1, h2]; rfl
 have hmem : ∀ m ∈ (Zd p.pivots p.msgs (j : Int)).take n, ∃ a ∈ p.msgs, (a.clip (YH p j)).2 = true ∧ (a.clip (YH p j)).1 = m := fun m hm' => Zah (by rw [hcl]; exact List.mem_append_left _ hm')
 have hsz := ZdO (Zp5 hpR) (ZcG (p := p.pivots) (i := (j : Int)) (ZbH hpR))
 have hrst := Ju (s := YH p j) (Zdl hm)
 rw [hcl] at hrst
 refine ⟨fun m h => ?_, fun m h => ?_, fun m h q hq => ?_, (ZaH hrst).1, fun m h he x hx => ?_, hcl⟩
 ·obtain ⟨a, ha, h1, rfl⟩ := hmem m h
  exact ZaU (hmR a ha) hsz.1 hsz.2 h1
 ·obtain ⟨a, ha, h1, rfl⟩ := hmem m h
  rw [X7 h1]
  obtain ⟨x, hx, rfl⟩ := List.getElem_of_mem ha
  exact hst x hx (Xh h1).1
 ·obtain ⟨a, ha, h1, rfl⟩ := hmem m h
  exact (Zcx (hmR a ha) h1 hq).2
 ·have h1 : (m.clip (YH p j)).2 = true := by
   cases h2 : (m.clip (YH p j)).2
   ·rw [Jt.1 h2] at he; cases he
   ·rfl
  have := (ZaH hrst).2.2 x hx (m.clip (YH p j)).1 (List.mem_filterMap.2 ⟨m, h, if_pos h1⟩)
  rwa [X7 h1] at this
theorem Zdp {T : List Msg} (hr : Rst T) (hn : 0 < T.length) : (∃ x ∈ T, T.getLast?.getD Msg.zero = x) ∧ ∀ y ∈ T, y.stamp ≤ (T.getLast?.getD Msg.zero).stamp := by
 obtain ⟨x, h1, h2, h3⟩ := Zp2 (l := T) hn (Nat.le_refl _)
 rw [List.take_length] at h1 h2 h3
 rw [h2]
 exact ⟨⟨x, h1, rfl⟩, fun y hy => h3 y hy hr⟩
theorem Zi4 {X : Span} {l : List Pair} {T : List Msg} (hl : PairsR l) (hT : ∀ m ∈ T, m.R) (h1 : ∀ p ∈ l, X.has p.key = true) (h2 : ∀ m ∈ T, ∀ q, m.span.has q = true → X.has q = true) : ∀ p ∈ Zr l T, X.has p.key = true := by
 induction T generalizing l with
 | nil => exact h1
 | cons m T ih =>
  have hR := hT m (by simp)
  have hR' := hR
  unfold Msg.R at hR'
  refine ih (l := takeN l m) (hl.takeM hR'.1.2.1 hR'.1.2.2.1) (fun x hx => hT x (List.mem_cons_of_mem _ hx)) (fun p hp => ?_) fun x hx => h2 x (List.mem_cons_of_mem _ hx)
  unfold takeN at hp
  split at hp
  ·exact h1 p ((List.mem_filter.1 hp).1)
  ·rw [ZaY, List.mem_append, List.mem_append] at hp
   rcases hp with (hp | hp) | hp
   ·exact h1 p ((List.mem_filter.1 hp).1)
   ·unfold XT at hp
    split at hp
    ·rw [List.mem_singleton] at hp
     subst hp
     exact h2 m (by simp) _ (Msg.has_key hR)
    ·cases hp
   ·exact h1 p ((List.mem_filter.1 hp).1)
theorem Zfm {c : Cfg} {p k : Nd} {i : Int} {a b : Nd} {T : List Msg} (h : MayP c p k i) (hp : Poured c p k i a b T) : MayP c a b i ∧ k.seen < b.seen := by
 have tk := Zcy h hp
 obtain ⟨⟨hpR, hkR, hk⟩, hsp, hst⟩ := h
 obtain ⟨⟨xl, hxl, exl⟩, hlast⟩ := Zdp tk.rst hp.ne
 have hseen : k.seen < b.seen := by rw [hp.seen, exl]; exact tk.up xl hxl
 have hin : p.innerR c.fan c.bud := by have h9 := hk.1; have := hpR.2.2.2; rwa [if_neg om9] at this
 have hmR := (MsgsR.iff.1 hin.2.2.1).1
 have aR : a.R c.fan c.leaf c.bud := by
  rw [hp.ea]
  refine ⟨hpR.1, hpR.2.1, hpR.2.2.1, ?_⟩
  rw [if_neg (show ¬ p.level = 0 by have := hk.1; omega)]
  obtain ⟨h1, h2, h3, h4, h5, h6, h7⟩ := hin
  refine ⟨h1, h2, MsgsR.iff.2 ⟨fun m hm => (Zfl (ZbH hpR) hmR hm).1, Zp1 (Zdl h3)⟩, Int.le_trans (Zi2 _ _ _ _) h4, h5, h6, fun j hj => ?_⟩
  have hm := List.getElem_mem hj
  obtain ⟨r1, m, hm2, r2, r3⟩ := Zfl (ZbH hpR) hmR hm
  obtain ⟨x, hx, rfl⟩ := List.getElem_of_mem hm2
  have f := h7 x hx
  exact ⟨by show _ ≤ p.seen; rw [r2]; exact f.1, (Zdn (n := { p with msgs := ZJ p.pivots i T p.msgs }) r1).2 fun q hq => (Zdn (hmR _ hm2)).1 f.2 q (r3 q hq)⟩
 have hsame : YH a i = YH p i := by rw [hp.ea]; rfl
 have hb : b.top = k.top ∧ b.high = k.high ∧ b.level = k.level ∧ b.slot = k.slot ∧ b.right = k.right ∧ b.kids = k.kids ∧ b.pivots = k.pivots := by rw [hp.eb]; exact ⟨rfl, rfl, rfl, rfl, rfl, rfl, rfl⟩
 obtain ⟨b1, b2, b3, b4, b5, b6, b7⟩ := hb
 have kin : ∀ q, (YH p i).has q = true → k.has q = true := fun q hq => by
  have := (Yi.1 hq).2
  unfold Nd.has
  rw [hsp.1, hsp.2]
  rcases this with h | h <;> simp [h]
 have bR : b.R c.fan c.leaf c.bud := by
  refine ⟨by rw [b3, b4]; have := hkR.1; omega, by rw [b1, b2, b5]; exact hkR.2.1, by rw [b1, b2, b5]; exact hkR.2.2.1, ?_⟩
  have h4 := hkR.2.2.2
  rw [b3]
  by_cases h0 : k.level = 0
  ·rw [if_pos h0] at h4 ⊢
   obtain ⟨e1, e2, e3⟩ := hp.leaf h0
   obtain ⟨l1, l2, l3, l4⟩ := h4
   have hrows : ∀ p ∈ b.rows, (Span.mk Str.nil k.high k.top).has p.key = true := by
    rw [e2]
    refine Zi4 l3 tk.R (fun x hx => ?_) fun m hm q hq => ?_
    ·obtain ⟨j, hj, rfl⟩ := List.getElem_of_mem hx
     have := l4 j hj
     unfold Nd.has at this
     unfold Span.has
     simp [Str.nil_le] at this ⊢
     exact this
    ·have := kin q (tk.sp m hm q hq)
     unfold Nd.has at this
     unfold Span.has
     simp [Str.nil_le] at this ⊢
     exact this
   refine ⟨by rw [b7, b6, e1]; exact l1, e3 l3 (fun m hm => ?_) l2, by rw [e2]; exact PairsR.fold l3 fun m hm => Zhu (tk.R m hm), fun j hj => ?_⟩
   ·obtain ⟨x, hx, h2, rfl⟩ := Zi3 hm
    have hr := ZcG (p := p.pivots) (i := i) (ZbH hpR)
    exact ZaU (hmR x hx) hr.1 hr.2 h2
   ·have := hrows _ (List.getElem_mem hj)
    unfold Span.has at this
    unfold Nd.has
    rw [b1, b2]
    simp [Str.nil_le] at this ⊢
    exact this
  ·rw [if_neg h0] at h4 ⊢
   obtain ⟨e1, e2, e3⟩ := hp.inner h0
   obtain ⟨l1, l2, l3, l4, l5, l6, l7⟩ := h4
   have hkm := (MsgsR.iff.1 l3).1
   have hold : ∀ m ∈ k.msgs, m.stamp ≤ k.seen := fun m hm => by
    obtain ⟨x, hx, rfl⟩ := List.getElem_of_mem hm
    exact (l7 x hx).1
   refine ⟨by rw [e1, b6]; exact l1, by rw [b6, b7]; exact l2, ?_, e3 l4, by rw [b6]; exact l5, fun j hj => ?_, fun j hj => ?_⟩
   ·rw [e2]
    refine MsgsR.iff.2 ⟨fun m hm => ?_, List.pairwise_append.2 ⟨Zdl l3, tk.rst, fun x hx y hy => ?_⟩⟩
    ·rcases List.mem_append.1 hm with hm | hm
     ·exact hkm m hm
     ·exact tk.R m hm
    ·have := hold x hx
     have := tk.up y hy
     omega
   ·have hh : b.has b.pivots[j] = k.has b.pivots[j] := by unfold Nd.has; rw [b1, b2]
    obtain ⟨q1, q2, q3⟩ := l6 j (by rw [← b7]; exact hj)
    have eb : b.pivots[j] = k.pivots[j]'(by rw [← b7]; exact hj) := by simp only [b7]
    exact ⟨by rw [eb]; exact q1, by rw [eb]; exact q2, by rw [hh, eb]; exact q3⟩
   ·have hm := List.getElem_mem hj
    have hbm : ∀ m ∈ b.msgs, b.fits m := fun m hm => by
     rw [e2] at hm
     rcases List.mem_append.1 hm with hm | hm
     ·obtain ⟨x, hx, rfl⟩ := List.getElem_of_mem hm
      have f := l7 x hx
      exact ⟨by have := f.1; omega, by rw [b1, b2]; exact f.2⟩
     ·refine ⟨by rw [hp.seen]; exact hlast m hm, ?_⟩
      rw [b1, b2]
      exact (Zdn (n := k) (tk.R m hm)).2 fun q hq => kin q (tk.sp m hm q hq)
    exact hbm _ hm
 refine ⟨⟨⟨aR, bR, by rw [hp.ea]; unfold KidOf; rw [b3]; exact hk⟩, ⟨by rw [hsame, b1]; exact hsp.1, by rw [hsame, b2]; exact hsp.2⟩, fun j hj he => ?_⟩, hseen⟩
 rw [hsame] at he
 have e : a.msgs = ZJ p.pivots i T p.msgs := by rw [hp.ea]
 have hm : a.msgs[j] ∈ ZJ p.pivots i T p.msgs := by rw [← e]; exact List.getElem_mem hj
 rw [hp.seen, exl]
 exact tk.late _ hm he xl hxl
theorem Zdq {l : List Msg} {m : Msg} (h : m ∈ Zj l) : m ∈ l := by
 unfold Zj at h
 split at h
 ·exact h
 ·split at h
  ·exact List.mem_of_mem_take h
  ·exact List.mem_of_mem_take h
theorem Zfn (l : List Msg) : (Zj l).length ≤ l.length := by
 unfold Zj
 split
 ·exact Nat.le_refl _
 ·split
  ·rw [List.length_take]; omega
  ·rw [List.length_take]; omega
theorem Zp6 {l : List Msg} (h : Yw isW l = -1) : l = Zj l := by unfold Zj; rw [if_pos h]
theorem Zp7 {l : List Msg} (h : ¬ Yw isW l = -1) (h2 : Yw isW l = 0) : (l.take 1).drop 0 = Zj l := by unfold Zj; rw [if_neg h, if_pos h2, List.drop_zero]
theorem Zp8 {l : List Msg} (h : ¬ Yw isW l = -1) (h2 : ¬ Yw isW l = 0) : (l.take (Yw isW l).toNat).drop 0 = Zj l := by unfold Zj; rw [if_neg h, if_neg h2, List.drop_zero]
theorem Zi5 {α β : Type} {f : α → Option β} {l : List α} {k : Nat} (hk : k < l.length) : (l.take (k + 1)).filterMap f = (l.take k).filterMap f ++ (f l[k]).toList := by
 rw [List.take_succ_eq_append_getElem hk, List.filterMap_append]
 cases h : f l[k] <;> simp [h]
theorem Zi6 {α β : Type} {f : α → Option β} {l : List α} {k : Nat} {b : β} (hk : k < l.length) (h : f l[k] = some b) : (l.take (k + 1)).filterMap f = (l.take k).filterMap f ++ [b] := by rw [Zi5 hk, h]; rfl
theorem Zi7 {α β : Type} {f : α → Option β} {l : List α} {k : Nat} (hk : k < l.length) (h : f l[k] = none) : (l.take (k + 1)).filterMap f = (l.take k).filterMap f := by rw [Zi5 hk, h]; simp
theorem Zi8 {α β : Type} (f : α → Option β) (l : List α) (k : Nat) : ((l.take k).filterMap f).length ≤ k := by
 have := List.length_filterMap_le f (l.take k)
 rw [List.length_take] at this
 omega
theorem Zp9 {P : List Str} {i : Int} {F : List Msg} {k : Nat} (hk : k < F.length) (h1 : ((Ze P F[k].key : Nat) : Int) = i) (h2 : (F[k].clip (Zf P i)).2 = true) : (F.take (k + 1)).filterMap (XH P i) = (F.take k).filterMap (XH P i) ++ [(F[k].clip (Zf P i)).1] := Zi6 hk (if_pos ⟨h1, h2⟩)
theorem Zi9 {P : List Str} {i : Int} {F : List Msg} {k : Nat} (hk : k < F.length) (h : ¬ (((Ze P F[k].key : Nat) : Int) = i ∧ (F[k].clip (Zf P i)).2 = true)) : (F.take (k + 1)).filterMap (XH P i) = (F.take k).filterMap (XH P i) := Zi7 hk (if_neg h)
def JF (bud : Int) (ms : List Msg) (m : Msg) : List Msg × Bool := if Yj bud ms m = true then (ms ++ [m], true) else ([], false)
theorem ZbI {bud : Int} {ms : List Msg} {m : Msg} (h : Yj bud ms m = true) : JF bud ms m = (ms ++ [m], true) := if_pos h
theorem Zja {bud : Int} {ms : List Msg} {m : Msg} (h : Yj bud ms m = false) : JF bud ms m = ([], false) := if_neg (by simp [h])
theorem ZbJ {bud : Int} {ms : List Msg} {m : Msg} : Yj bud ms m = true ↔ m.size ≤ bud - Zx ms ∧ ∀ h : 0 < ms.length, (ms[ms.length - 1]'om9).stamp < m.stamp := by
 unfold Yj
 rw [Bool.and_eq_true, decide_eq_true_eq]
 refine and_congr Iff.rfl ?_
 cases h : ms.getLast? with
 | none =>
  rw [List.getLast?_eq_none_iff] at h
  subst h
  simp
 | some x =>
  rw [List.getLast?_eq_getElem?] at h
  obtain ⟨h1, h2⟩ := List.getElem?_eq_some_iff.1 h
  simp only [Option.all_some, decide_eq_true_eq]
  exact ⟨fun h3 _ => by rw [h2]; exact h3, fun h3 => by have := h3 om9; rw [h2] at this; exact this⟩
theorem Zqa {bud : Int} {ms : List Msg} {m : Msg} (h : ¬ m.size ≤ bud - Zx ms) : Yj bud ms m = false := by
 cases hr : Yj bud ms m
 ·rfl
 ·exact absurd (ZbJ.1 hr).1 h
theorem Zqb {bud : Int} {ms : List Msg} {m : Msg} (h : 0 < ms.length) (h2 : m.stamp ≤ (ms[ms.length - 1]'om9).stamp) : Yj bud ms m = false := by
 cases hr : Yj bud ms m
 ·rfl
 ·have := (ZbJ.1 hr).2 h; omega
theorem Zqc {bud : Int} {ms l : List Msg} {k : Nat} (hk : k < l.length) (h : Yj bud ms l[k] = false) : Xd bud ms (l.drop k) = 0 := by
 rw [List.drop_eq_getElem_cons hk]
 unfold Xd
 rw [if_neg (by simp [h])]
theorem Zqd {bud : Int} {ms l : List Msg} {k : Nat} (hk : k < l.length) (h : Yj bud ms l[k] = true) : Xd bud ms (l.drop k) = Xd bud (ms ++ [l[k]]) (l.drop (k + 1)) + 1 := by
 rw [List.drop_eq_getElem_cons hk]
 conv => lhs; unfold Xd
 rw [if_pos h]
def AddsAt (bud : Int) (ms l : List Msg) (k : Nat) : Prop := Xd bud ms l = k + Xd bud (ms ++ l.take k) (l.drop k)
theorem AddsAt.zero (bud : Int) (ms l : List Msg) : AddsAt bud ms l 0 := by unfold AddsAt; simp
theorem AddsAt.succ {bud : Int} {ms l : List Msg} {k : Nat} (h : AddsAt bud ms l k) (hk : k < l.length) (hr : Yj bud (ms ++ l.take k) l[k] = true) : AddsAt bud ms l (k + 1) := by
 unfold AddsAt at h ⊢
 rw [h, Zqd hk hr, List.take_succ_eq_append_getElem hk, List.append_assoc]
 omega
theorem AddsAt.stop {bud : Int} {ms l : List Msg} {k : Nat} (h : AddsAt bud ms l k) (hk : k < l.length) (hr : Yj bud (ms ++ l.take k) l[k] = false) : Xd bud ms l = k := by
 unfold AddsAt at h
 rw [h, Zqc hk hr]
 omega
theorem AddsAt.all {bud : Int} {ms l : List Msg} {k : Nat} (h : AddsAt bud ms l k) (hk : l.length ≤ k) : Xd bud ms l = k := by
 unfold AddsAt at h
 rw [h, List.drop_eq_nil_of_le hk]
 rfl
theorem Zfo {leaf bud : Int} {k : Nd} {l : List Msg} (h : k.level = 0) : Zq leaf bud k l = ({ k with rows := (Yb leaf k.rows l).1 }, (Yb leaf k.rows l).2) := if_pos h
theorem Zfp {leaf bud : Int} {k : Nd} {l : List Msg} {j : Nat} (h : ¬ k.level = 0) (hj : Xd bud k.msgs l = j) : Zq leaf bud k l = ({ k with msgs := k.msgs ++ l.take j }, j) := by unfold Zq; rw [if_neg h, hj]
theorem Za3 {leaf bud : Int} {p k : Nd} {i : Int} (h : KidOf p k i) : ZO leaf bud p k i = (Zq leaf bud k (Zd p.pivots p.msgs i)).2 := if_pos h
theorem Zjb {leaf bud : Int} {p k : Nd} {i : Int} (h : ¬ KidOf p k i) : ZO leaf bud p k i = 0 := if_neg h
theorem Zdr : ∀ {l : List Msg}, (∀ m ∈ l, m.key.b.size ≤ 16 ∧ m.val.b.size ≤ 16) → 0 ≤ Zx l ∧ Zx l ≤ 36 * l.length
 | [], _ => ⟨by simp [Zx], by simp [Zx]⟩
 | m :: l, h => by
  have ih := Zdr (l := l) fun x hx => h x (List.mem_cons_of_mem _ hx)
  have := ZcX (h m (by simp))
  have e : Zx (m :: l) = m.size + Zx l := by simp [Zx]
  rw [e]
  simp only [List.length_cons]
  omega
def ZbK (T : List Msg) : List (Int × Bool) := T.foldl (fun m x => Ji m x.stamp true) []
theorem Zqe {T : List Msg} {k : Nat} (hk : k < T.length) : ZbK (T.take (k + 1)) = Ji (ZbK (T.take k)) T[k].stamp true := by
 unfold ZbK
 rw [List.take_succ_eq_append_getElem hk, List.foldl_append]; rfl
theorem Zjc (s : Int) : ∀ (T : List Msg) (m : List (Int × Bool)), (Xy (T.foldl (fun m x => Ji m x.stamp true) m) s).getD false = (decide (s ∈ T.map Msg.stamp) || (Xy m s).getD false)
 | [], m => by simp
 | x :: T, m => by
  rw [List.foldl_cons, Zjc s T, Zku]
  by_cases h : s = x.stamp
  ·rw [if_pos h]
   simp [h]
  ·rw [if_neg h]
   simp [h]
theorem Zjd (T : List Msg) (s : Int) : (Xy (ZbK T) s).getD false = decide (s ∈ T.map Msg.stamp) := by
 unfold ZbK
 rw [Zjc]
 simp [Xy]
theorem Zfq (bud : Int) (ms : List Msg) (m : Msg) : (JF bud ms m).2 = Yj bud ms m := by
 unfold JF
 cases h : Yj bud ms m
 ·rw [if_neg (by simp)]
 ·rw [if_pos rfl]
theorem Zfr (leaf bud : Int) (k : Nd) (L : List Msg) : (L.take (Zq leaf bud k L).2).length = (Zq leaf bud k L).2 := by
 have := ZiY leaf bud k L
 rw [List.length_take]; omega
theorem Zqf {leaf bud : Int} {p k : Nd} {i : Int} (h : ¬ KidOf p k i) : ZU leaf bud p k i = (p, k, 0) := by unfold ZU; rw [if_pos (Zjb h)]
theorem Zqg {leaf bud : Int} {p k : Nd} {i : Int} (hk : KidOf p k i) (h : ((Zd p.pivots p.msgs i).take (Zq leaf bud k (Zd p.pivots p.msgs i)).2).length = 0) : ZU leaf bud p k i = (p, k, 0) := by
 rw [Zfr] at h
 unfold ZU; rw [if_pos ((Za3 hk).trans h)]
theorem Zqh {T : List Msg} (h : 0 < T.length) : T.getLast?.getD Msg.zero = T[T.length - 1]'om9 := by
 rw [List.getLast?_eq_getElem?, List.getElem?_eq_getElem om9]; rfl
theorem Zqi {leaf bud : Int} {p k : Nd} {i : Int} {T : List Msg} (hk : KidOf p k i) (hT : T = (Zd p.pivots p.msgs i).take (Zq leaf bud k (Zd p.pivots p.msgs i)).2) (h : 0 < T.length) :
  ZU leaf bud p k i = ({ p with msgs := ZJ p.pivots i T p.msgs }, { (Zq leaf bud k (Zd p.pivots p.msgs i)).1 with seen := (T[T.length - 1]'om9).stamp }, T.length) := by
 have e : T.length = ZO leaf bud p k i := by rw [hT, Zfr, Za3 hk]
 unfold ZU
 rw [if_neg om9, Za3 hk, ← hT, Zqh h, ← Za3 hk, ← e]
theorem Zqj {P : List Str} {i : Int} {T : List Msg} {m : Msg} (h : ¬ m.stamp ∈ T.map Msg.stamp) : Y3 P i T m = some m := if_neg h
theorem Zje {P : List Str} {i : Int} {T : List Msg} {m : Msg} (h : m.stamp ∈ T.map Msg.stamp) (h4 : m.kind = 4) (hw : (ZD m (Zf P i)).2 = true) : Y3 P i T m = some (ZD m (Zf P i)).1 := (if_pos h).trans (if_pos ⟨h4, hw⟩)
theorem Zfs {P : List Str} {i : Int} {T : List Msg} {m : Msg} (h : m.stamp ∈ T.map Msg.stamp) (hw : ¬ (m.kind = 4 ∧ (ZD m (Zf P i)).2 = true)) : Y3 P i T m = none := (if_pos h).trans (if_neg hw)
theorem Zft {P : List Str} {i : Int} {T : List Msg} {l : List Msg} {k : Nat} {x : Msg} {n : Nd} (hk : k < l.length) (h : Y3 P i T l[k] = some x) : ({ n with msgs := ZJ P i T (l.take k) ++ [x] } : Nd) = { n with msgs := ZJ P i T (l.take (k + 1)) } := by unfold ZJ; rw [Zi6 hk h]
theorem Zfu {P : List Str} {i : Int} {T : List Msg} {l : List Msg} {k : Nat} {n : Nd} (hk : k < l.length) (h : Y3 P i T l[k] = none) : ({ n with msgs := ZJ P i T (l.take k) } : Nd) = { n with msgs := ZJ P i T (l.take (k + 1)) } := by unfold ZJ; rw [Zi7 hk h]
theorem Zjf {m : Msg} {s : Span} (h : m.Ok) : (ZD m s).1.Ok := by
 unfold ZD
 split
 ·exact ⟨⟨by decide, by decide⟩, ⟨by decide, by decide⟩⟩
 ·exact Zen h
theorem Zcz {P : List Str} {l : List Msg} {i : Int} (hP : ∀ k ∈ P, k.b.size ≤ 16) (hl : ∀ m ∈ l, m.R) : ∀ m ∈ Zd P l i, m.R := fun m hm => by
 obtain ⟨a, ha, h2, rfl⟩ := Zi3 hm
 have hr := ZcG (p := P) (i := i) (n := 16) hP
 exact ZaU (hl a ha) hr.1 hr.2 h2
theorem Zjg (P : List Str) (l : List Msg) (i : Int) : (Zd P l i).length ≤ l.length := Nat.le_trans (List.length_filterMap_le _ _) (Zfn l)
theorem Zqk (P : List Str) (i : Int) (T l : List Msg) (k : Nat) : (ZJ P i T (l.take k)).length ≤ k := Zi8 _ _ _
def NmR (TN tm : TypeId) (b : Nat) (G : GH) (n : Nd) (M : MH) : Prop :=
 ∃ (pa : Option Addr) (pc : Nat) (ka : Option Addr) (kc : Nat) (vm : Value) (ra : Option Addr) (rc : Nat) (Mm : MH),
  M = (b, .cells (List.toArray [.int .i64 n.slot, .int .i64 n.level, .slice pa n.pivots.length pc, .slice ka n.kids.length kc, .string n.high.b, .bool n.top, .int .i64 n.right, .int .i64 n.seen, vm, .slice ra n.rows.length rc]) TN (0, 0)) :: Mm ∧
  SlR Yf G (.slice pa n.pivots.length pc) n.pivots ∧ SlR ZA G (.slice ka n.kids.length kc) n.kids ∧ OwnR Zs tm G vm n.msgs Mm ∧ SlR Zl G (.slice ra n.rows.length rc) n.rows ∧ n.Ok
theorem NmR.cast {TN tm : TypeId} {b : Nat} {G : GH} {n n' : Nd} {M : MH} (h : NmR TN tm b G n M) (e : n = n') : NmR TN tm b G n' M := e ▸ h
end Go.Fw
namespace Go.Proofs.YtbbemibbmbmamaaGreat
open Go Go.Fw Go.RowKit
attribute [local irreducible] Ok W WC
theorem Zds {G : GH} (ms : Int) (mk : Int) (mkey : Str) (mhi : Str) (mo : Bool) (mv : Str) :
    Fc Tryz.prog 220 [.agg #[iV ms, iV mk, sV mkey.b, sV mhi.b, .bool mo, sV mv.b]] G [] (fun v _ _ => v = iV (Msg.size (⟨ms, mk, mkey, mhi, mo, mv⟩ : Msg))) := by
 have h1 := mkey.le
 have h2 := mv.le
 refine Fc.go [.tmp 2] Tryz.func220 Tryz.ntmps220 rfl (fun w0 => (g9 2 ?_))
 refine W.box (L := [iV _, iV _, sV _, sV _, .bool _, sV _]) rfl rfl (fun b1 => (g9 11 ?_))
 refine WC.cd (fun h5 p5 => ?_) (fun h5 p5 => ?_)
 ·refine g9 8 ?_
  refine congrArg (Value.int .i64) ?_
  rw [Msg.size, if_pos p5]
 refine g9 17 ?_
 refine congrArg (Value.int .i64) ?_
 rw [Msg.size, if_neg p5]

theorem Zql {G : GH} {v_l : Value} {l : List Msg} (h_l : SlR Zs G v_l l) (hs : ∀ m ∈ l, m.key.b.size ≤ 16 ∧ m.val.b.size ≤ 16) :
    Fc Tryz.prog 242 [v_l] G [] (fun v _ _ => v = iV (Zx l)) := by
 obtain ⟨sa_l, sc_l, rfl⟩ := h_l.form
 have hl := h_l.len47
 refine Fc.go [.tmp 2] Tryz.func242 Tryz.ntmps242 rfl (fun w0 => (g9 19 ?_))
 refine WC.loop (X := Nat) (fun k => [(3, iV (Zx (l.take k))), (8, nt9 k), (6, lV sa_l l.length sc_l), (7, nt9 ((l).length))]) (fun k _ Ml => Ml = [] ∧ k ≤ l.length ∧ 0 ≤ Zx (l.take k) ∧ Zx (l.take k) ≤ 36 * k) (fun k => l.length - k) 0 hs9 ?_ ?_
 ·exact ⟨rfl, om9, by simp [Zx], by simp [Zx]⟩
 rintro k gG2 G2 _ hG2 ⟨rfl, hk, h0, h36⟩
 refine g9 6 ?_
 refine WC.cd (fun h9 p9 => ?_) (fun h9 p9 => ?_)
 ·have hz := Zmz (l := l) (k := k) om9
  have hz2 := ZcX (hs l[k] (List.getElem_mem _))
  have he : Msg.size ⟨l[k].stamp, l[k].kind, l[k].key, l[k].hi, l[k].opn, l[k].val⟩ = l[k].size := rfl
  refine g9 6 ?_
  refine (h_l.mono hG2).a2 (i := k) om9 (fun he3 hm4 => (g9 2 ?_))
  refine W.alloc ZT (fun b8 => (g9 6 ?_))
  refine W.qcall (Zds _ _ _ _ _ _) rfl (g9 8 ?_)
  refine W.sub (sr9.cons _) (g9 2 ?_)
  exact ⟨Le.rfl, k + 1, ⟨(iv om9), eqv, eqv, eqv, trivial⟩, ⟨rfl, om9, om9, om9⟩, om9⟩
 refine g9 13 ?_
 refine congrArg (Value.int .i64) ?_
 rw [List.take_of_length_le om9]

theorem Zqm {G : GH} {v_l : Value} {l : List Msg} (h_l : SlR Zs G v_l l) (ms : Int) (mk : Int) (mkey : Str) (mhi : Str) (mo : Bool) (mv : Str) (n : Int) (hs : ∀ m ∈ l, m.key.b.size ≤ 16 ∧ m.val.b.size ≤ 16) (hn : 0 ≤ n ∧ n ≤ 9223372036854775807) :
    Fc Tryz.prog 216 [v_l, .agg #[iV ms, iV mk, sV mkey.b, sV mhi.b, .bool mo, sV mv.b], iV n] G [] (fun v _ _ => v = .bool (decide (Msg.size (⟨ms, mk, mkey, mhi, mo, mv⟩ : Msg) ≤ n - Zx l))) := by
 obtain ⟨sa_l, sc_l, rfl⟩ := h_l.form
 have hl := h_l.len47
 have hz0 := Zdr hs
 refine Fc.go [.tmp 6] Tryz.func216 Tryz.ntmps216 rfl (fun w0 => (g9 2 ?_))
 refine W.box (L := [iV _, iV _, sV _, sV _, .bool _, sV _]) rfl rfl (fun b9 => (g9 6 ?_))
 refine W.qcall (Zds _ _ _ _ _ _) rfl (g9 2 ?_)
 refine W.qcall (Zql h_l (by assumption)) rfl (g9 7 ?_)
 rfl

theorem Zqn {G : GH} (ms : Int) (mk : Int) (mkey : Str) (mhi : Str) (mo : Bool) (mv : Str) :
    Fc Tryz.prog 245 [.agg #[iV ms, iV mk, sV mkey.b, sV mhi.b, .bool mo, sV mv.b]] G [] (fun v _ _ => v = .bool (decide (mk = 4))) := by
 refine Fc.go [.tmp 2] Tryz.func245 Tryz.ntmps245 rfl (fun w0 => (g9 2 ?_))
 refine W.box (L := [iV _, iV _, sV _, sV _, .bool _, sV _]) rfl rfl (fun b10 => (g9 13 ?_))
 rfl

theorem Zqo {G : GH} {v_l : Value} {l : List Msg} (h_l : SlR Zs G v_l l) :
    Fc Tryz.prog 244 [v_l, .func (.func 245) #[] #[]] G [] (fun v _ _ => v = iV (Yw isW l)) := by
 obtain ⟨sa_l, sc_l, rfl⟩ := h_l.form
 have hl := h_l.len47
 refine Fc.go [.tmp 4] Tryz.func244 Tryz.ntmps244 rfl (fun w0 => (g9 14 ?_))
 refine WC.loop (X := Nat) (fun k => [(8, nt9 k), (0, lV sa_l l.length sc_l), (1, .func (.func 245) #[] #[]), (7, nt9 ((l).length))]) (fun k _ Ml => Ml = [] ∧ k ≤ l.length ∧ ∀ j (h : j < l.length), j < k → isW l[j] = false) (fun k => l.length - k) 0 hs9 ?_ ?_
 ·exact ⟨rfl, om9, fun j _ h => by omega⟩
 rintro k gG11 G11 _ hG11 ⟨rfl, hk, hj⟩
 refine g9 6 ?_
 refine WC.cd (fun h9 p9 => ?_) (fun h9 p9 => ?_)
 ·refine g9 15 ?_
  refine (h_l.mono hG11).a2 (i := k) om9 (fun he12 hm13 => (g9 2 ?_))
  refine W.qcallV (fst := []) (caps := []) rfl (Zqn _ _ _ _ _ _) rfl (g9 2 ?_)
  refine WC.cond rfl (fun h16 => ?_) (fun h16 => ?_)
  ·refine g9 13 ?_
   refine congrArg (Value.int .i64) ?_
   exact (Ze4 (q := isW) om9 h16 hj).symm
  refine g9 8 ?_
  exact ⟨Le.rfl, k + 1, hs9, ⟨rfl, om9, fun j h hji => by
      by_cases e2 : j = k
      · subst e2; exact h16
      · exact hj j h om9⟩, om9⟩
 refine g9 12 ?_
 refine congrArg (Value.int .i64) ?_
 exact (Ze5 (q := isW) (fun j h => hj j om9 om9)).symm

theorem Zjh {G : GH} {v_l : Value} {l : List Msg} (h_l : SlR Zs G v_l l) :
    Fc Tryz.prog 219 [v_l] G [] (fun v G' M' => M' = [] ∧ ∃ u0, v = u0 ∧ SlR Zs G' u0 (Zj l)) := by
 obtain ⟨sa_l, sc_l, rfl⟩ := h_l.form
 have hl := h_l.len47
 have hix := Ze6 isW l
 refine Fc.go [.tmp 2] Tryz.func219 Tryz.ntmps219 rfl (fun w0 => (g9 8 ?_))
 refine W.qcall (Zqo h_l) rfl (g9 16 ?_)
 refine WC.cd (fun h8 p8 => ?_) (fun h8 p8 => ?_)
 ·refine g9 3 ?_
  refine W.cS (JD h_l) rfl (fun sa_hv18 sc_hv18 G17 hG17 hv18 => (g9 7 ?_))
  refine ⟨rfl, _, rfl, ?_⟩
  · exact SlR.cast hv18 (Zp6 p8)
 refine g9 6 ?_
 refine WC.cd (fun h12 p12 => ?_) (fun h12 p12 => ?_)
 ·refine g9 9 ?_
  have hs24 := SlR.slice h_l (lo := 0) (hi := 1) om9 om9
  refine W.ok (Jw (0) (1) ZY Z3 h_l rfl rfl ⟨_, _, rfl, om9⟩ ⟨om9, om9⟩) (W.cS (JD hs24) rfl (fun sa_hv26 sc_hv26 G25 hG25 hv26 => (g9 5 ?_)))
  refine ⟨rfl, _, rfl, ?_⟩
  · exact SlR.cast hv26 (Zp7 p8 p12)
 refine g9 7 ?_
 have hs32 := SlR.slice h_l (lo := 0) (hi := (Yw isW l).toNat) om9 om9
 refine W.ok (Jw (0) ((Yw isW l).toNat) ZY Z3 h_l rfl rfl ⟨_, _, rfl, om9⟩ ⟨om9, om9⟩) (W.cS (JD hs32) rfl (fun sa_hv34 sc_hv34 G33 hG33 hv34 => (g9 5 ?_)))
 refine ⟨rfl, _, rfl, ?_⟩
 · exact SlR.cast hv34 (Zp8 p8 p12)

theorem Zji {G : GH} {v_P : Value} {P : List Str} (h_P : SlR Yf G v_P P) {v_l : Value} {l : List Msg} (h_l : SlR Zs G v_l l) (i : Int) (hks : ∀ m ∈ l, m.key.b.size < 140737488355328) (hr : ZX P = true) (hi : i64 i) :
    Fc Tryz.prog 246 [v_P, v_l, iV i] G [] (fun v G' M' => M' = [] ∧ ∃ u0, v = u0 ∧ SlR Zs G' u0 (Zd P l i)) := by
 obtain ⟨sa_P, sc_P, rfl⟩ := h_P.form
 obtain ⟨sa_l, sc_l, rfl⟩ := h_l.form
 have hl := h_l.len47
 have hlb : l.length * 72 ≤ 140737488355328 := h_l.bytes
 have hfl := Zfn l
 have hkf : ∀ m ∈ Zj l, m.key.b.size < 140737488355328 := fun m h => hks m (Zdq h)
 refine Fc.go [.tmp 6] Tryz.func246 Tryz.ntmps246 rfl (fun w0 => (g9 14 ?_))
 refine W.qcall (ZaF h_P _ hi) rfl (W.alloc ZL (fun b40 => (g9 7 ?_)))
 refine W.cS (Zjh h_l) rfl (fun sa_hv42 sc_hv42 G41 hG41 hv42 => (g9 5 ?_))
 refine WC.loop (X := (Nat) × Value × MH) (fun k => [(19, nt9 k.1), (8, pt9 b40), (0, lV sa_P P.length sc_P), (2, iV i), (17, lV sa_hv42 (Zj (l)).length sc_hv42), (18, nt9 ((Zj (l)).length)), (7, k.2.1)]) (fun k G Ml => Ml = ((b40, ce9 62 [sV (Zf P i).lo.b, sV (Zf P i).hi.b, .bool (Zf P i).opn]) :: (k.2.2 ++ [])) ∧ OwnR Zs 87 G k.2.1 (((Zj l).take k.1).filterMap (XH P i)) k.2.2 ∧ k.1 ≤ (Zj l).length) (fun k => (Zj l).length - k.1) (0, lV none 0 0, ([] : MH)) hs9 ?_ ?_
 ·exact ⟨rfl, (by exact OwnR.nil), om9⟩
 rintro ⟨k, v_7, M_7⟩ gG48 G48 _ hG48 ⟨rfl, ho_7, hk⟩
 try dsimp only at ho_7 hk
 have hfm := Zi8 (XH P i) (Zj l) k
 refine WC.fr (f := ZZ gG48 [(19, nt9 k), (8, pt9 b40), (0, lV sa_P P.length sc_P), (2, iV i), (17, lV sa_hv42 (Zj (l)).length sc_hv42), (18, nt9 ((Zj (l)).length)), (7, v_7)]) rfl (g9 6 ?_)
 refine WC.cd (fun h20 p20 => ?_) (fun h20 p20 => ?_)
 ·refine g9 6 ?_
  refine (hv42.mono hG48).a2 (i := k) om9 (fun he49 hm50 => (g9 2 ?_))
  refine W.alloc ZT (fun b54 => (g9 9 ?_))
  refine W.qcall (ZbD (h_P.mono lec) _ hr) rfl (g9 4 ?_)
  refine WC.cn (fun h28 p28 => ?_) (fun h28 p28 => ?_)
  ·refine g9 7 ?_
   refine W.sub (sr9.cons _) (g9 2 ?_)
   exact ⟨Le.rfl, (k + 1, v_7, M_7), hs9, ⟨rfl, (by have h := ho_7; rw [Zi9 om9 (fun hh => absurd hh.1 p28)]; exact h), om9⟩, om9⟩
  refine g9 6 ?_
  refine W.qcall (Ze2 _ _ _ _ _ _ _ _ _ (hkf _ (List.getElem_mem (by omega : k < (Zj l).length)))) rfl (g9 3 ?_)
  refine W.alloc ZT (fun b55 => (g9 9 ?_))
  refine WC.cond rfl (fun h32_1 => ?_) (fun h32_1 => ?_)
  ·refine g9 3 ?_
   refine W.lit (e := Zs) (l := [(Msg.clip (Zj l)[k] (Zf P i)).1]) (css := [[iV _, iV _, sV _, sV _, .bool _, sV _]]) ZY Z3 ZT rfl rfl rfl rfl rfl rfl ⟨⟨rfl, Zen (by assumption)⟩, trivial⟩ (fun bl56 G56 hG56 hv56 => (W.app (e := Zs) ZY Z3 ZT rfl JB rfl rfl ((ho_7.mono hG56)) (hv56) (pmC (pmC (pmC pr9))) (by show (List.length _ + 1) * 72 ≤ _; omega) (fun v57 Ms58 ho59 => (W.perm (pmC (pmC (pmC pr9))).symm (g9 7 ?_)))))
   refine W.sub ((sr9.cons _).cons _) (g9 2 ?_)
   exact ⟨hG56, (k + 1, v57, Ms58), hs9, ⟨rfl, (by have h := ho59; rw [Zp9 om9 p28 h32_1]; exact h), om9⟩, om9⟩
  refine g9 6 ?_
  refine W.sub ((sr9.cons _).cons _) (g9 2 ?_)
  exact ⟨Le.rfl, (k + 1, v_7, M_7), hs9, ⟨rfl, (by have h := ho_7; rw [Zi9 om9 (fun hh => absurd (h32_1.symm.trans hh.2) (by simp))]; exact h), om9⟩, om9⟩
 refine g9 11 ?_
 refine WC.giveO ho_7 (pmC pr9) (fun G60 hG60 hv60 => (g9 2 ?_))
 refine ⟨rfl, _, rfl, ?_⟩
 · have h := hv60; rw [List.take_of_length_le om9] at h; exact h

theorem Zdt {G : GH} {v_a : Value} {a : List Msg} (h_a : SlR Zs G v_a a) :
    Fc Tryz.prog 160 [v_a] G [] (fun v G' M' => OwnR Zs 87 G' v (a) M') := by
 obtain ⟨sa_a, sc_a, rfl⟩ := h_a.form
 have ha := h_a.bytes
 refine Fc.go [.tmp 2] Tryz.func160 Tryz.ntmps160 rfl (fun w0 => (g9 9 ?_))
 refine W.ok (ZaR ZY rfl rfl) (g9 2 ?_)
 refine WC.cond rfl (fun h4 => ?_) (fun h4 => ?_)
 ·have hn := SlR.isNone h_a h4
  subst hn
  refine g9 8 ?_
  exact OwnR.nil
 refine g9 4 ?_
 refine W.lit0 (e := Zs) ZY Z3 ZT rfl (fun v61 Ms62 ho63 => (W.mv (W.app (e := Zs) ZY Z3 ZT rfl JB rfl rfl (ho63) (h_a) pr9 (by simpa using ha) (fun v64 Ms65 ho66 => (g9 4 ?_)))))
 refine ⟨.inr rfl, [_], ⟨rfl, trivial⟩, Ms65, List.sublist_append_left _ _, ?_⟩
 have h := ho66
 rw [List.nil_append] at h
 exact h

theorem Zfv {G : GH} {v_l : Value} {l : List Msg} (h_l : SlR Zs G v_l l) (ms : Int) (mk : Int) (mkey : Str) (mhi : Str) (mo : Bool) (mv : Str) (n : Int) (hs : ∀ m ∈ l, m.key.b.size ≤ 16 ∧ m.val.b.size ≤ 16) (hn : 0 ≤ n ∧ n ≤ 9223372036854775807) (hmi : i64 ms ∧ i64 mk) (hl9 : l.length ≤ 1000000) :
    Fc Tryz.prog 187 [v_l, .agg #[iV ms, iV mk, sV mkey.b, sV mhi.b, .bool mo, sV mv.b], iV n] G [] (fun v G' M' => M' = [] ∧ ∃ r : List Msg × Bool, r = JF n l (⟨ms, mk, mkey, mhi, mo, mv⟩ : Msg) ∧ ∃ u0, v = .tuple #[u0, .bool (r.2)] ∧ SlR Zs G' u0 (r.1)) := by
 obtain ⟨sa_l, sc_l, rfl⟩ := h_l.form
 have hl := h_l.len47
 have hlb : l.length * 72 ≤ 140737488355328 := h_l.bytes
 refine Fc.go [.tmp 6, .tmp 7] Tryz.func187 Tryz.ntmps187 rfl (fun w0 => (g9 2 ?_))
 refine W.box (L := [iV _, iV _, sV _, sV _, .bool _, sV _]) rfl rfl (fun b67 => (g9 10 ?_))
 refine W.qcall (Zqm h_l _ _ _ _ _ _ _ (by assumption) om9) rfl (g9 2 ?_)
 refine W.sp 13 rfl (fun h12 => ?_) (fun h12 => ?_)
 ·have q11 : ¬ (Msg.size (⟨ms, mk, mkey, mhi, mo, mv⟩ : Msg) ≤ n - Zx l) := by simpa using h12
  refine g9 28 ?_
  refine ⟨rfl, _, (Zja (Zqa q11)).symm, _, rfl, ?_⟩
  · exact SlR.nil
 have q11 : Msg.size (⟨ms, mk, mkey, mhi, mo, mv⟩ : Msg) ≤ n - Zx l := by simpa using h12
 refine g9 8 ?_
 refine W.sd 17 (fun h16 p16 => ?_) (fun h16 p16 => ?_)
 ·refine g9 9 ?_
  refine h_l.a2 (i := l.length - 1) om9 (fun he68 hm69 => (W.ok (Yt (i := l.length - 1) ZY Z3 h_l rfl rfl ⟨om9, om9⟩) (g9 15 ?_)))
  refine WC.cd (fun h27 p27 => ?_) (fun h27 p27 => ?_)
  ·refine g9 9 ?_
   refine ⟨rfl, _, (Zja (Zqb om9 (by dsimp only; omega))).symm, _, rfl, ?_⟩
   · exact SlR.nil
  refine g9 3 ?_
  refine WC.dw sr9.k9 (d9 [0, 2] ?_)
  refine WD.any [1, 3] (by kernel_rfl) rfl ⟨WD.ap ?_, WD.ap ?_, trivial⟩
  ·refine W.call (Mp := []) (Zdt h_l) rfl pr9 ?_
   rintro v74 G73 Ms75 hG73 ho76
   refine W.perm (pmC pr9).symm ?_
   have q80 := ho76.form
   refine match q80 with | ⟨sa77, sc78, e_79⟩ => ?_
   subst e_79
   refine W.nn (WD.a1 3 rfl (W.litO (e := Zs) (l := [(⟨ms, mk, mkey, mhi, mo, mv⟩ : Msg)]) (css := [[iV _, iV _, sV _, sV _, .bool _, sV _]]) ZY Z3 ZT rfl rfl rfl rfl rfl rfl ⟨⟨rfl, hmi⟩, trivial⟩ (fun v81 Ms82 ho83 => (W.perm (pmC pr9).symm ?_))))
   have q87 := ho83.form
   refine match q87 with | ⟨sa84, sc85, e_86⟩ => ?_
   subst e_86
   refine W.nn (WD.a1 4 rfl (W.giveO ho83 (pmC pr9) (fun G88 hG88 hv88 => (W.app (e := Zs) ZY Z3 ZT rfl JB rfl rfl ((ho76.mono hG88)) (hv88) (pmC pr9) (by show (List.length _ + List.length _) * 72 ≤ _; simp; omega) (fun v89 Ms90 ho91 => (W.perm (pmC pr9).symm ?_))))))
   have q95 := ho91.form
   refine match q95 with | ⟨sa92, sc93, e_94⟩ => ?_
   subst e_94
   refine W.nn (d9 [5, 6] ?_)
   refine g9 2 ?_
   refine WC.giveO ho91 (pmC pr9) (fun G96 hG96 hv96 => (g9 2 ?_))
   refine ⟨rfl, _, (ZbI (ZbJ.2 ⟨q11, fun h => by dsimp only; omega⟩)).symm, _, rfl, ?_⟩
   · exact hv96
  refine W.litO (e := Zs) (l := [(⟨ms, mk, mkey, mhi, mo, mv⟩ : Msg)]) (css := [[iV _, iV _, sV _, sV _, .bool _, sV _]]) ZY Z3 ZT rfl rfl rfl rfl rfl rfl ⟨⟨rfl, hmi⟩, trivial⟩ (fun v97 Ms98 ho99 => (W.perm (pmC pr9).symm ?_))
  have q103 := ho99.form
  refine match q103 with | ⟨sa100, sc101, e_102⟩ => ?_
  subst e_102
  refine W.nn (WD.a1 1 rfl (W.call (Mp := []) (Zdt h_l) rfl pr9 ?_))
  rintro v105 G104 Ms106 hG104 ho107
  refine W.perm (pmC pr9).symm ?_
  have q111 := ho107.form
  refine match q111 with | ⟨sa108, sc109, e_110⟩ => ?_
  subst e_110
  refine W.nn (WD.a1 4 rfl (W.giveO (ho99.mono hG104) (pmC (pmA pr9)) (fun G112 hG112 hv112 => (W.app (e := Zs) ZY Z3 ZT rfl JB rfl rfl ((ho107.mono hG112)) (hv112) (pmC pr9) (by show (List.length _ + List.length _) * 72 ≤ _; simp; omega) (fun v113 Ms114 ho115 => (W.perm (pmC pr9).symm ?_))))))
  have q119 := ho115.form
  refine match q119 with | ⟨sa116, sc117, e_118⟩ => ?_
  subst e_118
  refine W.nn (d9 [5, 6] ?_)
  refine g9 2 ?_
  refine WC.giveO ho115 (pmC pr9) (fun G120 hG120 hv120 => (g9 2 ?_))
  refine ⟨rfl, _, (ZbI (ZbJ.2 ⟨q11, fun h => by dsimp only; omega⟩)).symm, _, rfl, ?_⟩
  · exact hv120
 refine g9 19 ?_
 refine WC.dw sr9.k9 (d9 [0, 2] ?_)
 refine WD.any [1, 3] (by kernel_rfl) rfl ⟨WD.ap ?_, WD.ap ?_, trivial⟩
 ·refine W.call (Mp := []) (Zdt h_l) rfl pr9 ?_
  rintro v122 G121 Ms123 hG121 ho124
  refine W.perm (pmC pr9).symm ?_
  have q128 := ho124.form
  refine match q128 with | ⟨sa125, sc126, e_127⟩ => ?_
  subst e_127
  refine W.nn (WD.a1 3 rfl (W.litO (e := Zs) (l := [(⟨ms, mk, mkey, mhi, mo, mv⟩ : Msg)]) (css := [[iV _, iV _, sV _, sV _, .bool _, sV _]]) ZY Z3 ZT rfl rfl rfl rfl rfl rfl ⟨⟨rfl, hmi⟩, trivial⟩ (fun v129 Ms130 ho131 => (W.perm (pmC pr9).symm ?_))))
  have q135 := ho131.form
  refine match q135 with | ⟨sa132, sc133, e_134⟩ => ?_
  subst e_134
  refine W.nn (WD.a1 4 rfl (W.giveO ho131 (pmC pr9) (fun G136 hG136 hv136 => (W.app (e := Zs) ZY Z3 ZT rfl JB rfl rfl ((ho124.mono hG136)) (hv136) (pmC pr9) (by show (List.length _ + List.length _) * 72 ≤ _; simp; omega) (fun v137 Ms138 ho139 => (W.perm (pmC pr9).symm ?_))))))
  have q143 := ho139.form
  refine match q143 with | ⟨sa140, sc141, e_142⟩ => ?_
  subst e_142
  refine W.nn (d9 [5, 6] ?_)
  refine g9 2 ?_
  refine WC.giveO ho139 (pmC pr9) (fun G144 hG144 hv144 => (g9 2 ?_))
  refine ⟨rfl, _, (ZbI (ZbJ.2 ⟨q11, fun h => by omega⟩)).symm, _, rfl, ?_⟩
  · exact hv144
 refine W.litO (e := Zs) (l := [(⟨ms, mk, mkey, mhi, mo, mv⟩ : Msg)]) (css := [[iV _, iV _, sV _, sV _, .bool _, sV _]]) ZY Z3 ZT rfl rfl rfl rfl rfl rfl ⟨⟨rfl, hmi⟩, trivial⟩ (fun v145 Ms146 ho147 => (W.perm (pmC pr9).symm ?_))
 have q151 := ho147.form
 refine match q151 with | ⟨sa148, sc149, e_150⟩ => ?_
 subst e_150
 refine W.nn (WD.a1 1 rfl (W.call (Mp := []) (Zdt h_l) rfl pr9 ?_))
 rintro v153 G152 Ms154 hG152 ho155
 refine W.perm (pmC pr9).symm ?_
 have q159 := ho155.form
 refine match q159 with | ⟨sa156, sc157, e_158⟩ => ?_
 subst e_158
 refine W.nn (WD.a1 4 rfl (W.giveO (ho147.mono hG152) (pmC (pmA pr9)) (fun G160 hG160 hv160 => (W.app (e := Zs) ZY Z3 ZT rfl JB rfl rfl ((ho155.mono hG160)) (hv160) (pmC pr9) (by show (List.length _ + List.length _) * 72 ≤ _; simp; omega) (fun v161 Ms162 ho163 => (W.perm (pmC pr9).symm ?_))))))
 have q167 := ho163.form
 refine match q167 with | ⟨sa164, sc165, e_166⟩ => ?_
 subst e_166
 refine W.nn (d9 [5, 6] ?_)
 refine g9 2 ?_
 refine WC.giveO ho163 (pmC pr9) (fun G168 hG168 hv168 => (g9 2 ?_))
 refine ⟨rfl, _, (ZbI (ZbJ.2 ⟨q11, fun h => by omega⟩)).symm, _, rfl, ?_⟩
 · exact hv168

end Go.Proofs.YtbbemibbmbmamaaGreat
