/- The leaves of a sound tree from the left to the right, and a sweep through them. Plain Lean; nothing of the program is named here. No condition. -/
import Derived.Test.YtbbemibbmbmamaaGreatQhWj
set_option linter.unusedVariables false
set_option linter.unusedSimpArgs false
set_option linter.unnecessarySimpa false

namespace Go.Fw
open Go Go.RowKit
variable {c : Cfg} {l : List Nd} {ss : List Seat}
noncomputable def Jz (l : List Nd) : Nat → Seat → List Seat
 | 0, x => [x]
 | n + 1, x => (Zk l x).flatMap (Jz l n)
theorem Tree.leaves_dfs (t : Tree c l ss) : ∀ (n : Nat) (R T : List Seat), T = R ++ T.flatMap (Zk l) → (∀ x ∈ T, x ∈ ss) → (∀ x ∈ R, x.n.level.toNat = n) → ZF T = R.flatMap (Jz l n) := by
 intro n
 induction n with
 | zero =>
  intro R T hT hs hR
  have hRT : ∀ x ∈ R, x ∈ T := fun x hx => by rw [hT]; exact List.mem_append_left _ hx
  have h0 : ∀ x ∈ R, x.n.level = 0 := fun x hx => by have := t.lvl (hs x (hRT x hx)); have := hR x hx; omega
  have hK : R.flatMap (Zk l) = [] := List.flatMap_eq_nil_iff.2 fun x hx => XA (h0 x hx)
  generalize hS : T.flatMap (Zk l) = S at hT
  have hS2 : S = S.flatMap (Zk l) := by
   conv => lhs; rw [← hS, hT]
   rw [List.flatMap_append, hK, List.nil_append]
  have hST : ∀ x ∈ S, x ∈ T := fun x hx => by rw [hT]; exact List.mem_append_right _ hx
  have hn := ZgG hS2 fun x hx y hy => by have := (t.kid_lvl (hs x (hST x hx)) hy).2; omega
  rw [hT, hn, List.append_nil]
  unfold ZF
  rw [List.filter_eq_self.2 fun x hx => decide_eq_true (h0 x hx)]
  exact (List.flatMap_singleton' R).symm
 | succ n ih =>
  intro R T hT hs hR
  have hRT : ∀ x ∈ R, x ∈ T := fun x hx => by rw [hT]; exact List.mem_append_left _ hx
  generalize hS : T.flatMap (Zk l) = S at hT
  have hS2 : S = R.flatMap (Zk l) ++ S.flatMap (Zk l) := by
   conv => lhs; rw [← hS, hT]
   rw [List.flatMap_append]
  have hST : ∀ x ∈ S, x ∈ T := fun x hx => by rw [hT]; exact List.mem_append_right _ hx
  have h1 := ih (R.flatMap (Zk l)) S hS2 (fun x hx => hs x (hST x hx)) fun y hy => by
   obtain ⟨x, hx, hyx⟩ := List.mem_flatMap.1 hy
   have := (t.kid_lvl (hs x (hRT x hx)) hyx).2
   have := hR x hx
   omega
  have h2 : ZF R = [] := List.filter_eq_nil_iff.2 fun x hx => by have := hR x hx; simp; omega
  rw [hT]
  unfold ZF at *
  rw [List.filter_append, h2, List.nil_append, h1, List.flatMap_assoc]
  rfl
theorem Tree.leaves (t : Tree c l ss) : ZF ss = Jz l (Zm l 0).n.level.toNat (Zm l 0) := by
 have := t.leaves_dfs (Zm l 0).n.level.toNat [Zm l 0] ss (by exact t.fix) (fun x hx => hx) (fun x hx => by simp at hx; rw [hx])
 simpa using this
def Bef (a b : Seat) : Prop := ∀ p q, a.s.has p = true → b.s.has q = true → p.lt q = true
theorem Zcz {P : List Str} {p q : Str} (h : p.lt q = false) : Zg P q ≤ Zg P p := by
 unfold Zg
 rw [← List.countP_eq_length_filter, ← List.countP_eq_length_filter]
 refine List.countP_mono_left fun x _ hx => ?_
 simp only [Bool.not_eq_true'] at hx ⊢
 exact Str.le_trans hx h
theorem Zo4 {x : Seat} (h : Ys x.n.pivots x.n.kids.length = true) : (YL l x x.n.kids.length).Pairwise Bef := by
 unfold YL
 rw [List.pairwise_map]
 refine List.Pairwise.imp_of_mem (fun {i j} hi hj hij => ?_) List.pairwise_lt_range
 intro p q hp hq
 rw [Zbf h (List.mem_range.1 hi), Bool.and_eq_true, decide_eq_true_eq] at hp
 rw [Zbf h (List.mem_range.1 hj), Bool.and_eq_true, decide_eq_true_eq] at hq
 cases hl : p.lt q
 ·have := Zcz (P := x.n.pivots) hl; omega
 ·rfl
theorem Tree.dfs (t : Tree c l ss) : ∀ (n : Nat) (x : Seat), x ∈ ss → x.n.level.toNat = n → (∀ y ∈ Jz l n x, y ∈ ss ∧ y.n.level = 0 ∧ ∀ k, y.s.has k = true → x.s.has k = true) ∧ (Jz l n x).Pairwise Bef := by
 intro n
 induction n with
 | zero =>
  intro x hx hn
  have h0 : x.n.level = 0 := by have := t.lvl hx; omega
  exact ⟨fun y hy => by simp [Jz] at hy; subst hy; exact ⟨hx, h0, fun k h => h⟩, by simp [Jz]⟩
 | succ n ih =>
  intro x hx hn
  have h0 : ¬ x.n.level = 0 := om9
  obtain ⟨h1, h2, h3, h4⟩ := Yc (t.kids hx) h0
  have hk : ∀ y ∈ Zk l x, y ∈ ss ∧ y.n.level.toNat = n ∧ ∀ k, y.s.has k = true → x.s.has k = true := fun y hy => by
   have := t.kid_lvl hx hy
   rw [h1] at hy
   obtain ⟨j, hj, rfl⟩ := List.mem_map.1 hy
   exact ⟨this.1, om9, fun k => Zbh k⟩
  refine ⟨fun y hy => ?_, ?_⟩
  ·obtain ⟨z, hz, hyz⟩ := List.mem_flatMap.1 hy
   obtain ⟨a1, a2, a3⟩ := hk z hz
   obtain ⟨b1, b2, b3⟩ := (ih z a1 a2).1 y hyz
   exact ⟨b1, b2, fun k h => a3 k (b3 k h)⟩
  ·show ((Zk l x).flatMap (Jz l n)).Pairwise Bef
   rw [List.pairwise_flatMap]
   refine ⟨fun z hz => (ih z (hk z hz).1 (hk z hz).2.1).2, ?_⟩
   rw [h1]
   refine List.Pairwise.imp_of_mem (fun {a b} ha hb hab => ?_) (Zo4 h3)
   intro u hu v hv p q hp hq
   rw [← h1] at ha hb
   exact hab p q (((ih a (hk a ha).1 (hk a ha).2.1).1 u hu).2.2 p hp) (((ih b (hk b hb).1 (hk b hb).2.1).1 v hv).2.2 q hq)
theorem Tree.leaves_bef (t : Tree c l ss) : (ZF ss).Pairwise Bef := by rw [t.leaves]; exact (t.dfs _ _ t.root rfl).2
theorem Tree.view_keys (t : Tree c l ss) {x : Seat} (hx : x ∈ ss) {p : Pair} (hp : p ∈ YD x) : x.s.has p.key = true := by
 rw [t.view hx] at hp; exact (List.mem_filter.1 hp).2
theorem Tree.foldR (t : Tree c l ss) {x : Seat} (hx : x ∈ ss) : PairsR (Zu x.n.rows x.ms) := (t.rows hx).fold fun m hm => Y5 ((t.fits x hx).2 m hm)
theorem Tree.srt (t : Tree c l ss) : Srt (Zh l) := by
 rw [Js t.sts]
 unfold Srt
 rw [List.pairwise_flatMap]
 refine ⟨fun x hx => ?_, List.Pairwise.imp_of_mem (fun {a b} ha hb hab => ?_) t.leaves_bef⟩
 ·rw [t.view (List.mem_filter.1 hx).1]; exact (t.foldR (List.mem_filter.1 hx).1).srt.filter _
 ·intro p hp q hq
  exact hab _ _ (t.view_keys (List.mem_filter.1 ha).1 hp) (t.view_keys (List.mem_filter.1 hb).1 hq)
theorem Tree.mapFits (t : Tree c l ss) : PairsR (Zh l) := J1.2 ⟨fun p hp => by
 rw [Js t.sts] at hp
 obtain ⟨x, hx, hp⟩ := List.mem_flatMap.1 hp
 rw [t.view (List.mem_filter.1 hx).1] at hp
 exact (J1.1 (t.foldR (List.mem_filter.1 hx).1)).1 p (List.mem_filter.1 hp).1, t.srt⟩
theorem Tree.map_view (t : Tree c l ss) {z : Seat} (hz : z ∈ ss) (h0 : z.n.level = 0) : (Zh l).filter (fun p => z.s.has p.key) = YD z := by
 have hm : z ∈ ZF ss := List.mem_filter.2 ⟨hz, decide_eq_true h0⟩
 obtain ⟨A, B, e⟩ := List.append_of_mem hm
 have ho := t.leaves_bef
 have hsub : ∀ x ∈ A ++ z :: B, x ∈ ss := fun x hx => by rw [← e] at hx; exact (List.mem_filter.1 hx).1
 rw [Js t.sts, e]
 rw [e] at ho
 obtain ⟨h1, h2, h3⟩ := List.pairwise_append.1 ho
 have hA : (A.flatMap YD).filter (fun p => z.s.has p.key) = [] := List.filter_eq_nil_iff.2 fun p hp hh => by
  obtain ⟨x, hx, hp⟩ := List.mem_flatMap.1 hp
  have := h3 x hx z (by simp) p.key p.key (t.view_keys (hsub x (List.mem_append_left _ hx)) hp) hh
  rw [Str.lt_irrefl] at this; cases this
 have hB : (B.flatMap YD).filter (fun p => z.s.has p.key) = [] := List.filter_eq_nil_iff.2 fun p hp hh => by
  obtain ⟨x, hx, hp⟩ := List.mem_flatMap.1 hp
  have := (List.pairwise_cons.1 h2).1 x hx p.key p.key hh (t.view_keys (hsub x (List.mem_append_right _ (List.mem_cons_of_mem _ hx))) hp)
  rw [Str.lt_irrefl] at this; cases this
 have hV : (YD z).filter (fun p => z.s.has p.key) = YD z := List.filter_eq_self.2 fun p hp => t.view_keys hz hp
 rw [List.flatMap_append, List.flatMap_cons, List.filter_append, List.filter_append, hA, hB, hV, List.append_nil, List.nil_append]
def YA (A : List Msg) : Nat := (A.filter fun m => !decide (m.kind = 4)).length
theorem Zo5 (A B : List Msg) : YA (A ++ B) = YA A + YA B := by simp [YA]
theorem Zo6 (A : List Msg) : YA A ≤ A.length := List.length_filter_le _ _
theorem ZcA (m : Msg) (A : List Msg) : YA (m :: A) = (if m.kind = 4 then 0 else 1) + YA A := by
 unfold YA
 rw [List.filter_cons]
 by_cases h : m.kind = 4
 ·simp [h]
 ·simp [h]; omega
theorem Zip {m : Msg} {s : Span} (h : (m.clip s).2 = true) : (m.clip s).1.kind = m.kind := by
 rw [(Xb h).2]; split <;> rfl
theorem Ziq (s : Span) : ∀ (A : List Msg), YA (Zc s A) ≤ YA A
 | [] => Nat.le_refl _
 | m :: A => by
  have ih := Ziq s A
  rw [Xr, ZcA]
  split
  ·rename_i h
   rw [ZcA, Zip h]
   omega
  ·omega
theorem Zo7 {ms : List Msg} : ∀ {l : List Pair}, PairsR l → (∀ m ∈ ms, m.fit) → (Zu l ms).length ≤ l.length + YA ms := by
 induction ms with
 | nil => intro l _ _; simp [Zu, YA]
 | cons m ms ih =>
  intro l h hm
  have h1 := ih (l := takeN l m) (h.takeF (hm m (by simp))) fun x hx => hm x (List.mem_cons_of_mem _ hx)
  have h2 : (takeN l m).length ≤ l.length + (if m.kind = 4 then 0 else 1) := by
   by_cases h4 : m.kind = 4
   ·rw [if_pos h4]
    unfold takeN
    rw [if_pos h4]
    exact List.length_filter_le _ _
   ·rw [if_neg h4]; exact h.take_len m
  rw [ZcA]
  show (Zu (takeN l m) ms).length ≤ _
  omega
def Xo (f : Nat → Nat) : Nat → Nat
 | 0 => 0
 | n + 1 => Xo f n + f n
theorem Zfb {f g : Nat → Nat} : ∀ n, (∀ j, j < n → f j ≤ g j) → Xo f n ≤ Xo g n
 | 0, _ => Nat.le_refl _
 | n + 1, h => by have := Zfb n fun j hj => h j om9; have := h n om9; unfold Xo; omega
theorem Zdk (f g : Nat → Nat) : ∀ n, Xo (fun j => f j + g j) n = Xo f n + Xo g n
 | 0 => rfl
 | n + 1 => by have := Zdk f g n; simp only [Xo]; omega
theorem Zir {f : Nat → Nat} {r : Nat} : ∀ n, (∀ j, f j ≤ 1) → (∀ j, j ≠ r → f j = 0) → Xo f n ≤ if r < n then 1 else 0
 | 0, _, _ => Nat.zero_le _
 | n + 1, h, h2 => by
  have ih := Zir n h h2
  simp only [Xo]
  by_cases e : n = r
  ·have := h n
   rw [if_neg om9] at ih
   rw [if_pos om9]; omega
  ·have := h2 n e
   by_cases h3 : r < n
   ·rw [if_pos h3] at ih; rw [if_pos om9]; omega
   ·rw [if_neg h3] at ih; omega
theorem Zfc {f : Nat → Nat} : ∀ n, (∀ j, f j = 0) → Xo f n = 0
 | 0, _ => rfl
 | n + 1, h => by have := Zfc n h; have := h n; simp only [Xo]; omega
theorem Zfd {x : Seat} (hr : Ys x.n.pivots x.n.kids.length = true) : ∀ (A : List Msg), (∀ m ∈ A, m.R) → Xo (fun j => YA (Zc (Zb l x j).s A)) x.n.kids.length ≤ YA A
 | [], _ => by rw [Zfc]; exact Nat.zero_le _; intro j; rfl
 | m :: A, h => by
  have ih := Zfd hr A fun y hy => h y (List.mem_cons_of_mem _ hy)
  have hR := h m (by simp)
  have e : ∀ j, YA (Zc (Zb l x j).s (m :: A)) = (if (m.clip (Zb l x j).s).2 = true ∧ ¬ m.kind = 4 then 1 else 0) + YA (Zc (Zb l x j).s A) := fun j => by
   rw [Xr]
   by_cases h1 : (m.clip (Zb l x j).s).2 = true
   ·rw [if_pos h1, ZcA, Zip h1]
    by_cases h4 : m.kind = 4
    ·rw [if_pos h4, if_neg (fun h => h.2 h4)]
    ·rw [if_neg h4, if_pos ⟨h1, h4⟩]
   ·rw [if_neg h1, if_neg (fun h => h1 h.1)]; omega
  rw [show (fun j => YA (Zc (Zb l x j).s (m :: A))) = fun j => (if (m.clip (Zb l x j).s).2 = true ∧ ¬ m.kind = 4 then 1 else 0) + YA (Zc (Zb l x j).s A) from funext e, Zdk, ZcA]
  by_cases h4 : m.kind = 4
  ·rw [if_pos h4, Zfc _ fun j => if_neg fun h => h.2 h4]; omega
  ·rw [if_neg h4]
   have hrt := ZcW hr m.key
   have hsp : m.span = ⟨m.key, m.key.next, false⟩ := by unfold Msg.span; rw [if_neg h4]
   have hz : ∀ j, j < x.n.kids.length → j ≠ Zg x.n.pivots m.key → (m.clip (Zb l x j).s).2 = false := fun j hj hne => Jq.2 (YO.2 fun q => by
    rw [ZN, hsp, J9 (by have := hR.1.2.1; omega), Zbf hr hj]
    by_cases e : q = m.key
    ·rw [e, decide_eq_false hne]; simp
    ·simp [e])
   have h1 : Xo (fun j => if (m.clip (Zb l x j).s).2 = true ∧ ¬ m.kind = 4 then 1 else 0) x.n.kids.length ≤ Xo (fun j => if j = Zg x.n.pivots m.key then 1 else 0) x.n.kids.length := Zfb _ fun j hj => by
    by_cases e : j = Zg x.n.pivots m.key
    ·rw [if_pos e]; split <;> omega
    ·rw [if_neg (fun h => by rw [hz j hj e] at h; exact absurd h.1 (by simp))]; exact Nat.zero_le _
   have h2 := Zir (f := fun j => if j = Zg x.n.pivots m.key then 1 else 0) (r := Zg x.n.pivots m.key) x.n.kids.length (fun j => by split <;> omega) fun j hj => if_neg hj
   rw [if_pos hrt] at h2
   omega
theorem Zis {f : Seat → Nat} {g : Nat → Seat} (h : Seat → List Seat) : ∀ n, (((List.range n).map g).flatMap h).map f = ((List.range n).map fun j => (h (g j)).map f).flatten
 | n => by rw [List.flatMap_map, List.map_flatMap, List.flatMap_def]
theorem Zfe (f : Nat → List Nat) : ∀ n, (((List.range n).map f).flatten).sum = Xo (fun j => (f j).sum) n
 | 0 => rfl
 | n + 1 => by rw [List.range_succ, List.map_append, List.flatten_append, List.sum_append_nat, Zfe f n]; simp [Xo]
theorem Tree.pts_below (t : Tree c l ss) : ∀ (n : Nat) (x : Seat), x ∈ ss → x.n.level.toNat = n → ((Jz l n x).map fun y => YA y.ms).sum ≤ YA x.ms + ((XH l n x).map fun y => YA y.n.msgs).sum := by
 intro n
 induction n with
 | zero => intro x _ _; simp [Jz, XH]
 | succ n ih =>
  intro x hx hn
  have h0 : ¬ x.n.level = 0 := om9
  obtain ⟨h1, h2, h3, h4⟩ := Yc (t.kids hx) h0
  rw [Jz, XH, List.map_cons, List.sum_cons, h1]
  unfold YL
  rw [Zis, Zis, Zfe, Zfe]
  have a1 : Xo (fun j => ((Jz l n (Zb l x j)).map fun y => YA y.ms).sum) x.n.kids.length ≤ Xo (fun j => (YA (Zc (Zb l x j).s x.n.msgs) + YA (Zc (Zb l x j).s x.ms)) + ((XH l n (Zb l x j)).map fun y => YA y.n.msgs).sum) x.n.kids.length := Zfb _ fun j hj => by
   have ha := t.at hx h0 hj
   have := ih (Zb l x j) ha.1 om9
   rw [(t.kid_ms hx (t.rst x hx) j).1, Zo5] at this
   exact this
  rw [Zdk, Zdk] at a1
  have a2 := Zfd (l := l) h3 x.n.msgs (t.msgs hx).2.1
  have a3 := Zfd (l := l) h3 x.ms (t.fits x hx).2
  omega
theorem Zit {f : Seat → List Pair} {g : Seat → Nat} : ∀ (T : List Seat), (∀ x ∈ T, (f x).length ≤ g x) → (T.flatMap f).length ≤ (T.map g).sum
 | [], _ => Nat.le_refl _
 | x :: T, h => by
  have := h x (by simp)
  have := Zit T fun y hy => h y (List.mem_cons_of_mem _ hy)
  rw [List.flatMap_cons, List.length_append, List.map_cons, List.sum_cons]; omega
theorem Ziu {f : Seat → Nat} {b : Nat} : ∀ (T : List Seat), (T.map fun x => b + f x).sum = T.length * b + (T.map f).sum
 | [] => by simp
 | x :: T => by
  rw [List.map_cons, List.sum_cons, Ziu T, List.map_cons, List.sum_cons, List.length_cons, Nat.succ_mul]; omega
theorem Ziv {f : Seat → Nat} {b : Nat} : ∀ (T : List Seat), (∀ x ∈ T, f x ≤ b) → (T.map f).sum ≤ T.length * b
 | [], _ => by simp
 | x :: T, h => by
  have := h x (by simp)
  have := Ziv T fun y hy => h y (List.mem_cons_of_mem _ hy)
  rw [List.map_cons, List.sum_cons, List.length_cons, Nat.succ_mul]; omega
theorem Tree.map_pts (t : Tree c l ss) : (Zh l).length ≤ l.length * 1088 := by
 have hp := t.pre_perm (Zm l 0).n.level.toNat [Zm l 0] ss (by exact t.fix) (fun x hx => hx) (fun x hx => by simp at hx; rw [hx])
 rw [List.flatMap_cons, List.flatMap_nil, List.append_nil] at hp
 rw [Js t.sts]
 have h1 := Zit (f := YD) (g := fun x => 64 + YA x.ms) (ZF ss) fun x hx => by
  have hx := (List.mem_filter.1 hx).1
  have g1 := t.rows hx
  have g2 : (x.n.rows.filter fun p => x.s.has p.key).length ≤ x.n.rows.length := List.length_filter_le _ _
  have g3 := t.rows_len hx
  have g5 := Ziq x.s x.ms
  have g6 := Zo7 (l := x.n.rows.filter fun p => x.s.has p.key) (ms := Zc x.s x.ms) (g1.filter _) (ZkS (by have := (t.fits x hx).1.1; omega) fun m hm => Y5 ((t.fits x hx).2 m hm))
  unfold YD
  omega
 rw [Ziu] at h1
 have h2 := t.pts_below _ (Zm l 0) t.root rfl
 rw [← t.leaves] at h2
 have h3 : ((XH l (Zm l 0).n.level.toNat (Zm l 0)).map fun y => YA y.n.msgs).sum = (ss.map fun y => YA y.n.msgs).sum := ((hp.map _).sum_nat).symm
 have h4 := Ziv (f := fun y => YA y.n.msgs) (b := 1024) ss fun x hx => Nat.le_trans (Zo6 _) (t.msgs_len hx)
 have h5 : YA (Zm l 0).ms = 0 := rfl
 have h6 : (ZF ss).length ≤ ss.length := List.length_filter_le _ _
 have h7 := t.len
 have h8 : (ZF ss).length * 64 ≤ ss.length * 64 := Nat.mul_le_mul_right 64 h6
 rw [h7] at h8 h4
 omega
theorem Tree.map_len (t : Tree c l ss) : (Zh l).length ≤ 10246400 := by
 have := t.map_pts
 have := t.sml.1
 omega
theorem Ziw {M : List Pair} (hM : Srt M) (p : Str → Bool) (h : Str) : M.filter (fun a => p a.key) = M.filter (fun a => p a.key && a.key.lt h) ++ M.filter (fun a => p a.key && !a.key.lt h) := by
 induction M with
 | nil => rfl
 | cons a M ih =>
  have hp := List.pairwise_cons.1 hM
  rw [List.filter_cons, List.filter_cons, List.filter_cons, ih hp.2]
  cases hpa : p a.key
  ·simp
  ·cases hl : a.key.lt h
   ·have : M.filter (fun a => p a.key && a.key.lt h) = [] := List.filter_eq_nil_iff.2 fun b hb hh => by
     have hab := hp.1 b hb
     simp only [Bool.and_eq_true] at hh
     have := Str.lt_trans hab hh.2
     rw [hl] at this; cases this
    rw [this]; simp
   ·simp
structure SwOk (l : List Nd) (x : Span) (n : Int) (rest : Span) (out : List Pair) : Prop where
 eq : out ++ (Zh l).filter (fun p => rest.has p.key) = (Zh l).filter (fun p => x.has p.key)
 len : out = [] ∨ (out.length : Int) < n
theorem SwOk.init (l : List Nd) (x : Span) (n : Int) : SwOk l x n x.norm [] := ⟨by
 rw [List.nil_append]; exact List.filter_congr fun p _ => Zaz x p.key, .inl rfl⟩
theorem SwOk.empty {x rest : Span} {n : Int} {out : List Pair} (h : SwOk l x n rest out) (he : rest.empty = true) : out = X1 (Zh l) x n := by
 have h1 := h.eq
 rw [List.filter_eq_nil_iff.2 (fun p _ => by rw [YO.1 he]; simp), List.append_nil] at h1
 unfold X1
 rw [← h1]
 rcases h.len with h2 | h2
 ·rw [h2]; simp
 ·exact (List.take_of_length_le om9).symm
theorem SwOk.full {x rest : Span} {n : Int} {out : List Pair} (h : SwOk l x n rest out) (hn : n ≤ (out.length : Int)) : out = X1 (Zh l) x n := by
 have h2 : out = [] := h.len.resolve_right om9
 subst h2
 unfold X1
 rw [show n.toNat = 0 by simp at hn; omega]; rfl
structure Leg (l : List Nd) (z : Seat) (rest s : Span) : Prop where
 se : s = rest.meet z.s
 lo : s.has rest.lo = true
theorem Tree.leg (t : Tree c l ss) {rest : Span} (he : rest.empty = false) : Leg l (Zn l rest.lo) rest (rest.meet (Zn l rest.lo).s) := ⟨rfl, by
 rw [ZN, (t.leafOk rest.lo).has, Bool.and_true]
 have := Span.empty_eq rest
 rw [he] at this; simpa using this⟩
theorem Leg.view (t : Tree c l ss) {z : Seat} (hz : z ∈ ss) (h0 : z.n.level = 0) {rest s : Span} (g : Leg l z rest s) : Zu (z.n.rows.filter fun p => s.has p.key) (Zc s z.ms) = (Zh l).filter (fun p => s.has p.key) := by
 have hsz : ∀ k, s.has k = true → z.s.has k = true := fun k hk => by rw [g.se, ZN, Bool.and_eq_true] at hk; exact hk.2
 have e : (Zh l).filter (fun p => s.has p.key) = ((Zh l).filter (fun p => z.s.has p.key)).filter (fun p => s.has p.key) := by
  rw [List.filter_filter]
  refine List.filter_congr fun p _ => ?_
  cases hs : s.has p.key
  ·rfl
  ·rw [hsz _ hs]; rfl
 rw [e, t.map_view hz h0, t.view hz, List.filter_filter, Zbc (t.rows hz).srt fun m hm => by have := (Y5 ((t.fits z hz).2 m hm)).1; omega]
 refine List.filter_congr fun p _ => ?_
 cases hs : s.has p.key
 ·rfl
 ·rw [hsz _ hs]; rfl
theorem Leg.nonempty {z : Seat} {rest s : Span} (g : Leg l z rest s) : s.empty = false := by
 cases h : s.empty
 ·rfl
 ·have := YO.1 h rest.lo; rw [g.lo] at this; cases this
theorem Zo8 {s : Span} {a b k : Str} (ha : s.has a = true) (hb : s.has b = true) (h1 : k.lt a = false) (h2 : b.lt k = false) : s.has k = true := by
 unfold Span.has at *
 simp only [Bool.and_eq_true, Bool.not_eq_true', Bool.or_eq_true] at *
 refine ⟨Str.le_trans ha.1 h1, hb.2.imp id fun h => Str.lt_of_le_of_lt h2 h⟩
theorem Leg.fin {z : Seat} {rest s : Span} (g : Leg l z rest s) (ho : s.opn = false) : rest.lo.lt s.hi = true := by
 have h := g.lo
 unfold Span.has at h
 rw [ho] at h
 simp only [Bool.false_or, Bool.and_eq_true] at h
 exact h.2
theorem Leg.split (t : Tree c l ss) {z : Seat} {rest s : Span} (g : Leg l z rest s) (ho : s.opn = false) : (Zh l).filter (fun p => rest.has p.key) = (Zh l).filter (fun p => s.has p.key) ++ (Zh l).filter (fun p => (rest.meet ⟨s.hi, Str.nil, true⟩).has p.key) := by
 rw [Ziw t.srt (fun k => rest.has k) s.hi]
 congr 1
 ·refine List.filter_congr fun p _ => ?_
  have hr : s.has p.key = true → rest.has p.key = true := fun hk => by rw [g.se, ZN, Bool.and_eq_true] at hk; exact hk.1
  have hl := g.lo
  cases hs : s.has p.key
  ·cases hrk : rest.has p.key
   ·rfl
   ·cases hlt : p.key.lt s.hi
    ·rfl
    ·exfalso
     have h3 : s.has p.key = true := by
      unfold Span.has at *
      rw [ho] at *
      simp only [Bool.false_or, Bool.and_eq_true, Bool.not_eq_true', Bool.or_eq_true] at *
      exact ⟨Str.le_trans hl.1 hrk.1, hlt⟩
     rw [hs] at h3; cases h3
  ·rw [hr hs]
   unfold Span.has at hs
   rw [ho] at hs
   simp only [Bool.false_or, Bool.and_eq_true] at hs
   rw [hs.2]; rfl
 ·refine List.filter_congr fun p _ => ?_
  rw [ZN]
  congr 1
  show _ = (!p.key.lt s.hi && (true || _))
  simp
theorem Leg.open (t : Tree c l ss) {z : Seat} {rest s : Span} (g : Leg l z rest s) (ho : s.opn = true) : (Zh l).filter (fun p => rest.has p.key) = (Zh l).filter (fun p => s.has p.key) := by
 refine List.filter_congr fun p _ => ?_
 have hl := g.lo
 cases hs : s.has p.key
 ·cases hrk : rest.has p.key
  ·rfl
  ·exfalso
   have h3 : s.has p.key = true := by
    unfold Span.has at *
    rw [ho] at *
    simp only [Bool.true_or, Bool.and_true, Bool.and_eq_true, Bool.not_eq_true'] at *
    exact Str.le_trans hl hrk.1
   rw [hs] at h3; cases h3
 ·rw [g.se, ZN, Bool.and_eq_true] at hs
  exact hs.1
theorem Zix {A : List Pair} {n : Int} {k : Nat} (hn : 0 < n) : A.take (Xt A n) = A.take n.toNat := by
 unfold Xt
 by_cases h : (A.length : Int) ≤ n
 ·rw [List.take_of_length_le om9, List.take_of_length_le om9]
 ·congr 1; omega
theorem SwOk.last {x rest : Span} {n : Int} {out V R : List Pair} (h : SwOk l x n rest out) (hn : ¬ n ≤ (out.length : Int)) (hV : (Zh l).filter (fun p => rest.has p.key) = V ++ R) (hl : R = [] ∨ n - (out.length : Int) ≤ (V.length : Int)) :
  out ++ V.take (Xt V (n - (out.length : Int))) = X1 (Zh l) x n := by
 unfold X1
 rw [← h.eq, hV, Zix (k := 0) om9, List.take_append, List.take_of_length_le (by omega : out.length ≤ n.toNat), show (n - (out.length : Int)).toNat = n.toNat - out.length by omega]
 congr 1
 rcases hl with rfl | hl
 ·rw [List.append_nil]
 ·rw [List.take_append_of_le_length om9]
theorem SwOk.next {x rest r2 : Span} {n : Int} {out V : List Pair} (h : SwOk l x n rest out) (hn : ¬ n ≤ (out.length : Int)) (hV : (Zh l).filter (fun p => rest.has p.key) = V ++ (Zh l).filter (fun p => r2.has p.key)) (hl : ¬ n - (out.length : Int) ≤ (V.length : Int)) :
  SwOk l x n r2 (out ++ V) ∧ V.take (Xt V (n - (out.length : Int))) = V :=
 ⟨⟨by rw [List.append_assoc, ← hV]; exact h.eq, .inr (by rw [List.length_append]; omega)⟩, by rw [Zix (k := 0) om9]; exact List.take_of_length_le om9⟩
def Zdl (ss : List Seat) (rest : Span) : Nat := if rest.empty = true then 0 else 1 + ((ZF ss).filter fun y => y.s.opn || rest.lo.lt y.s.hi).length
theorem Leg.ahead {z : Seat} (hz : z ∈ ss) (h0 : z.n.level = 0) {rest s : Span} (he : rest.empty = false) (g : Leg l z rest s) (ho : s.opn = false) : Zdl ss (rest.meet ⟨s.hi, Str.nil, true⟩) < Zdl ss rest := by
 have hfin := g.fin ho
 unfold Zdl
 rw [he, if_neg (by simp : ¬ false = true)]
 split
 ·omega
 ·rename_i hne
  generalize hr : rest.meet ⟨s.hi, Str.nil, true⟩ = r2 at hne ⊢
  have hr2 : r2.has r2.lo = true := by have := Span.empty_eq r2; cases h : r2.empty; rw [h] at this; simpa using this; exact absurd h hne
  have hm : rest.has r2.lo = true ∧ r2.lo.lt s.hi = false := by
   have h1 : (rest.meet ⟨s.hi, Str.nil, true⟩).has r2.lo = true := by rw [hr]; exact hr2
   rw [ZN, Bool.and_eq_true] at h1
   refine ⟨h1.1, ?_⟩
   have h2 := h1.2
   unfold Span.has at h2
   simp only [Bool.and_eq_true, Bool.not_eq_true'] at h2
   exact h2.1
  have hrl : rest.has rest.lo = true := by have := g.lo; rw [g.se, ZN, Bool.and_eq_true] at this; exact this.1
  have hzl : z.s.has rest.lo = true := by have := g.lo; rw [g.se, ZN, Bool.and_eq_true] at this; exact this.2
  have hlt : rest.lo.lt r2.lo = true := Str.lt_of_lt_of_le hfin hm.2
  have hzc : (z.s.opn || rest.lo.lt z.s.hi) = true := by
   unfold Span.has at hzl; rw [Bool.and_eq_true] at hzl; exact hzl.2
  have hzn : (z.s.opn || r2.lo.lt z.s.hi) = false := by
   cases h : (z.s.opn || r2.lo.lt z.s.hi)
   ·rfl
   ·exfalso
    have h1 : rest.has s.hi = true := Zo8 hrl hm.1 (Str.lt_asymm hfin) hm.2
    have h2 : z.s.has s.hi = true := by
     have h5 := hzl
     unfold Span.has at h5 ⊢
     simp only [Bool.and_eq_true, Bool.not_eq_true', Bool.or_eq_true] at h5 h ⊢
     exact ⟨Str.le_trans h5.1 (Str.lt_asymm hfin), h.imp id fun h => Str.lt_of_le_of_lt hm.2 h⟩
    have h3 : s.has s.hi = true := by rw [g.se, ZN, ← g.se, h1, h2]; rfl
    unfold Span.has at h3
    rw [ho, Str.lt_irrefl] at h3
    simp at h3
  have hmono : ∀ y : Seat, (y.s.opn || r2.lo.lt y.s.hi) = true → (y.s.opn || rest.lo.lt y.s.hi) = true := fun y h => by
   rw [Bool.or_eq_true] at h ⊢
   exact h.imp id fun h => Str.lt_trans hlt h
  have hzm : z ∈ ZF ss := List.mem_filter.2 ⟨hz, decide_eq_true h0⟩
  have key : ∀ T : List Seat, z ∈ T → (T.filter fun y => y.s.opn || r2.lo.lt y.s.hi).length < (T.filter fun y => y.s.opn || rest.lo.lt y.s.hi).length := by
   intro T
   induction T with
   | nil => intro h; cases h
   | cons y T ih =>
    intro h
    have hle : (T.filter fun y => y.s.opn || r2.lo.lt y.s.hi).length ≤ (T.filter fun y => y.s.opn || rest.lo.lt y.s.hi).length := by
     rw [← List.countP_eq_length_filter, ← List.countP_eq_length_filter]
     exact List.countP_mono_left fun y _ h => hmono y h
    rw [List.filter_cons, List.filter_cons]
    rcases List.mem_cons.1 h with rfl | h
    ·rw [hzn, hzc]; simp; omega
    ·have ih := ih h
     cases ha : (y.s.opn || r2.lo.lt y.s.hi)
     ·simp only [Bool.false_eq_true, if_false]
      split
      ·simp; omega
      ·exact ih
     ·rw [hmono y ha]; simp; omega
  have := key _ hzm
  omega
theorem SwOk.olen (t : Tree c l ss) {x rest : Span} {n : Int} {out : List Pair} (h : SwOk l x n rest out) : out.length ≤ 10246400 := by
 have h1 := congrArg List.length h.eq
 have h2 := List.length_filter_le (fun p : Pair => x.has p.key) (Zh l)
 have h3 := t.map_len
 rw [List.length_append] at h1
 omega
theorem Leg.part (t : Tree c l ss) {z : Seat} (hz : z ∈ ss) (h0 : z.n.level = 0) {rest s : Span} (g : Leg l z rest s) (b : Str) (n : Int) :
  Zbi z.n.rows s z.ms b n = (((Zh l).filter (fun p => s.has p.key)).take (Xt ((Zh l).filter (fun p => s.has p.key)) n), (if s.opn = true then Str.nil else s.hi), s.opn || decide (n ≤ (((Zh l).filter (fun p => s.has p.key)).length : Int))) := by
 rw [ZgI g.nonempty rfl rfl, g.view t hz h0]
theorem SwOk.over (t : Tree c l ss) {x rest s : Span} {z : Seat} {n : Int} {out : List Pair} (h : SwOk l x n rest out) (hn : ¬ n ≤ (out.length : Int)) (g : Leg l z rest s) (ho : (s.opn || decide (n - (out.length : Int) ≤ (((Zh l).filter (fun p => s.has p.key)).length : Int))) = true) :
  out ++ ((Zh l).filter (fun p => s.has p.key)).take (Xt ((Zh l).filter (fun p => s.has p.key)) (n - (out.length : Int))) = X1 (Zh l) x n := by
 cases hs : s.opn
 ·rw [hs, Bool.false_or, decide_eq_true_eq] at ho
  exact h.last hn (g.split t hs) (.inr ho)
 ·exact h.last hn (R := []) (by rw [List.append_nil]; exact g.open t hs) (.inl rfl)
theorem SwOk.go (t : Tree c l ss) {x rest s : Span} {z : Seat} {n : Int} {out : List Pair} (h : SwOk l x n rest out) (hn : ¬ n ≤ (out.length : Int)) (g : Leg l z rest s) (ho : (s.opn || decide (n - (out.length : Int) ≤ (((Zh l).filter (fun p => s.has p.key)).length : Int))) = false) :
  s.opn = false ∧ SwOk l x n (rest.meet ⟨s.hi, Str.nil, true⟩) (out ++ (Zh l).filter (fun p => s.has p.key)) ∧ ((Zh l).filter (fun p => s.has p.key)).take (Xt ((Zh l).filter (fun p => s.has p.key)) (n - (out.length : Int))) = (Zh l).filter (fun p => s.has p.key) := by
 rw [Bool.or_eq_false_iff, decide_eq_false_iff_not] at ho
 exact ⟨ho.1, h.next hn (g.split t ho.1) ho.2⟩
theorem Zo9 (t : Tree c l ss) (k : Str) : Zn l k ∈ ss ∧ (Zn l k).n.level = 0 := ⟨(t.leafOk k).mem, (t.leafOk k).lvl⟩
theorem Zpa {M : List Pair} {n : Int} (h : (M.length : Int) ≤ n) : X1 M Span.all n = M := by
 unfold X1
 rw [List.filter_eq_self.2 fun p _ => Zax p.key, List.take_of_length_le om9]
def JQ (n : Nd) : Seat := ⟨n, Span.all, []⟩
theorem Ziy {n : Nd} (hs : n.slot = 0) (hseen : n.seen ≤ 1099511627776) : SlotsP [n] := fun i h => by
 have : i = 0 := by simp at h; omega
 subst this
 exact ⟨by simpa using hs, hseen⟩
theorem Ziz {n : Nd} (h0 : n.level = 0) (hs : n.slot = 0) (hseen : n.seen ≤ 1099511627776) : Y4 [n] 0 = some [JQ n] := by
 have hf : Zr [n] 0 = (n, true) := ZgD (Ziy hs hseen) (i := 0) (by simp)
 unfold Y4
 rw [if_pos (by rw [hf])]
 have hr : Zm [n] 0 = JQ n := by unfold Zm JQ; rw [hf]
 rw [hr]
 show XW [n] (2 + 1) 0 [JQ n] = _
 rw [Zea (l := [n]) (f := 2) (i := 0) (out := [JQ n]) (ks := []) (by simp) (by simp) (Zau h0)]
 exact Zd9 (l := [n]) (f := 1) (i := 1) (out := [JQ n]) (by simp)
theorem ZiA {c : Cfg} {n : Nd} (hc : CfgR c) (h0 : n.level = 0) (hs : n.slot = 0) (hseen : n.seen ≤ 1099511627776) (hR : n.R c.fan c.leaf c.bud) (ht : n.top = true) (hS : NdS n) : Tree c [n] [JQ n] := by
 have hl := hR.2.2.2
 rw [if_pos h0] at hl
 have ht2 := hR.2.1 ht
 have hz := hl.1
 have hk := hc.2.2.2.1
 refine ⟨hc, by simp, ⟨by simp, fun m hm => by simp at hm; subst hm; exact hS⟩, Ziy hs hseen, Ziz h0 hs hseen, ⟨⟨rfl, fun i h => ?_⟩, fun i h => ?_, by simp; omega⟩, fun i h => ?_⟩
 ·have : i = 0 := by simp at h; omega
  subst this
  simp [JE, JQ]
 ·have : i = 0 := by simp at h; omega
  subst this
  rw [ZcV (by simp)]
  exact ht2.2
 ·have : i = 0 := by simp at h; omega
  subst this
  refine ⟨hR, ⟨⟨ht, ht2.1⟩, fun i h => Zax _, fun i h => ?_, fun i h => ?_⟩, by show n.slot < c.slots; omega, fun j h => ?_⟩
  ·have h : i < n.pivots.length := h
   omega
  ·have h : i < n.msgs.length := h
   omega
  ·have h : j < ([] : List Msg).length := h
   simp at h
theorem Zff {n : Nd} (h0 : n.level = 0) (hs : n.slot = 0) (hseen : n.seen ≤ 1099511627776) : Zh [n] = n.rows := by
 rw [Js (Ziz h0 hs hseen)]
 have e : ZF [JQ n] = [JQ n] := List.filter_eq_self.2 fun x hx => by simp at hx; subst hx; exact decide_eq_true h0
 rw [e, List.flatMap_cons, List.flatMap_nil, List.append_nil]
 show Zu (n.rows.filter fun p => Span.all.has p.key) (Zc Span.all []) = n.rows
 rw [List.filter_eq_self.2 fun p _ => Zax p.key]; rfl
section
variable {c : Cfg} {l : List Nd} {ss : List Seat}
structure Free (l : List Nd) (n : Nat) (x : Seat) (mt : List (Int × Bool)) : Prop where
 none : ∀ y ∈ XH l n x, Xz mt y.n.slot = none
 nd : ((XH l n x).map fun y : Seat => y.n.slot).Nodup
structure FreeK (l : List Nd) (n : Nat) (x : Seat) (j : Nat) (mt : List (Int × Bool)) : Prop where
 none : ∀ y ∈ ((Zk l x).drop j).flatMap (XH l n), Xz mt y.n.slot = none
 nd : ((((Zk l x).drop j).flatMap (XH l n)).map fun y : Seat => y.n.slot).Nodup
theorem Tree.kidsD_at (t : Tree c l ss) {x : Seat} (hx : x ∈ ss) (h0 : ¬ x.n.level = 0) : (Zk l x).length = x.n.kids.length ∧ ∀ j (h : j < (Zk l x).length), (Zk l x)[j] = Zb l x j := by
 have h1 := (Yc (t.kids hx) h0).1
 refine ⟨by rw [h1, JV], fun j h => ?_⟩
 simp only [h1, YL, List.getElem_map, List.getElem_range]
end
section
variable {α : Type} {E : Env} {f : Fr} {G : GH} {M Mk Ms Mr : MH} {ops rest : List Oper} {q : Bool} {K : Kt} {d : Nat} {ty : TypeId} {pos : String} {aft : Array Edge} {t et : TypeId} {x y kk : Operand} {b : Nat} {k : Int} {m : List (Int × α)} {V : VEnc α}
theorem W.lookO {z0 : Value} {z : α} (ht : Zbd E.P t = some et) (hz : zvK E.P et = some z0) (hzz : V.R G z0 z) (hx : ev f x = .map (some b)) (hk : ev f kk = .int .i64 k) (hm : MpR V b G m Ms) (hp : (Ms ++ Mr).Perm M)
  (h : ∀ v, V.R G v ((Xz m k).getD z) → W E ops.toArray q rest (upd f d v) G M K) (hd : Nat.blt d E.n = true := by rfl) :
  W E ops.toArray q (⟨some d, .lookup t x kk false, ty, pos, aft, none⟩ :: rest) f G M K := by
 obtain ⟨v, h1, h2⟩ := Ztt (E := E) (f := f) (M := M) (d := d) (ty := ty) (pos := pos) (aft := aft) (ok := false) ht hz hzz hx hk hm hp
 exact W.ok h2 (h v h1) hd
end
theorem Zpb {l : List Nd} {x : Seat} (h : (ZZ l x).isSome = true) : ZZ l x = some (Zk l x) := by
 unfold Zk
 cases e : ZZ l x with
 | none => rw [e] at h; cases h
 | some y => rfl
theorem Zpc {l : List Nd} {x y : Seat} (h : (ZZ l x).isSome = true) (hy : y ∈ Zk l x) : y.n.level < x.n.level := by
 by_cases h0 : x.n.level = 0
 ·rw [XA h0] at hy; cases hy
 ·obtain ⟨h1, h2, h3, h4⟩ := Yc h h0
  rw [h1] at hy
  obtain ⟨j, hj, rfl⟩ := List.mem_map.1 hy
  have := h4 j (List.mem_range.1 hj)
  unfold YS at this
  rw [Bool.and_eq_true, decide_eq_true_eq] at this
  have e : (Zb l x j).n.level = x.n.level - 1 := this.2
  omega
theorem Zpd {l : List Nd} {root : Int} {T : List Seat} (h1 : (Zr l root).2 = true) (h2 : T = Zm l root :: T.flatMap (Zk l)) (h3 : ∀ x ∈ T, (ZZ l x).isSome = true) (h4 : T.length ≤ l.length) : Y4 l root = some T := by
 have key : ∀ (d i f : Nat), i + d = T.length → d < f → i ≤ (Zm l root :: (T.take i).flatMap (Zk l)).length → XW l f i (Zm l root :: (T.take i).flatMap (Zk l)) = some T := by
  intro d
  induction d with
  | zero =>
   intro i f hi hf hl
   rw [List.take_of_length_le om9, ← h2]
   obtain ⟨f, rfl⟩ : ∃ q, f = q + 1 := ⟨f - 1, om9⟩
   exact Zd9 om9
  | succ d ih =>
   intro i f hi hf hl
   obtain ⟨f, rfl⟩ : ∃ q, f = q + 1 := ⟨f - 1, om9⟩
   have hT : T = (Zm l root :: (T.take i).flatMap (Zk l)) ++ (T.drop i).flatMap (Zk l) := by
    rw [List.cons_append, ← List.flatMap_append, List.take_append_drop]; exact h2
   obtain ⟨O, hO⟩ : ∃ O, O = Zm l root :: (T.take i).flatMap (Zk l) := ⟨_, rfl⟩
   rw [← hO] at hl hT ⊢
   have hTl := congrArg List.length hT
   rw [List.length_append] at hTl
   by_cases hlt : i < O.length
   ·have e : O[i] = T[i]'om9 := by
     have h5 := List.getElem_of_eq hT (show i < T.length by omega)
     rw [h5, List.getElem_append_left hlt]
    have hk : ZZ l O[i] = some (Zk l (T[i]'om9)) := by rw [e]; exact Zpb (h3 _ (List.getElem_mem _))
    rw [Zea hlt om9 hk]
    have e2 : O ++ Zk l (T[i]'om9) = Zm l root :: (T.take (i + 1)).flatMap (Zk l) := by
     rw [hO, List.take_succ_eq_append_getElem om9, List.flatMap_append]; simp
    rw [e2]
    exact ih (i + 1) f om9 om9 (by rw [← e2, List.length_append]; omega)
   ·exfalso
    have hd : T.drop i = (T.drop i).flatMap (Zk l) := by
     have h5 := congrArg (List.drop i) hT
     rw [List.drop_append, List.drop_of_length_le (l := O) om9, List.nil_append, show i - O.length = 0 by omega, List.drop_zero] at h5
     exact h5
    have h6 := ZgG hd fun x hx y hy => Zpc (h3 x (List.mem_of_mem_drop hx)) hy
    have h7 := congrArg List.length h6
    rw [List.length_drop] at h7
    simp at h7
    omega
 unfold Y4
 rw [if_pos h1]
 have := key T.length 0 (l.length + 2) om9 om9 (Nat.zero_le _)
 simpa using this
abbrev Key9 := Int × Int × Int
def Seat.key (x : Seat) : Key9 := (x.n.slot, x.n.level, x.n.right)
def LkK : List Key9 → Prop
 | [] => True
 | [x] => x.2.2 = -1
 | x :: y :: T => x.2.2 = (if y.2.1 = x.2.1 then y.1 else -1) ∧ LkK (y :: T)
theorem ZiB (x : Seat) (L : List Seat) (i : Nat) : Jp (x :: L) (i + 1) = Jp L i := by
 unfold Jp
 simp
theorem ZbI : ∀ ss, LinkedP ss ↔ LkK (ss.map Seat.key)
 | [] => ⟨fun _ => trivial, fun _ i h => absurd h (Nat.not_lt_zero _)⟩
 | [x] => by
  constructor
  ·intro h
   have := h 0 (by simp)
   rw [ZcV (by simp)] at this
   exact this
  ·intro h i hi
   have : i = 0 := by simp at hi; exact hi
   subst this
   rw [ZcV (by simp)]
   exact h
 | x :: y :: T => by
  have ih := ZbI (y :: T)
  have e : Jp (x :: y :: T) 0 = if y.n.level = x.n.level then y.n.slot else -1 := by
   unfold Jp
   simp
  constructor
  ·intro h
   refine ⟨?_, ih.1 fun i hi => ?_⟩
   ·have := h 0 (by simp)
    rw [e] at this
    exact this
   ·have := h (i + 1) (by simpa using hi)
    rw [ZiB] at this
    exact this
  ·intro h i hi
   cases i with
   | zero => rw [e]; exact h.1
   | succ i => rw [ZiB]; exact ih.2 h.2 i (by simpa using hi)
theorem Zfg {s v r y : Int} : ∀ (P S : List Key9), LkK (P ++ (s, v, r) :: S) → LkK (P ++ (s, v, y) :: (y, v, r) :: S)
 | [], [], h => ⟨(if_pos rfl).symm, h⟩
 | [], q :: S, h => ⟨(if_pos rfl).symm, h.1, h.2⟩
 | [p], S, h => by
  have h : p.2.2 = (if v = p.2.1 then s else -1) ∧ LkK ([] ++ (s, v, r) :: S) := h
  exact ⟨h.1, Zfg [] S h.2⟩
 | p :: q :: P, S, h => by
  have h : p.2.2 = (if q.2.1 = p.2.1 then q.1 else -1) ∧ LkK ((q :: P) ++ (s, v, r) :: S) := h
  exact ⟨h.1, Zfg (q :: P) S h.2⟩
theorem Zpe {s s' v r : Int} : ∀ (S : List Key9), LkK ((s, v, r) :: S) → LkK ((s', v, r) :: S)
 | [], h => h
 | q :: S, h => ⟨h.1, h.2⟩
theorem Zpf {s v x y : Int} {S : List Key9} (h : LkK ((s, v, -1) :: S)) : LkK ((s, v + 1, -1) :: (x, v, y) :: (y, v, -1) :: S) :=
 ⟨(if_neg (by show ¬ v = v + 1; omega)).symm, (if_pos rfl).symm, Zpe S h⟩
theorem Zpg {l : List Nd} {T : List Seat} (hs : SlotsP l) (hp : (T.map fun x : Seat => x.n.slot).Perm (l.map fun n : Nd => n.slot)) : OnceP l T := by
 refine ⟨by simpa using hp.length_eq.symm, fun i h => ?_⟩
 have h1 := (List.Perm.filter (fun q : Int => decide (q = l[i].slot)) hp).length_eq
 rw [Zee, Zee, List.length_map, List.length_map] at h1
 have h2 : (l.filter fun n => decide (n.slot = l[i].slot)).length = 1 := by
  have := ZgC hs l[i].slot
  unfold atS at this
  rw [this, (hs i h).1, dif_pos ⟨om9, om9, om9⟩]
  rfl
 rw [← h2, ← h1]; rfl
theorem Zph {l : List Nd} (hs : SlotsP l) : (l.map fun n : Nd => n.slot).Nodup := by
 refine List.pairwise_iff_getElem.2 fun i j hi hj hij he => ?_
 rw [List.getElem_map, List.getElem_map] at he
 have h3 := (hs i (by simpa using hi)).1
 have h4 := (hs j (by simpa using hj)).1
 omega
variable {c : Cfg} {l : List Nd} {ss : List Seat}
theorem Tree.perm_s (t : Tree c l ss) : (ss.map fun x : Seat => x.n.slot).Perm (l.map fun n : Nd => n.slot) := by
 have := t.perm.map fun n : Nd => n.slot
 rwa [List.map_map] at this
theorem Tree.nodup_s (t : Tree c l ss) : (ss.map fun x : Seat => x.n.slot).Nodup := (t.perm_s.nodup_iff).2 (Zph t.slot)
theorem ZiC : ∀ {L : List Seat}, (L.map fun x : Seat => x.n.slot).Nodup → ∀ {x y : Seat}, x ∈ L → y ∈ L → x.n.slot = y.n.slot → x = y
 | [], _, _, _, hx, _, _ => by cases hx
 | a :: L, h, x, y, hx, hy, e => by
  rw [List.map_cons, List.nodup_cons] at h
  rcases List.mem_cons.1 hx with e1 | h1
  ·rcases List.mem_cons.1 hy with e2 | h2
   ·rw [e1, e2]
   ·exact absurd (List.mem_map.2 ⟨y, h2, by rw [← e1]; exact e.symm⟩) h.1
  ·rcases List.mem_cons.1 hy with e2 | h2
   ·exact absurd (List.mem_map.2 ⟨x, h1, by rw [← e2]; exact e⟩) h.1
   ·exact ZiC h.2 h1 h2 e
theorem Tree.uniq (t : Tree c l ss) {x y : Seat} (hx : x ∈ ss) (hy : y ∈ ss) (e : x.n.slot = y.n.slot) : x = y := ZiC t.nodup_s hx hy e
theorem ZiD {f : Seat → List Seat} : ∀ {L : List Seat}, ((L.flatMap f).map fun x : Seat => x.n.slot).Nodup → ∀ {x z y y' : Seat}, x ∈ L → z ∈ L → y ∈ f x → y' ∈ f z → y.n.slot = y'.n.slot → x = z
 | [], _, _, _, _, _, hx, _, _, _, _ => by cases hx
 | a :: L, h, x, z, y, y', hx, hz, hy, hy', e => by
  rw [List.flatMap_cons, List.map_append, List.nodup_append] at h
  obtain ⟨h1, h2, h3⟩ := h
  rcases List.mem_cons.1 hx with e1 | g1
  ·rcases List.mem_cons.1 hz with e2 | g2
   ·rw [e1, e2]
   ·exact absurd e (h3 _ (List.mem_map.2 ⟨y, by rw [← e1]; exact hy, rfl⟩) _ (List.mem_map.2 ⟨y', List.mem_flatMap.2 ⟨z, g2, hy'⟩, rfl⟩))
  ·rcases List.mem_cons.1 hz with e2 | g2
   ·exact absurd e.symm (h3 _ (List.mem_map.2 ⟨y', by rw [← e2]; exact hy', rfl⟩) _ (List.mem_map.2 ⟨y, List.mem_flatMap.2 ⟨x, g1, hy⟩, rfl⟩))
   ·exact ZiD h2 g1 g2 hy hy' e
theorem ZiE {f : Seat → List Seat} : ∀ {L : List Seat}, ((L.flatMap f).map fun x : Seat => x.n.slot).Nodup → ∀ {x : Seat}, x ∈ L → ((f x).map fun x : Seat => x.n.slot).Nodup
 | [], _, _, hx => by cases hx
 | a :: L, h, x, hx => by
  rw [List.flatMap_cons, List.map_append, List.nodup_append] at h
  rcases List.mem_cons.1 hx with rfl | hx
  ·exact h.1
  ·exact ZiE h.2.1 hx
theorem Tree.tail_nd (t : Tree c l ss) : ((ss.flatMap (Zk l)).map fun x : Seat => x.n.slot).Nodup := by
 have h := t.nodup_s
 rw [t.fix, List.map_cons, List.nodup_cons] at h
 exact h.2
theorem Tree.root_kid (t : Tree c l ss) {x y : Seat} (hx : x ∈ ss) (hy : y ∈ Zk l x) : y.n.slot ≠ (Zm l 0).n.slot := fun e => by
 have h := t.nodup_s
 rw [t.fix, List.map_cons, List.nodup_cons] at h
 exact h.1 (List.mem_map.2 ⟨y, List.mem_flatMap.2 ⟨x, hx, hy⟩, e⟩)
theorem Tree.parent (t : Tree c l ss) {x z y y' : Seat} (hx : x ∈ ss) (hz : z ∈ ss) (hy : y ∈ Zk l x) (hy' : y' ∈ Zk l z) (e : y.n.slot = y'.n.slot) : x = z := ZiD t.tail_nd hx hz hy hy' e
theorem Tree.kid_nd (t : Tree c l ss) {x : Seat} (hx : x ∈ ss) {i j : Nat} (hi : i < (Zk l x).length) (hj : j < (Zk l x).length) (e : (Zk l x)[i].n.slot = (Zk l x)[j].n.slot) : i = j := by
 have h := ZiE t.tail_nd hx
 have h2 := List.pairwise_iff_getElem.1 h
 simp only [List.length_map, List.getElem_map] at h2
 rcases Nat.lt_trichotomy i j with h3 | h3 | h3
 ·exact absurd e (h2 i j hi hj h3)
 ·exact h3
 ·exact absurd e.symm (h2 j i hj hi h3)
theorem Zdm (hc : CfgR c) (hpos : 0 < l.length) (hsml : Sml l) (hs : SlotsP l) (hfix : ss = Zm l 0 :: ss.flatMap (Zk l)) (hk : ∀ x ∈ ss, (ZZ l x).isSome = true)
  (hp : (ss.map fun x : Seat => x.n.slot).Perm (l.map fun n : Nd => n.slot)) (hlk : LkK (ss.map Seat.key)) (hlen : (l.length : Int) ≤ c.slots) (hseat : ∀ x ∈ ss, SeatP c x) : Tree c l ss :=
 ⟨hc, hpos, hsml, hs, Zpd (by have := ZgD hs hpos; rw [show ((0 : Nat) : Int) = 0 from rfl] at this; rw [this]) hfix hk (by have := hp.length_eq; simp at this; omega),
  ⟨⟨Zpg hs hp, (ZbI ss).2 hlk, hlen⟩, fun i h => hseat _ (List.getElem_mem h)⟩⟩
theorem Tree.two (t : Tree c l ss) {x : Seat} (hx : x ∈ ss) (s : Span) : ZO [Zc s x.n.msgs, Zc s x.ms] = Zc s x.n.msgs ++ Zc s x.ms ∧ Rst (Zc s x.n.msgs ++ Zc s x.ms) := by
 obtain ⟨h1, _, h3⟩ := t.msgs hx
 have hs := (t.seat hx).2.2.2
 refine ZaQ (Jr h1) (Jr (t.rst x hx)) fun a ha b hb => ?_
 obtain ⟨a', ha', e1⟩ := JG ha
 obtain ⟨b', hb', e2⟩ := JG hb
 have := h3 a' ha'
 obtain ⟨i, hi, rfl⟩ := List.getElem_of_mem hb'
 have := hs i hi
 omega
theorem ZbJ {l l' : List Nd} {x y : Seat} {i j : Nat} (hn : (Zr l (x.n.kids.getD i 0)).1 = (Zr l' (y.n.kids.getD j 0)).1)
  (hs : ∀ q, (x.s.meet (Zf x.n.pivots (i : Int))).has q = (y.s.meet (Zf y.n.pivots (j : Int))).has q)
  (hm : ∀ s : Span, s = x.s.meet (Zf x.n.pivots (i : Int)) → ZO [Zc s x.n.msgs, Zc s x.ms] = ZO [Zc s y.n.msgs, Zc s y.ms]) : Zb l x i = Zb l' y j := by
 have e : x.s.meet (Zf x.n.pivots (i : Int)) = y.s.meet (Zf y.n.pivots (j : Int)) := by
  rw [← XN x.s, ← XN y.s]
  exact Zbg hs
 have h := hm _ rfl
 show (⟨_, _, _⟩ : Seat) = ⟨_, _, _⟩
 rw [hn, h, e]
theorem Zfh (A B : List Str) (q : Str) : Zg (A ++ B) q = Zg A q + Zg B q := by
 unfold Zg
 rw [List.filter_append, List.length_append]
theorem Zfi (P : List Str) (h : Nat) (q : Str) : Zg P q = Zg (P.take h) q + Zg (P.drop h) q := by
 rw [← Zfh, List.take_append_drop]
theorem ZiF (P : List Str) (i : Nat) (k q : Str) : Zg ((P.take i ++ [k]) ++ P.drop i) q = Zg P q + if q.lt k = true then 0 else 1 := by
 have e : Zg [k] q = if q.lt k = true then 0 else 1 := by
  unfold Zg
  cases h : q.lt k <;> simp [List.filter_cons, h]
 rw [Zfh, Zfh, e, Zfi P i]
 omega
theorem ZiG {P : List Str} (hr : Z2 P = true) {h : Nat} (hh : h < P.length) {q : Str} (hq : q.lt P[h] = true) : Zg (P.take h) q = Zg P q := by
 have e : Zg (P.drop h) q = 0 := by
  unfold Zg
  rw [List.length_eq_zero_iff, List.filter_eq_nil_iff]
  intro x hx
  obtain ⟨j, hj, rfl⟩ := List.getElem_of_mem hx
  rw [List.getElem_drop]
  rw [List.length_drop] at hj
  by_cases h0 : j = 0
  ·subst h0; simp [hq]
  ·simp [Str.lt_trans hq (JZ hr (h + j) h om9 om9)]
 rw [Zfi P h, e]; omega
theorem ZiH {P : List Str} (hr : Z2 P = true) {h : Nat} (hh : h < P.length) {q : Str} (hq : q.lt P[h] = false) : Zg P q = (h + 1) + Zg (P.drop (h + 1)) q := by
 have e : Zg (P.take (h + 1)) q = h + 1 := by
  unfold Zg
  rw [List.filter_eq_self.2]
  ·rw [List.length_take]; omega
  ·intro x hx
   obtain ⟨j, hj, rfl⟩ := List.getElem_of_mem hx
   rw [List.getElem_take]
   rw [List.length_take] at hj
   cases h2 : q.lt P[j]
   ·rfl
   ·exfalso
    by_cases h0 : j = h
    ·subst h0; rw [hq] at h2; cases h2
    ·have := Str.lt_trans h2 (JZ hr h j om9 om9); rw [hq] at this; cases this
 rw [Zfi P (h + 1), e]
theorem Zpi {K : List Int} {h j : Nat} (hj : j < h) : (K.take h).getD j 0 = K.getD j 0 := by
 rw [List.getD_eq_getElem?_getD, List.getD_eq_getElem?_getD, List.getElem?_take, if_pos hj]
theorem Zpj {K : List Int} {h j : Nat} : (K.drop h).getD j 0 = K.getD (h + j) 0 := by
 rw [List.getD_eq_getElem?_getD, List.getD_eq_getElem?_getD, List.getElem?_drop]
theorem ZaG {l : List Nd} {x : Seat} (h0 : 0 < x.n.level) (h2 : Ys x.n.pivots x.n.kids.length = true) (h : ∀ j, j < x.n.kids.length → YS l x j = true) : (ZZ l x).isSome = true ∧ Zk l x = YL l x x.n.kids.length := by
 have e := Zlg om9 om9 h2 h
 unfold Zk
 rw [e]; exact ⟨rfl, rfl⟩
theorem ZbK {l l' : List Nd} {x y : Seat} {i j : Nat} (hn : Zr l (x.n.kids.getD i 0) = Zr l' (y.n.kids.getD j 0)) (hl : x.n.level = y.n.level) : YS l x i = YS l' y j := by
 unfold YS; rw [hn, hl]
variable {l l' : List Nd} {K A : Seat}
theorem Zpk (hK : (ZZ l K).isSome = true) (h0 : ¬ K.n.level = 0) {h : Nat} (hh : h < K.n.pivots.length)
  (ep : A.n.pivots = K.n.pivots.take h) (ek : A.n.kids = K.n.kids.take (h + 1)) (el : A.n.level = K.n.level) (hs : ∀ q, A.s.has q = (K.s.has q && q.lt K.n.pivots[h]))
  (hm : ∀ s : Span, (∀ q, s.has q = true → A.s.has q = true) → ZO [Zc s A.n.msgs, Zc s A.ms] = ZO [Zc s K.n.msgs, Zc s K.ms])
  (hf : ∀ j, j < K.n.kids.length → Zr l' (K.n.kids.getD j 0) = Zr l (K.n.kids.getD j 0)) :
  (ZZ l' A).isSome = true ∧ Zk l' A = (Zk l K).take (h + 1) := by
 obtain ⟨h1, h2, h3, h4⟩ := Yc hK h0
 obtain ⟨hr, hc⟩ := YQ h3
 have hkl : A.n.kids.length = h + 1 := by rw [ek, List.length_take]; omega
 have hra : Z2 A.n.pivots = true := by rw [ep]; exact Zmb hr _
 have hpl : A.n.pivots.length = h := by rw [ep, List.length_take]; omega
 have hg : ∀ j, j < h + 1 → A.n.kids.getD j 0 = K.n.kids.getD j 0 := fun j hj => by rw [ek, Zpi hj]
 obtain ⟨g1, g2⟩ := ZaG (l := l') (x := A) om9 (Zc3 hra om9) fun j hj => by
  rw [ZbK (l' := l) (y := K) (j := j) (by rw [hg j om9, hf j om9]) el]
  exact h4 j om9
 refine ⟨g1, ?_⟩
 rw [g2, h1, hkl]
 unfold YL
 rw [← List.map_take, List.take_range, show min (h + 1) K.n.kids.length = h + 1 by omega]
 refine List.map_congr_left fun j hj => ?_
 have hj := List.mem_range.1 hj
 refine ZbJ (by rw [hg j hj, hf j om9]) (fun q => ?_) fun s hse => hm s fun q hq => ?_
 ·rw [ZN, ZN, Xv hra q om9, Xv hr q om9, hs q, ep]
  cases hk : q.lt K.n.pivots[h]
  ·have := ZiH hr hh hk
   rw [decide_eq_false (show ¬ j = Zg K.n.pivots q by omega)]; simp
  ·rw [ZiG hr hh hk]; simp
 ·rw [hse, ZN, Bool.and_eq_true] at hq
  exact hq.1
theorem Zpl (hK : (ZZ l K).isSome = true) (h0 : ¬ K.n.level = 0) {h : Nat} (hh : h < K.n.pivots.length)
  (ep : A.n.pivots = K.n.pivots.drop (h + 1)) (ek : A.n.kids = K.n.kids.drop (h + 1)) (el : A.n.level = K.n.level) (hs : ∀ q, A.s.has q = (K.s.has q && !q.lt K.n.pivots[h]))
  (hm : ∀ s : Span, (∀ q, s.has q = true → A.s.has q = true) → ZO [Zc s A.n.msgs, Zc s A.ms] = ZO [Zc s K.n.msgs, Zc s K.ms])
  (hf : ∀ j, j < K.n.kids.length → Zr l' (K.n.kids.getD j 0) = Zr l (K.n.kids.getD j 0)) :
  (ZZ l' A).isSome = true ∧ Zk l' A = (Zk l K).drop (h + 1) := by
 obtain ⟨h1, h2, h3, h4⟩ := Yc hK h0
 obtain ⟨hr, hc⟩ := YQ h3
 have hkl : A.n.kids.length = K.n.kids.length - (h + 1) := by rw [ek, List.length_drop]
 have hra : Z2 A.n.pivots = true := by rw [ep]; exact Zmc hr _
 have hpl : A.n.pivots.length = K.n.pivots.length - (h + 1) := by rw [ep, List.length_drop]
 have hg : ∀ j, A.n.kids.getD j 0 = K.n.kids.getD (h + 1 + j) 0 := fun j => by rw [ek, Zpj]
 obtain ⟨g1, g2⟩ := ZaG (l := l') (x := A) om9 (Zc3 hra om9) fun j hj => by
  rw [ZbK (l' := l) (y := K) (j := h + 1 + j) (by rw [hg j, hf _ om9]) el]
  exact h4 _ om9
 refine ⟨g1, ?_⟩
 rw [g2, h1, hkl]
 refine List.ext_getElem (by simp [YL]) fun j hj hj2 => ?_
 have hj : j < K.n.kids.length - (h + 1) := by simpa [YL] using hj
 rw [List.getElem_drop]
 simp only [YL, List.getElem_map, List.getElem_range]
 refine ZbJ (by rw [hg j, hf _ om9]) (fun q => ?_) fun s hse => hm s fun q hq => ?_
 ·rw [ZN, ZN, Xv hra q om9, Xv hr q om9, hs q, ep]
  cases hk : q.lt K.n.pivots[h]
  ·have := ZiH hr hh hk
   rw [this]
   simp
  ·have h5 := ZiG hr hh hk
   have h6 : Zg (K.n.pivots.take h) q ≤ h := ZuA _ _ _
   rw [decide_eq_false (show ¬ h + 1 + j = Zg K.n.pivots q by omega)]; simp
 ·rw [hse, ZN, Bool.and_eq_true] at hq
  exact hq.1
theorem ZiI {s : Span} (h : s.empty = false) : s.has s.lo = true := by
 have := Span.empty_eq s
 rw [h] at this
 simpa using this
theorem Yp {s : Span} {q : Str} : s.has q = true ↔ q.lt s.lo = false ∧ (s.opn = true ∨ q.lt s.hi = true) := by
 unfold Span.has
 simp
theorem Zpm {s : Span} (h : s.norm = s) (he : s.empty = false) : s.opn = true → s.hi = Str.nil := fun ho => by
 unfold Span.norm at h
 rw [if_neg (by simp [he]), if_pos ho] at h
 rw [← h]
theorem Zpn {s a : Span} {k : Str} (hs : s.norm = s) (ha : a.norm = a) (hk : s.has k = true) (hk2 : k ≠ s.lo) (h : ∀ q, a.has q = (s.has q && q.lt k)) : a = ⟨s.lo, k, false⟩ ∧ s.lo.lt k = true := by
 have h1 := Yp.1 hk
 have h2 : s.lo.lt k = true := by
  cases e : s.lo.lt k
  ·exact absurd (Str.lt_total h1.1 e) hk2
  ·rfl
 refine ⟨?_, h2⟩
 rw [← ha, ← ZeH (s := ⟨s.lo, k, false⟩) (by simp [Span.empty, h2]) rfl]
 refine Zbg fun q => ?_
 rw [h q, Bool.eq_iff_iff, Bool.and_eq_true, Yp, Yp]
 refine ⟨fun ⟨⟨g1, g2⟩, g3⟩ => ⟨g1, .inr g3⟩, fun ⟨g1, g2⟩ => ?_⟩
 have g2 : q.lt k = true := by rcases g2 with g | g; cases g; exact g
 refine ⟨⟨g1, ?_⟩, g2⟩
 rcases h1.2 with g | g
 ·exact .inl g
 ·exact .inr (Str.lt_trans g2 g)
theorem ZiJ {s a : Span} {k : Str} (hs : s.norm = s) (ha : a.norm = a) (hk : s.has k = true) (h : ∀ q, a.has q = (s.has q && !q.lt k)) : a = ⟨k, s.hi, s.opn⟩ := by
 have h1 := Yp.1 hk
 have he : (⟨k, s.hi, s.opn⟩ : Span).empty = false := by
  cases e : (⟨k, s.hi, s.opn⟩ : Span).empty
  ·rfl
  ·have := YO.1 e k
   have h3 : (⟨k, s.hi, s.opn⟩ : Span).has k = true := Yp.2 ⟨Str.lt_irrefl k, h1.2⟩
   rw [h3] at this; cases this
 have hse : s.empty = false := by
  cases e : s.empty
  ·rfl
  ·have := YO.1 e k; rw [hk] at this; cases this
 have hn : (⟨k, s.hi, s.opn⟩ : Span).norm = ⟨k, s.hi, s.opn⟩ := by
  unfold Span.norm
  rw [if_neg (by simp [he])]
  split
  ·rename_i ho
   rw [Zpm hs hse ho]
  ·rfl
 rw [← ha, ← hn]
 refine Zbg fun q => ?_
 rw [h q, Bool.eq_iff_iff, Bool.and_eq_true, Yp, Yp]
 refine ⟨fun ⟨⟨g1, g2⟩, g3⟩ => ⟨by simpa using g3, g2⟩, fun ⟨g1, g2⟩ => ⟨⟨?_, g2⟩, by simpa using g1⟩⟩
 have g1 : q.lt k = false := g1
 cases e : q.lt s.lo
 ·rfl
 ·have := Str.lt_of_lt_of_le e h1.1
  rw [g1] at this; cases this
theorem ZiK {m : Msg} (hm : m.R) (h4 : ¬ m.kind = 4) {q : Str} : m.span.has q = decide (q = m.key) := by
 unfold Msg.span
 rw [if_neg h4]
 exact J9 (by have := hm.1.2.1; omega)
theorem ZcB {m : Msg} {s : Span} (hm : m.R) (h : (m.clip s).2 = true) {q : Str} (hq : (m.clip s).1.span.has q = true) : m.span.has q = true ∧ s.has q = true := by
 by_cases h4 : m.kind = 4
 ·rw [Zb9 h h4, ZN, Bool.and_eq_true] at hq
  exact hq
 ·have e := (Xb h)
  rw [e.2, if_neg h4] at hq
  refine ⟨hq, ?_⟩
  cases hs : s.has q
  ·exfalso
   have : (m.span.meet s).empty = true := YO.2 fun p => by
    rw [ZN, ZiK hm h4]
    by_cases ep : p = m.key
    ·rw [ZiK hm h4, decide_eq_true_eq] at hq
     rw [ep, ← hq, hs]; simp
    ·simp [ep]
   rw [this] at e
   exact absurd e.1 (by simp)
  ·rfl
theorem ZiL {a s : Span} (h : ∀ q, a.has q = true → s.has q = true) : a.meet s = a.norm := by
 rw [← XN]
 refine Zbg fun q => ?_
 rw [ZN]
 cases e : a.has q
 ·rfl
 ·rw [h q e]; rfl
theorem ZiM {a s : Span} (h : a.meet s = a.norm) {q : Str} (hq : a.has q = true) : s.has q = true := by
 have h2 := ZN a s q
 rw [h, Zaz, hq] at h2
 simpa using h2.symm
theorem Zpo {A B K : Seat} {k : Str} {h : Nat} (hP : PairsR K.n.rows) (hms : ∀ m ∈ K.ms, m.R) (ea : A.n.rows = K.n.rows.take h) (eb : B.n.rows = K.n.rows.drop h)
  (ha : ∀ q, A.s.has q = (K.s.has q && q.lt k)) (hb : ∀ q, B.s.has q = (K.s.has q && !q.lt k)) (h1 : ∀ i (hi : i < K.n.rows.length), i < h → K.n.rows[i].key.lt k = true) (h2 : ∀ i (hi : i < K.n.rows.length), h ≤ i → K.n.rows[i].key.lt k = false)
  (ma : Zc A.s A.ms = Zc A.s K.ms) (mb : Zc B.s B.ms = Zc B.s K.ms) : YD A ++ YD B = YD K := by
 have hk : ∀ m ∈ K.ms, m.key.b.size < 140737488355328 := fun m hm => by have := (Y5 (hms m hm)).1; omega
 have fa : (A.n.rows.filter fun p => A.s.has p.key) = K.n.rows.filter fun p => A.s.has p.key := by
  conv => rhs; rw [← List.take_append_drop h K.n.rows]
  rw [List.filter_append, ea, List.filter_eq_nil_iff (l := K.n.rows.drop h) |>.2 ?_, List.append_nil]
  intro p hp
  obtain ⟨i, hi, rfl⟩ := List.getElem_of_mem hp
  rw [List.length_drop] at hi
  rw [List.getElem_drop, ha, h2 _ om9 om9]; simp
 have fb : (B.n.rows.filter fun p => B.s.has p.key) = K.n.rows.filter fun p => B.s.has p.key := by
  conv => rhs; rw [← List.take_append_drop h K.n.rows]
  rw [List.filter_append, eb, List.filter_eq_nil_iff (l := K.n.rows.take h) |>.2 ?_, List.nil_append]
  intro p hp
  obtain ⟨i, hi, rfl⟩ := List.getElem_of_mem hp
  rw [List.length_take] at hi
  rw [List.getElem_take, hb, h1 _ om9 om9]; simp
 have hF := (hP.fold fun m hm => Y5 (hms m hm)).srt (l := Zu K.n.rows K.ms)
 unfold YD
 rw [fa, fb, ma, mb, Zbc hP.srt hk, Zbc hP.srt hk, Zbc hP.srt hk, Ziw hF K.s.has k]
 congr 1
 ·exact List.filter_congr fun p _ => ha _
 ·exact List.filter_congr fun p _ => hb _
def isW (m : Msg) : Bool := decide (m.kind = 4)
def Zj (l : List Msg) : List Msg := if Yv isW l = -1 then l else if Yv isW l = 0 then l.take 1 else l.take (Yv isW l).toNat
def XF (P : List Str) (i : Int) (m : Msg) : Option Msg := if ((Zg P m.key : Nat) : Int) = i ∧ (m.clip (Zf P i)).2 = true then some (m.clip (Zf P i)).1 else none
def Zd (P : List Str) (l : List Msg) (i : Int) : List Msg := (Zj l).filterMap (XF P i)
def Msg.zero : Msg := ⟨0, 0, Str.nil, Str.nil, false, Str.nil⟩
def ZE (m : Msg) (s : Span) : Msg × Bool := if s.opn = true then (Msg.zero, false) else m.clip ⟨s.hi, Str.nil, true⟩
def Y3 (P : List Str) (i : Int) (T : List Msg) (m : Msg) : Option Msg :=
 if m.stamp ∈ T.map Msg.stamp then (if m.kind = 4 ∧ (ZE m (Zf P i)).2 = true then some (ZE m (Zf P i)).1 else none) else some m
def ZM (P : List Str) (i : Int) (T : List Msg) (l : List Msg) : List Msg := l.filterMap (Y3 P i T)
theorem ZiN (P : List Str) (i : Int) (T A B : List Msg) : ZM P i T (A ++ B) = ZM P i T A ++ ZM P i T B := List.filterMap_append
theorem Zdn {P : List Str} {i : Int} {T : List Msg} : ∀ {l : List Msg}, (∀ m ∈ l, ¬ m.stamp ∈ T.map Msg.stamp) → ZM P i T l = l
 | [], _ => rfl
 | m :: l, h => by
  have ih := Zdn (P := P) (i := i) (T := T) (l := l) fun x hx => h x (List.mem_cons_of_mem _ hx)
  unfold ZM at ih ⊢
  rw [List.filterMap_cons, show Y3 P i T m = some m from if_neg (h m (by simp)), ih]
theorem ZiO (P : List Str) (i : Int) (l : List Msg) : ZM P i [] l = l := Zdn fun m _ h => by cases h
theorem Zpp {m : Msg} {s t : Span} (hst : ∀ k, m.span.has k = true → s.has k = true → t.has k = true) : (if (m.clip t).2 = true then (m.clip t).1.clip s else (⟨0, 0, Str.nil, Str.nil, false, Str.nil⟩, false)) = m.clip s := by
 cases h : (m.clip t).2
 ·rw [if_neg (by simp)]
  have h1 := Jq.1 h
  have h2 : (m.span.meet s).empty = true := YO.2 fun k => by
   have := YO.1 h1 k
   rw [ZN] at this ⊢
   cases hm : m.span.has k
   ·rfl
   ·rw [hm, Bool.true_and] at this
    cases hs : s.has k
    ·rfl
    ·rw [hst k hm hs] at this; cases this
  rw [Jb h2]
 ·rw [if_pos rfl]
  by_cases k : m.kind = 4
  ·have hs := Zb9 h k
   have k2 : (m.clip t).1.kind = 4 := by rw [(Xb h).2, if_pos k]; exact k
   have e : (m.span.meet t).meet s = m.span.meet s := ZgF fun q => by
    rw [ZN]
    cases hm : m.span.has q
    ·simp
    ·cases hs : s.has q
     ·simp
     ·rw [hst q hm hs]; simp
   cases he : (m.span.meet s).empty
   ·rw [Jc (by rw [hs, e]; exact he) k2, Jc he k, hs, e, (Xb h).2, if_pos k]
   ·rw [Jb (by rw [hs, e]; exact he), Jb he]
  ·rw [(Xb h).2, if_neg k]
theorem Zpq {m : Msg} {s t : Span} (h : ∀ k, m.span.has k = true → s.has k = t.has k) : m.clip s = m.clip t := by
 have e : m.span.meet s = m.span.meet t := ZgF fun k => by
  cases hm : m.span.has k
  ·rfl
  ·rw [h k hm]
 unfold Msg.clip
 rw [e]
theorem ZiP {s : Span} : ∀ {l : List Msg}, (∀ m ∈ l, ∀ k, m.span.has k = true → s.has k = false) → Zc s l = []
 | [], _ => rfl
 | m :: l, h => by
  rw [Xr, if_neg, ZiP fun x hx => h x (List.mem_cons_of_mem _ hx)]
  rw [Jq.2 (YO.2 fun k => by
   rw [ZN]
   cases hm : m.span.has k
   ·rfl
   ·rw [h m (by simp) k hm]; rfl)]
  simp
theorem Zfj {m : Msg} (hR : m.R) (h : ¬ m.kind = 4) (k : Str) : m.span.has k = decide (k = m.key) := by
 have : m.span = ⟨m.key, m.key.next, false⟩ := by unfold Msg.span; rw [if_neg h]
 rw [this, J9 (by have := hR.1.2.1; omega)]
theorem Zfk {m : Msg} (hR : m.R) (h : ¬ m.kind = 4) (s : Span) : (m.clip s).2 = s.has m.key ∧ ((m.clip s).2 = true → (m.clip s).1 = m) := by
 refine ⟨?_, fun h2 => by rw [(Xb h2).2, if_neg h]⟩
 cases h2 : (m.clip s).2
 ·have := YO.1 (Jq.1 h2) m.key
  rw [ZN, Zfj hR h, decide_eq_true rfl, Bool.true_and] at this
  exact this.symm
 ·cases h3 : s.has m.key
  ·exfalso
   have : (m.clip s).2 = false := Jq.2 (YO.2 fun k => by
    rw [ZN, Zfj hR h]
    by_cases e : k = m.key
    ·rw [e, h3]; simp
    ·simp [e])
   rw [this] at h2; cases h2
  ·rfl
theorem Zfl {α : Type} (g : α → Bool) : ∀ (F : List α) (n : Nat), ∃ q, (F.take q).filter g = (F.filter g).take n
 | [], n => ⟨0, by simp⟩
 | a :: F, 0 => ⟨0, by simp⟩
 | a :: F, n + 1 => by
  cases h : g a
  ·obtain ⟨q, hq⟩ := Zfl g F (n + 1)
   exact ⟨q + 1, by rw [List.take_succ_cons, List.filter_cons_of_neg (by simp [h]), List.filter_cons_of_neg (by simp [h]), hq]⟩
  ·obtain ⟨q, hq⟩ := Zfl g F n
   exact ⟨q + 1, by rw [List.take_succ_cons, List.filter_cons_of_pos h, List.filter_cons_of_pos h, hq, List.take_succ_cons]⟩
theorem Zpr (l : List Msg) : (∃ w R, l = w :: R ∧ w.kind = 4 ∧ Zj l = [w]) ∨ ∃ F R, l = F ++ R ∧ Zj l = F ∧ ∀ m ∈ F, ¬ m.kind = 4 := by
 rcases ZcO isW l with ⟨h, h2⟩ | ⟨k, hk, h, h2, h3⟩
 ·refine .inr ⟨l, [], by simp, by unfold Zj; rw [if_pos h], fun m hm e => ?_⟩
  have := h2 m hm
  simp [isW, e] at this
 ·cases k with
  | zero =>
   left
   match l, hk with
   | w :: R, _ => exact ⟨w, R, rfl, by simpa [isW] using h2, by unfold Zj; rw [if_neg (by rw [h]; decide), if_pos (by rw [h]; rfl)]; rfl⟩
  | succ k =>
   right
   refine ⟨l.take (k + 1), l.drop (k + 1), (List.take_append_drop _ _).symm, by unfold Zj; rw [if_neg (by rw [h]; omega), if_neg (by rw [h]; omega), h]; rfl, fun m hm e => ?_⟩
   obtain ⟨j, hj, rfl⟩ := List.getElem_of_mem hm
   rw [List.length_take] at hj
   rw [List.getElem_take] at e
   have := h3 j om9 om9
   simp [isW, e] at this
theorem Zdo {l : List Msg} (h : MsgsR l) : Rst l := (MsgsR.iff.1 h).2
inductive Moved (P : List Str) (i : Nat) (l T : List Msg) : Prop
 | none (hT : T = []) : Moved P i l T
 | wipe (w : Msg) (R : List Msg) (hl : l = w :: R) (hk : w.kind = 4) (hr : Zg P w.key = i) (hc : (w.clip (Zf P i)).2 = true) (hT : T = [(w.clip (Zf P i)).1])
   (hA : ZM P i T l = (if (ZE w (Zf P i)).2 = true then [(ZE w (Zf P i)).1] else []) ++ R) : Moved P i l T
 | points (F R : List Msg) (hl : l = F ++ R) (hF : ∀ m ∈ F, ¬ m.kind = 4) (hT : T = F.filter fun m => decide (Zg P m.key = i)) (hA : ZM P i T l = (F.filter fun m => !decide (Zg P m.key = i)) ++ R) : Moved P i l T
theorem ZaH {A B : List Msg} (h : Rst (A ++ B)) : Rst A ∧ Rst B ∧ ∀ a ∈ A, ∀ b ∈ B, a.stamp < b.stamp := List.pairwise_append.1 h
theorem ZiQ : ∀ {l : List Msg}, Rst l → ∀ {a b : Msg}, a ∈ l → b ∈ l → a.stamp = b.stamp → a = b
 | [], _, _, _, ha, _, _ => by cases ha
 | x :: l, h, a, b, ha, hb, e => by
  obtain ⟨h1, h2⟩ := List.pairwise_cons.1 h
  rcases List.mem_cons.1 ha with ea | ha2
  ·rcases List.mem_cons.1 hb with eb | hb2
   ·rw [ea, eb]
   ·have := h1 b hb2; rw [ea] at e; omega
  ·rcases List.mem_cons.1 hb with eb | hb2
   ·have := h1 a ha2; rw [eb] at e; omega
   ·exact ZiQ h2 ha2 hb2 e
theorem ZiR {P : List Str} {i : Nat} {l : List Msg} (hP : Z2 P = true) (hi : i ≤ P.length) (hm : MsgsR l) (n : Nat) : Moved P i l ((Zd P l i).take n) := by
 have hR := (MsgsR.iff.1 hm).1
 have hs := Zdo hm
 rcases Zpr l with ⟨w, R, rfl, hk, hf⟩ | ⟨F, R, rfl, hf, hF⟩
 ·by_cases hT : (Zd P (w :: R) i).take n = []
  ·exact .none hT
  ·have e0 : Zd P (w :: R) i = (XF P i w).toList := by unfold Zd; rw [hf]; cases h : XF P i w <;> simp [h]
   have hw : (Zg P w.key = i) ∧ (w.clip (Zf P i)).2 = true := by
    by_cases h : ((Zg P w.key : Nat) : Int) = i ∧ (w.clip (Zf P i)).2 = true
    ·exact ⟨om9, h.2⟩
    ·exact absurd (by rw [e0, show XF P i w = none from if_neg h]; simp) hT
   have e1 : Zd P (w :: R) i = [(w.clip (Zf P i)).1] := by rw [e0, show XF P i w = some _ from if_pos ⟨om9, hw.2⟩]; rfl
   have e2 : (Zd P (w :: R) i).take n = [(w.clip (Zf P i)).1] := by
    rw [e1] at hT ⊢
    cases n with
    | zero => exact absurd rfl hT
    | succ n => rw [List.take_succ_cons, List.take_nil]
   refine .wipe w R rfl hk hw.1 hw.2 e2 ?_
   rw [e2]
   have hst : (w.clip (Zf P i)).1.stamp = w.stamp := X0 hw.2
   rw [show w :: R = [w] ++ R from rfl, ZiN, Zdn (l := R) fun m hm h => ?_]
   ·congr 1
    unfold ZM Y3
    by_cases h : (ZE w (Zf P i)).2 = true
    ·rw [if_pos h]; simp [hst, hk, h]
    ·rw [if_neg h]; simp [hst, hk, h]
   ·have := (List.pairwise_cons.1 hs).1 m hm
    simp [hst] at h
    omega
 ·obtain ⟨q, hq⟩ := Zfl (fun m : Msg => decide (Zg P m.key = i)) F n
  have hRF : ∀ m ∈ F, m.R := fun m h => hR m (List.mem_append_left _ h)
  have hfor : ∀ (G : List Msg), (∀ m ∈ G, m ∈ F) → G.filterMap (XF P i) = G.filter fun m => decide (Zg P m.key = i) := fun G => by
   induction G with
   | nil => intro _; rfl
   | cons m G ih =>
    intro hG
    have hmF := hG m (by simp)
    have hc := Zfk (hRF m hmF) (hF m hmF) (Zf P i)
    rw [Xv hP _ hi] at hc
    rw [List.filterMap_cons, ih fun x hx => hG x (List.mem_cons_of_mem _ hx)]
    by_cases e : Zg P m.key = i
    ·have h2 : (m.clip (Zf P i)).2 = true := by rw [hc.1, decide_eq_true e.symm]
     rw [show XF P i m = some m from (if_pos ⟨om9, h2⟩).trans (congrArg some (hc.2 h2)), List.filter_cons_of_pos (by simp [e])]
    ·rw [show XF P i m = none from if_neg fun h => e om9, List.filter_cons_of_neg (by simp [e])]
  have hT : (Zd P (F ++ R) i).take n = (F.take q).filter fun m => decide (Zg P m.key = i) := by
   unfold Zd
   rw [hf, hfor F (fun m h => h), hq]
  refine .points (F.take q) (F.drop q ++ R) (by rw [← List.append_assoc, List.take_append_drop]) (fun m hm => hF m (List.mem_of_mem_take hm)) hT ?_
  rw [hT]
  have hl : F ++ R = F.take q ++ (F.drop q ++ R) := by rw [← List.append_assoc, List.take_append_drop]
  rw [hl] at hs ⊢
  obtain ⟨s1, s2, s3⟩ := ZaH hs
  rw [ZiN, Zdn (l := F.drop q ++ R) fun m hm h => ?_]
  ·congr 1
   generalize hFq : F.take q = G at *
   have hGF : ∀ m ∈ G, ¬ m.kind = 4 := fun m hm => hF m (by rw [← hFq] at hm; exact List.mem_of_mem_take hm)
   have key : ∀ (H : List Msg), (∀ m ∈ H, m ∈ G) → ZM P i (G.filter fun m => decide (Zg P m.key = i)) H = H.filter fun m => !decide (Zg P m.key = i) := fun H => by
    induction H with
    | nil => intro _; rfl
    | cons m H ih =>
     intro hH
     have hmG := hH m (by simp)
     have ih := ih fun x hx => hH x (List.mem_cons_of_mem _ hx)
     unfold ZM at ih ⊢
     rw [List.filterMap_cons, ih]
     by_cases e : Zg P m.key = i
     ·have : m.stamp ∈ (G.filter fun m => decide (Zg P m.key = i)).map Msg.stamp := List.mem_map.2 ⟨m, List.mem_filter.2 ⟨hmG, by simp [e]⟩, rfl⟩
      rw [show Y3 P i (G.filter fun m => decide (Zg P m.key = i)) m = none from (if_pos this).trans (if_neg fun h => hGF m hmG h.1), List.filter_cons_of_neg (by simp [e])]
     ·have : ¬ m.stamp ∈ (G.filter fun m => decide (Zg P m.key = i)).map Msg.stamp := fun h => by
       obtain ⟨x, hx, hxs⟩ := List.mem_map.1 h
       obtain ⟨hx1, hx2⟩ := List.mem_filter.1 hx
       rw [ZiQ s1 hx1 hmG hxs] at hx2
       simp [e] at hx2
      rw [show Y3 P i (G.filter fun m => decide (Zg P m.key = i)) m = some m from if_neg this, List.filter_cons_of_pos (by simp [e])]
   exact key G fun m h => h
  ·obtain ⟨x, hx, hxs⟩ := List.mem_map.1 h
   have := s3 x (List.mem_filter.1 hx).1 m hm
   omega
section
variable {P : List Str} {i : Nat} {l T : List Msg} (hP : Z2 P = true) (hi : i ≤ P.length) (hm : MsgsR l) (h : Moved P i l T)
include hP hi hm h
theorem Moved.clips_in {s : Span} (hs : ∀ k, s.has k = true → (Zf P i).has k = true) (hS : ∀ m ∈ l, ∀ k, m.span.has k = true → (Zf P i).has k = true → s.has k = true) : Zc s l = T ++ Zc s (ZM P i T l) := by
 have hR := (MsgsR.iff.1 hm).1
 cases h with
 | none hT => rw [hT, ZiO]; rfl
 | wipe w R hl hk hr hc hT hA =>
  subst hl
  have e1 : w.clip s = w.clip (Zf P i) := Zpq fun k hk => by
   cases h1 : (Zf P i).has k
   ·cases h2 : s.has k
    ·rfl
    ·rw [hs k h2] at h1; cases h1
   ·exact hS w (by simp) k hk h1
  have e2 : Zc s (if (ZE w (Zf P i)).2 = true then [(ZE w (Zf P i)).1] else []) = [] := by
   by_cases h2 : (ZE w (Zf P i)).2 = true
   ·rw [if_pos h2]
    unfold ZE at h2 ⊢
    by_cases ho : (Zf P i).opn = true
    ·rw [if_pos ho] at h2; cases h2
    ·rw [if_neg ho] at h2 ⊢
     refine ZiP fun m hm k hk2 => ?_
     rw [List.mem_singleton] at hm
     subst hm
     rw [Zb9 h2 hk, ZN, Bool.and_eq_true] at hk2
     cases h3 : s.has k
     ·rfl
     ·have a1 := (Yp.1 (hs k h3)).2
      have a2 := (Yp.1 hk2.2).1
      rcases a1 with a1 | a1
      ·exact absurd a1 ho
      ·rw [show (⟨(Zf P i).hi, Str.nil, true⟩ : Span).lo = (Zf P i).hi from rfl, a1] at a2; cases a2
   ·rw [if_neg h2]; rfl
  rw [hA, X9, e2, Xr, e1, if_pos hc, hT]; rfl
 | points F R hl hF hT hA =>
  subst hl
  have hRF : ∀ m ∈ F, m.R := fun m h => hR m (List.mem_append_left _ h)
  have key : ∀ (G : List Msg), (∀ m ∈ G, m ∈ F) → Zc s G = G.filter (fun m => decide (Zg P m.key = i)) ∧ Zc s (G.filter fun m => !decide (Zg P m.key = i)) = [] := fun G => by
   induction G with
   | nil => intro _; exact ⟨rfl, rfl⟩
   | cons m G ih =>
    intro hG
    have hmF := hG m (by simp)
    obtain ⟨i1, i2⟩ := ih fun x hx => hG x (List.mem_cons_of_mem _ hx)
    have hc := Zfk (hRF m hmF) (hF m hmF) s
    have hk : m.span.has m.key = true := by rw [Zfj (hRF m hmF) (hF m hmF)]; simp
    have hrg := Xv hP m.key hi
    by_cases e : Zg P m.key = i
    ·have h1 : s.has m.key = true := hS m (List.mem_append_left _ hmF) m.key hk (by rw [hrg, decide_eq_true e.symm])
     rw [h1] at hc
     refine ⟨?_, by rw [List.filter_cons_of_neg (by simp [e])]; exact i2⟩
     rw [Xr, if_pos hc.1, hc.2 hc.1, i1, List.filter_cons_of_pos (by simp [e])]
    ·have h1 : s.has m.key = false := by
      cases h1 : s.has m.key
      ·rfl
      ·have := hs _ h1; rw [hrg, decide_eq_true_eq] at this; exact absurd this.symm e
     rw [h1] at hc
     refine ⟨?_, ?_⟩
     ·rw [Xr, if_neg (by simp [hc.1]), i1, List.filter_cons_of_neg (by simp [e])]
     ·rw [List.filter_cons_of_pos (by simp [e]), Xr, if_neg (by simp [hc.1]), i2]
  obtain ⟨k1, k2⟩ := key F fun m h => h
  rw [hA, X9, X9, k1, k2, hT]; rfl
theorem Moved.clips_out {t : Span} (ht : ∀ k, t.has k = true → (Zf P i).has k = false) : Zc t (ZM P i T l) = Zc t l := by
 have hR := (MsgsR.iff.1 hm).1
 cases h with
 | none hT => rw [hT, ZiO]
 | wipe w R hl hk hr hc hT hA =>
  subst hl
  rw [hA, X9, Xr]
  have hwk : (Zf P i).has w.key = true := by rw [Xv hP _ hi, decide_eq_true hr.symm]
  have hlo : ∀ k, w.span.has k = true → k.lt (Zf P i).lo = false := fun k h1 => by
   have hsp : w.span = ⟨w.key, w.hi, w.opn⟩ := by unfold Msg.span; rw [if_pos hk]
   rw [hsp] at h1
   have a1 := (Yp.1 h1).1
   have a2 := (Yp.1 hwk).1
   exact Str.le_trans a2 a1
  have e2 : Zc t (if (ZE w (Zf P i)).2 = true then [(ZE w (Zf P i)).1] else []) = if (w.clip t).2 = true then [(w.clip t).1] else [] := by
   unfold ZE
   by_cases ho : (Zf P i).opn = true
   ·rw [if_pos ho, if_neg (by simp), if_neg]
    ·rfl
    ·rw [Jq.2 (YO.2 fun k => by
      rw [ZN]
      cases h1 : w.span.has k
      ·rfl
      ·cases h2 : t.has k
       ·rfl
       ·have := ht k h2
        rw [Yp.2 ⟨hlo k h1, .inl ho⟩] at this; cases this)]
     simp
   ·rw [if_neg ho]
    have e := Zpp (m := w) (s := t) (t := ⟨(Zf P i).hi, Str.nil, true⟩) fun k h1 h2 => by
     refine Yp.2 ⟨?_, .inl rfl⟩
     show k.lt (Zf P i).hi = false
     cases h3 : k.lt (Zf P i).hi
     ·rfl
     ·have := ht k h2
      rw [Yp.2 ⟨hlo k h1, .inr h3⟩] at this; cases this
    cases h2 : (w.clip ⟨(Zf P i).hi, Str.nil, true⟩).2
    ·rw [h2, if_neg (by simp)] at e
     rw [← e, if_neg (by simp), if_neg (by simp)]; rfl
    ·rw [h2, if_pos rfl] at e
     rw [if_pos rfl, Xr, e]; rfl
  rw [e2]
  by_cases h2 : (w.clip t).2 = true
  ·rw [if_pos h2, if_pos h2]; rfl
  ·rw [if_neg h2, if_neg h2]; rfl
 | points F R hl hF hT hA =>
  subst hl
  have hRF : ∀ m ∈ F, m.R := fun m h => hR m (List.mem_append_left _ h)
  rw [hA, X9, X9]
  congr 1
  have key : ∀ (G : List Msg), (∀ m ∈ G, m ∈ F) → Zc t (G.filter fun m => !decide (Zg P m.key = i)) = Zc t G := fun G => by
   induction G with
   | nil => intro _; rfl
   | cons m G ih =>
    intro hG
    have hmF := hG m (by simp)
    have ih := ih fun x hx => hG x (List.mem_cons_of_mem _ hx)
    have hc := Zfk (hRF m hmF) (hF m hmF) t
    by_cases e : Zg P m.key = i
    ·have h1 : t.has m.key = false := by
      cases h1 : t.has m.key
      ·rfl
      ·have := ht _ h1; rw [Xv hP _ hi, decide_eq_false_iff_not] at this; exact absurd e.symm this
     rw [h1] at hc
     rw [List.filter_cons_of_neg (by simp [e]), ih, Xr, if_neg (by simp [hc.1])]
    ·rw [List.filter_cons_of_pos (by simp [e]), Xr, Xr, ih]
  exact key F fun m h => h
end
variable {c : Cfg} {l : List Nd} {ss : List Seat}
def Wst (l : List Msg) : Prop := l.Pairwise fun a b => a.stamp ≤ b.stamp
theorem Rst.wst {l : List Msg} (h : Rst l) : Wst l := h.imp fun h => Int.le_of_lt h
theorem Zps {m : Msg} {s : Span} {k : Str} (hk : s.has k = true) : (m.clip s).2 = true → (m.clip s).1.on k = m.on k := fun h => by
 by_cases h4 : m.kind = 4
 ·have h5 := Zb9 h h4
  have k2 : (m.clip s).1.kind = 4 := by rw [(Xb h).2, if_pos h4]; exact h4
  unfold Msg.on
  rw [h5, ZN, hk, Bool.and_true, k2, h4]; rfl
 ·rw [(Xb h).2, if_neg h4]
theorem Zfm {s : Span} {k : Str} (hk : s.has k = true) : ∀ (A : List Msg) (o : Option Str), (Zc s A).foldl (fun o m => (m.on k).apply o) o = A.foldl (fun o m => (m.on k).apply o) o
 | [], o => rfl
 | m :: A, o => by
  rw [Xr, List.foldl_cons]
  cases h : (m.clip s).2
  ·rw [if_neg (by simp), Zfm hk A]
   have := YO.1 (Jq.1 h) k
   rw [ZN, hk, Bool.and_true] at this
   have e : m.on k = Eff.zero := by unfold Msg.on; rw [if_pos (.inl this)]
   rw [e]; rfl
  ·rw [if_pos rfl, List.foldl_cons, Zps hk h, Zfm hk A]
def ptS (k : Str) : Span := ⟨k, k.next, false⟩
structure Gp (l : List Nd) (ss : List Seat) (k : Str) (x : Seat) (W : List Msg) : Prop where
 mem : x ∈ ss
 has : x.s.has k = true
 wst : Wst W
 eq : Zc (ptS k) W = Zc (ptS k) x.ms
 fit : ∀ m ∈ W, m.R
 len : W.length ≤ 1024 * ((Zm l 0).n.level - x.n.level).toNat
section
variable {α : Type} {E : Env} {f : Fr} {G : GH} {M Mk Ms Mr : MH} {ops rest : List Oper} {q : Bool} {K : Kt} {d : Nat} {ty : TypeId} {pos : String} {aft : Array Edge} {t et : TypeId} {x y kk : Operand} {b : Nat} {k : Int} {m : List (Int × α)} {V : VEnc α}
end
def Yg (bud : Int) (ms : List Msg) (m : Msg) : Bool := decide (m.size ≤ bud - Zw ms) && (ms.getLast?.all fun x => decide (x.stamp < m.stamp))
def Xf (bud : Int) : List Msg → List Msg → Nat
 | _, [] => 0
 | ms, m :: l => if Yg bud ms m = true then Xf bud (ms ++ [m]) l + 1 else 0
def Zt (leaf bud : Int) (k : Nd) (l : List Msg) : Nd × Nat :=
 if k.level = 0 then ({ k with rows := (Ye leaf k.rows l).1 }, (Ye leaf k.rows l).2) else ({ k with msgs := k.msgs ++ l.take (Xf bud k.msgs l) }, Xf bud k.msgs l)
def KidOf (p k : Nd) (i : Int) : Prop := 1 ≤ p.level ∧ k.level = p.level - 1 ∧ 0 ≤ i ∧ i < (p.kids.length : Int)
instance (p k : Nd) (i : Int) : Decidable (KidOf p k i) := by unfold KidOf; infer_instance
noncomputable def ZY (leaf bud : Int) (p k : Nd) (i : Int) : Nat := if KidOf p k i then (Zt leaf bud k (Zd p.pivots p.msgs i)).2 else 0
noncomputable def Z9 (leaf bud : Int) (p k : Nd) (i : Int) : Nd × Nd × Nat :=
 if ZY leaf bud p k i = 0 then (p, k, 0)
 else ({ p with msgs := ZM p.pivots i ((Zd p.pivots p.msgs i).take (ZY leaf bud p k i)) p.msgs },
  { (Zt leaf bud k (Zd p.pivots p.msgs i)).1 with seen := (((Zd p.pivots p.msgs i).take (ZY leaf bud p k i)).getLast?.getD Msg.zero).stamp }, ZY leaf bud p k i)
theorem ZiS (bud : Int) : ∀ (l ms : List Msg), Xf bud ms l ≤ l.length
 | [], _ => Nat.le_refl _
 | m :: l, ms => by
  unfold Xf
  split
  ·have := ZiS bud l (ms ++ [m]); simp; omega
  ·omega
theorem ZiT (leaf bud : Int) (k : Nd) (l : List Msg) : (Zt leaf bud k l).2 ≤ l.length := by
 unfold Zt
 split
 ·exact Zgl _ _ _
 ·exact ZiS _ _ _
theorem Zdp (A B : List Msg) : Zw (A ++ B) = Zw A + Zw B := by simp [Zw]
theorem ZiU (bud : Int) : ∀ (l ms : List Msg), Zw ms ≤ bud → Zw (ms ++ l.take (Xf bud ms l)) ≤ bud
 | [], ms, h => by simpa using h
 | m :: l, ms, h => by
  unfold Xf
  split
  ·rename_i hr
   have hr2 : m.size ≤ bud - Zw ms := by unfold Yg at hr; rw [Bool.and_eq_true, decide_eq_true_eq] at hr; exact hr.1
   have := ZiU bud l (ms ++ [m]) (by rw [Zdp]; show _ + (m.size + 0) ≤ _; omega)
   rw [List.append_assoc] at this
   exact this
  ·simpa using h
def Nd.spanN (n : Nd) : Span := if n.top = true then Span.all else Span.norm ⟨Str.nil, n.high, false⟩
theorem Zpt (n : Nd) (k : Str) : n.spanN.has k = n.has k := by
 unfold Nd.spanN Nd.has
 cases n.top
 ·rw [if_neg (by simp), Zaz]
  unfold Span.has
  simp [Str.nil_le]
 ·rw [if_pos rfl, Zax]; rfl
def YH (p : Nd) (i : Int) : Span := p.spanN.meet (Zf p.pivots i)
def MayP (c : Cfg) (p k : Nd) (i : Int) : Prop := (p.R c.fan c.leaf c.bud ∧ k.R c.fan c.leaf c.bud ∧ KidOf p k i) ∧ (k.top = (YH p i).opn ∧ k.high = (YH p i).hi) ∧ ∀ j (h : j < p.msgs.length), (p.msgs[j].span.meet (YH p i)).empty = false → k.seen < p.msgs[j].stamp
instance (c : Cfg) (p k : Nd) (i : Int) : Decidable (MayP c p k i) := by unfold MayP; infer_instance
theorem Zdq {n : Nd} {m : Msg} (hm : m.R) : (n.top = true ∨ (m.span.opn = false ∧ n.high.lt m.span.hi = false)) ↔ ∀ k, m.span.has k = true → n.has k = true := by
 have hne : m.span.empty = false := by
  cases h : m.span.empty
  ·rfl
  ·have := YO.1 h m.key; rw [Msg.has_key hm] at this; cases this
 have hlo : m.span.opn = true ∨ m.span.lo.lt m.span.hi = true := by
  have := hne; unfold Span.empty at this
  cases h : m.span.opn
  ·right; simpa [h] using this
  ·exact .inl rfl
 constructor
 ·rintro (h | ⟨h1, h2⟩) k hk
  ·unfold Nd.has; rw [h]; rfl
  ·have := (Yp.1 hk).2
   rcases this with h3 | h3
   ·rw [h1] at h3; cases h3
   ·unfold Nd.has; rw [Str.lt_of_lt_of_le h3 h2]; simp
 ·intro h
  cases ht : n.top
  ·right
   have key : ∀ q, m.span.has q = true → q.lt n.high = true := fun q hq => by
    have := h q hq; unfold Nd.has at this; rw [ht] at this; simpa using this
   -- the greater one of two texts
   have mx : m.span.has (if m.span.lo.lt n.high = true then n.high else m.span.lo) = true → False := fun hq => by
    have := key _ hq
    split at this
    ·rw [Str.lt_irrefl] at this; cases this
    ·rename_i h1; exact h1 this
   have hmx : (if m.span.lo.lt n.high = true then n.high else m.span.lo).lt m.span.lo = false := by
    split
    ·rename_i h1; exact Str.lt_asymm h1
    ·exact Str.lt_irrefl _
   cases ho : m.span.opn
   ·refine ⟨rfl, ?_⟩
    cases h2 : n.high.lt m.span.hi
    ·rfl
    ·exfalso
     refine mx (Yp.2 ⟨hmx, .inr ?_⟩)
     split
     ·exact h2
     ·rcases hlo with h3 | h3
      ·rw [ho] at h3; cases h3
      ·exact h3
   ·exact absurd (Yp.2 ⟨hmx, .inl ho⟩) (fun hq => mx hq)
  ·exact .inl rfl
theorem ZiV {P : List Str} {i : Int} {T : List Msg} {m m' : Msg} (h : Y3 P i T m = some m') : m' = m ∨ ((Zf P i).opn = false ∧ (m.clip ⟨(Zf P i).hi, Str.nil, true⟩).2 = true ∧ m' = (m.clip ⟨(Zf P i).hi, Str.nil, true⟩).1) := by
 unfold Y3 at h
 split at h
 ·split at h
  ·rename_i h2
   cases h
   right
   have h3 := h2.2
   unfold ZE at h3 ⊢
   split at h3
   ·cases h3
   ·rename_i h4
    rw [if_neg h4]
    exact ⟨by simpa using h4, h3, rfl⟩
  ·cases h
 ·cases h; exact .inl rfl
theorem Zfn {P : List Str} {i : Int} {T : List Msg} {m m' : Msg} (h : Y3 P i T m = some m') : m'.stamp = m.stamp ∧ m'.size = m.size := by
 rcases ZiV h with rfl | ⟨_, h2, rfl⟩
 ·exact ⟨rfl, rfl⟩
 ·exact ⟨X0 h2, Zhm h2⟩
theorem Zpu {P : List Str} {i : Int} {T l : List Msg} {m' : Msg} (h : m' ∈ ZM P i T l) : ∃ m ∈ l, Y3 P i T m = some m' := List.mem_filterMap.1 h
theorem Zpv {P : List Str} {i : Int} {T l : List Msg} (h : Rst l) : Rst (ZM P i T l) := by
 unfold Rst ZM
 rw [List.pairwise_filterMap]
 refine List.Pairwise.imp (fun {a b} hab x hx y hy => ?_) h
 have := (Zfn hx).1
 have := (Zfn hy).1
 omega
theorem ZiW (m : Msg) : 0 ≤ m.size := by unfold Msg.size; split <;> omega
theorem ZiX (P : List Str) (i : Int) (T : List Msg) : ∀ (l : List Msg), Zw (ZM P i T l) ≤ Zw l
 | [] => Int.le_refl _
 | m :: l => by
  have ih := ZiX P i T l
  have hp := ZiW m
  unfold ZM at ih ⊢
  rw [List.filterMap_cons]
  have e : Zw (m :: l) = m.size + Zw l := by simp [Zw]
  split
  ·omega
  ·rename_i m' h
   have := (Zfn h).2
   have e2 : ∀ L, Zw (m' :: L) = m'.size + Zw L := fun L => by simp [Zw]
   rw [e2]; omega
theorem Zfo {P : List Str} {i : Int} {T l : List Msg} (hP : ∀ k ∈ P, k.b.size ≤ 16) (hl : ∀ m ∈ l, m.R) {m' : Msg} (h : m' ∈ ZM P i T l) : m'.R ∧ ∃ m ∈ l, m'.stamp = m.stamp ∧ ∀ q, m'.span.has q = true → m.span.has q = true := by
 obtain ⟨m, hm, h2⟩ := Zpu h
 rcases ZiV h2 with rfl | ⟨_, h3, rfl⟩
 ·exact ⟨hl _ hm, m', hm, rfl, fun q hq => hq⟩
 ·have hr := Zb7 (p := P) (i := i) (n := 16) hP
  exact ⟨ZaX (hl m hm) hr.2 (by show Str.nil.b.size ≤ 16; decide) h3, m, hm, X0 h3, fun q hq => (ZcB (hl m hm) h3 hq).1⟩
theorem Zpw {l : List Msg} {n : Nat} (h : 0 < n) (hl : n ≤ l.length) : ∃ x ∈ l.take n, (l.take n).getLast?.getD Msg.zero = x ∧ ∀ y ∈ l.take n, Rst l → y.stamp ≤ x.stamp := by
 obtain ⟨j, rfl⟩ : ∃ j, n = j + 1 := ⟨n - 1, om9⟩
 have e : l.take (j + 1) = l.take j ++ [l[j]] := List.take_succ_eq_append_getElem om9
 refine ⟨l[j], by rw [e]; exact List.mem_append_right _ (List.mem_singleton.2 rfl), by rw [e, List.getLast?_concat]; rfl, fun y hy hr => ?_⟩
 rw [e, List.mem_append, List.mem_singleton] at hy
 rcases hy with hy | rfl
 ·obtain ⟨q, hq, rfl⟩ := List.getElem_of_mem hy
  rw [List.length_take] at hq
  rw [List.getElem_take]
  have := List.pairwise_iff_getElem.1 hr q j om9 om9 om9
  omega
 ·omega
structure Poured (c : Cfg) (p k : Nd) (i : Int) (a b : Nd) (T : List Msg) : Prop where
 ne : 0 < T.length
 ea : a = { p with msgs := ZM p.pivots i T p.msgs }
 eb : b = { k with rows := b.rows, msgs := b.msgs, seen := b.seen }
 leaf : k.level = 0 → b.msgs = k.msgs ∧ b.rows = Zu k.rows T ∧ (PairsR k.rows → (∀ m ∈ Zd p.pivots p.msgs i, m.R) → (k.rows.length : Int) ≤ c.leaf → (b.rows.length : Int) ≤ c.leaf)
 inner : ¬ k.level = 0 → b.rows = k.rows ∧ b.msgs = k.msgs ++ T ∧ (Zw k.msgs ≤ c.bud → Zw b.msgs ≤ c.bud)
 seen : b.seen = (T.getLast?.getD Msg.zero).stamp
 take : ∃ n, 0 < n ∧ n ≤ (Zd p.pivots p.msgs i).length ∧ T = (Zd p.pivots p.msgs i).take n
theorem Zpx (c : Cfg) (p k : Nd) (i : Int) : (Z9 c.leaf c.bud p k i = (p, k, 0)) ∨ (KidOf p k i ∧ ∃ T, Poured c p k i (Z9 c.leaf c.bud p k i).1 (Z9 c.leaf c.bud p k i).2.1 T ∧ (Z9 c.leaf c.bud p k i).2.2 = T.length) := by
 by_cases h : ZY c.leaf c.bud p k i = 0
 ·left; unfold Z9; rw [if_pos h]
 ·right
  have hk : KidOf p k i := by
   unfold ZY at h
   by_cases hk : KidOf p k i
   ·exact hk
   ·rw [if_neg hk] at h; exact absurd rfl h
  have hc : ZY c.leaf c.bud p k i = (Zt c.leaf c.bud k (Zd p.pivots p.msgs i)).2 := if_pos hk
  have hle := ZiT c.leaf c.bud k (Zd p.pivots p.msgs i)
  rw [← hc] at hle
  refine ⟨hk, (Zd p.pivots p.msgs i).take (ZY c.leaf c.bud p k i), ?_, by unfold Z9; rw [if_neg h, List.length_take]; show ZY c.leaf c.bud p k i = _; omega⟩
  unfold Z9
  rw [if_neg h]
  refine ⟨by rw [List.length_take]; omega, rfl, ?_, fun h0 => ?_, fun h0 => ?_, rfl, _, om9, hle, rfl⟩
  ·dsimp only
   unfold Zt
   split <;> rfl
  ·have hm : Zt c.leaf c.bud k (Zd p.pivots p.msgs i) = ({ k with rows := (Ye c.leaf k.rows (Zd p.pivots p.msgs i)).1 }, (Ye c.leaf k.rows (Zd p.pivots p.msgs i)).2) := if_pos h0
   rw [hc, hm]
   dsimp only
   refine ⟨rfl, ZkP _ _ _, fun h1 h2 hl => ?_⟩
   have := Zgm c.leaf (Zd p.pivots p.msgs i) k.rows h1 h2
   omega
  ·have hm : Zt c.leaf c.bud k (Zd p.pivots p.msgs i) = ({ k with msgs := k.msgs ++ (Zd p.pivots p.msgs i).take (Xf c.bud k.msgs (Zd p.pivots p.msgs i)) }, Xf c.bud k.msgs (Zd p.pivots p.msgs i)) := if_neg h0
   rw [hc, hm]
   exact ⟨rfl, rfl, ZiU _ _ _⟩
theorem ZiY {P : List Str} {l : List Msg} {i : Int} {m : Msg} (h : m ∈ Zd P l i) : ∃ a ∈ l, (a.clip (Zf P i)).2 = true ∧ (a.clip (Zf P i)).1 = m := by
 obtain ⟨a, ha, h2⟩ := List.mem_filterMap.1 h
 unfold XF at h2
 split at h2
 ·rename_i h3
  cases h2
  refine ⟨a, ?_, h3.2, rfl⟩
  unfold Zj at ha
  split at ha
  ·exact ha
  ·split at ha
   ·exact List.mem_of_mem_take ha
   ·exact List.mem_of_mem_take ha
 ·cases h2
theorem ZbL {c : Cfg} {n : Nd} (h : n.R c.fan c.leaf c.bud) : ∀ k ∈ n.pivots, k.b.size ≤ 16 := fun k hk => by
 have h4 := h.2.2.2
 by_cases h0 : n.level = 0
 ·rw [if_pos h0] at h4
  have := h4.1
  have e : n.pivots = [] := List.eq_nil_of_length_eq_zero om9
  rw [e] at hk; cases hk
 ·rw [if_neg h0] at h4
  obtain ⟨j, hj, rfl⟩ := List.getElem_of_mem hk
  exact (h4.2.2.2.2.2.1 j hj).2.1
theorem Zpy {c : Cfg} {n : Nd} (h : n.R c.fan c.leaf c.bud) : n.high.b.size ≤ 16 := by
 cases ht : n.top
 ·exact (h.2.2.1 ht).2.1
 ·rw [(h.2.1 ht).1]; decide
theorem Zpz {c : Cfg} {n : Nd} (h : n.R c.fan c.leaf c.bud) : n.spanN.lo.b.size ≤ 16 ∧ n.spanN.hi.b.size ≤ 16 := by
 have h1 := Zpy h
 unfold Nd.spanN
 split
 ·exact ⟨by decide, by decide⟩
 ·unfold Span.norm
  split
  ·exact ⟨by decide, by decide⟩
  ·split
   ·exact ⟨by show Str.nil.b.size ≤ 16; decide, by show Str.nil.b.size ≤ 16; decide⟩
   ·exact ⟨by show Str.nil.b.size ≤ 16; decide, h1⟩
theorem Zdr (p : Nd) (i : Int) (k : Str) : (YH p i).has k = (p.has k && (Zf p.pivots i).has k) := by unfold YH; rw [ZN, Zpt]
structure Takes (c : Cfg) (p k : Nd) (i : Int) (T : List Msg) : Prop where
 R : ∀ m ∈ T, m.R
 up : ∀ m ∈ T, k.seen < m.stamp
 sp : ∀ m ∈ T, ∀ q, m.span.has q = true → (YH p i).has q = true
 rst : Rst T
 late : ∀ m ∈ ZM p.pivots i T p.msgs, (m.span.meet (YH p i)).empty = false → ∀ x ∈ T, x.stamp < m.stamp
 clip : Zc (YH p i) p.msgs = T ++ Zc (YH p i) (ZM p.pivots i T p.msgs)
theorem ZcC {c : Cfg} {p k : Nd} {i : Int} {a b : Nd} {T : List Msg} (h : MayP c p k i) (hp : Poured c p k i a b T) : Takes c p k i T := by
 obtain ⟨⟨hpR, hkR, hk⟩, hsp, hst⟩ := h
 obtain ⟨k1, k2, k3, k4⟩ := hk
 have hin : p.innerR c.fan c.bud := by have := hpR.2.2.2; rwa [if_neg om9] at this
 obtain ⟨j, rfl⟩ : ∃ j : Nat, i = j := ⟨i.toNat, om9⟩
 obtain ⟨hr1, hr2⟩ := YQ hin.2.1
 have hj : j ≤ p.pivots.length := om9
 have hm := hin.2.2.1
 have hmR := (MsgsR.iff.1 hm).1
 obtain ⟨n, n1, n2, rfl⟩ := hp.take
 have mv := ZiR (P := p.pivots) hr1 hj hm n
 have hs : ∀ q, (YH p j).has q = true → (Zf p.pivots j).has q = true := fun q hq => by rw [Zdr, Bool.and_eq_true] at hq; exact hq.2
 have hfit : ∀ m ∈ p.msgs, ∀ q, m.span.has q = true → p.has q = true := fun m hm' => by
  obtain ⟨x, hx, rfl⟩ := List.getElem_of_mem hm'
  exact (Zdq (hmR _ hm')).1 (hin.2.2.2.2.2.2 x hx).2
 have hcl := mv.clips_in hr1 hj hm hs fun m hm' q h1 h2 => by rw [Zdr, hfit m hm' q h1, h2]; rfl
 have hmem : ∀ m ∈ (Zd p.pivots p.msgs (j : Int)).take n, ∃ a ∈ p.msgs, (a.clip (YH p j)).2 = true ∧ (a.clip (YH p j)).1 = m := fun m hm' => J0 (by rw [hcl]; exact List.mem_append_left _ hm')
 have hsz := Zb6 (Zpz hpR) (Zb7 (p := p.pivots) (i := (j : Int)) (ZbL hpR))
 have hrst := Jr (s := YH p j) (Zdo hm)
 rw [hcl] at hrst
 refine ⟨fun m h => ?_, fun m h => ?_, fun m h q hq => ?_, (ZaH hrst).1, fun m h he x hx => ?_, hcl⟩
 ·obtain ⟨a, ha, h1, rfl⟩ := hmem m h
  exact ZaX (hmR a ha) hsz.1 hsz.2 h1
 ·obtain ⟨a, ha, h1, rfl⟩ := hmem m h
  rw [X0 h1]
  obtain ⟨x, hx, rfl⟩ := List.getElem_of_mem ha
  exact hst x hx (Xb h1).1
 ·obtain ⟨a, ha, h1, rfl⟩ := hmem m h
  exact (ZcB (hmR a ha) h1 hq).2
 ·have h1 : (m.clip (YH p j)).2 = true := by
   cases h2 : (m.clip (YH p j)).2
   ·rw [Jq.1 h2] at he; cases he
   ·rfl
  have := (ZaH hrst).2.2 x hx (m.clip (YH p j)).1 (List.mem_filterMap.2 ⟨m, h, if_pos h1⟩)
  rwa [X0 h1] at this
theorem Zds {T : List Msg} (hr : Rst T) (hn : 0 < T.length) : (∃ x ∈ T, T.getLast?.getD Msg.zero = x) ∧ ∀ y ∈ T, y.stamp ≤ (T.getLast?.getD Msg.zero).stamp := by
 obtain ⟨x, h1, h2, h3⟩ := Zpw (l := T) hn (Nat.le_refl _)
 rw [List.take_length] at h1 h2 h3
 rw [h2]
 exact ⟨⟨x, h1, rfl⟩, fun y hy => h3 y hy hr⟩
theorem ZiZ {X : Span} {l : List Pair} {T : List Msg} (hl : PairsR l) (hT : ∀ m ∈ T, m.R) (h1 : ∀ p ∈ l, X.has p.key = true) (h2 : ∀ m ∈ T, ∀ q, m.span.has q = true → X.has q = true) : ∀ p ∈ Zu l T, X.has p.key = true := by
 induction T generalizing l with
 | nil => exact h1
 | cons m T ih =>
  have hR := hT m (by simp)
  have hR' := hR
  unfold Msg.R at hR'
  refine ih (l := takeN l m) (hl.takeM hR'.1.2.1 hR'.1.2.2.1) (fun x hx => hT x (List.mem_cons_of_mem _ hx)) (fun p hp => ?_) fun x hx => h2 x (List.mem_cons_of_mem _ hx)
  unfold takeN at hp
  split at hp
  ·exact h1 p ((List.mem_filter.1 hp).1)
  ·rw [Zcp, List.mem_append, List.mem_append] at hp
   rcases hp with (hp | hp) | hp
   ·exact h1 p ((List.mem_filter.1 hp).1)
   ·unfold Zaa at hp
    split at hp
    ·rw [List.mem_singleton] at hp
     subst hp
     exact h2 m (by simp) _ (Msg.has_key hR)
    ·cases hp
   ·exact h1 p ((List.mem_filter.1 hp).1)
theorem Zfp {c : Cfg} {p k : Nd} {i : Int} {a b : Nd} {T : List Msg} (h : MayP c p k i) (hp : Poured c p k i a b T) : MayP c a b i ∧ k.seen < b.seen := by
 have tk := ZcC h hp
 obtain ⟨⟨hpR, hkR, hk⟩, hsp, hst⟩ := h
 obtain ⟨⟨xl, hxl, exl⟩, hlast⟩ := Zds tk.rst hp.ne
 have hseen : k.seen < b.seen := by rw [hp.seen, exl]; exact tk.up xl hxl
 have hin : p.innerR c.fan c.bud := by have h9 := hk.1; have := hpR.2.2.2; rwa [if_neg om9] at this
 have hmR := (MsgsR.iff.1 hin.2.2.1).1
 have aR : a.R c.fan c.leaf c.bud := by
  rw [hp.ea]
  refine ⟨hpR.1, hpR.2.1, hpR.2.2.1, ?_⟩
  rw [if_neg (show ¬ p.level = 0 by have := hk.1; omega)]
  obtain ⟨h1, h2, h3, h4, h5, h6, h7⟩ := hin
  refine ⟨h1, h2, MsgsR.iff.2 ⟨fun m hm => (Zfo (ZbL hpR) hmR hm).1, Zpv (Zdo h3)⟩, Int.le_trans (ZiX _ _ _ _) h4, h5, h6, fun j hj => ?_⟩
  have hm := List.getElem_mem hj
  obtain ⟨r1, m, hm2, r2, r3⟩ := Zfo (ZbL hpR) hmR hm
  obtain ⟨x, hx, rfl⟩ := List.getElem_of_mem hm2
  have f := h7 x hx
  exact ⟨by show _ ≤ p.seen; rw [r2]; exact f.1, (Zdq (n := { p with msgs := ZM p.pivots i T p.msgs }) r1).2 fun q hq => (Zdq (hmR _ hm2)).1 f.2 q (r3 q hq)⟩
 have hsame : YH a i = YH p i := by rw [hp.ea]; rfl
 have hb : b.top = k.top ∧ b.high = k.high ∧ b.level = k.level ∧ b.slot = k.slot ∧ b.right = k.right ∧ b.kids = k.kids ∧ b.pivots = k.pivots := by rw [hp.eb]; exact ⟨rfl, rfl, rfl, rfl, rfl, rfl, rfl⟩
 obtain ⟨b1, b2, b3, b4, b5, b6, b7⟩ := hb
 have kin : ∀ q, (YH p i).has q = true → k.has q = true := fun q hq => by
  have := (Yp.1 hq).2
  unfold Nd.has
  rw [hsp.1, hsp.2]
  rcases this with h | h <;> simp [h]
 have bR : b.R c.fan c.leaf c.bud := by
  refine ⟨by rw [b3, b4]; have := hkR.1; omega, by rw [b1, b2, b5]; exact hkR.2.1, by rw [b1, b2, b5]; exact hkR.2.2.1, ?_⟩
  have h4 := hkR.2.2.2
  rw [b3]
  by_cases h0 : k.level = 0
  ·rw [if_pos h0] at h4 ⊢
   obtain ⟨e1, e2, e3⟩ := hp.leaf h0
   obtain ⟨l1, l2, l3, l4⟩ := h4
   have hrows : ∀ p ∈ b.rows, (Span.mk Str.nil k.high k.top).has p.key = true := by
    rw [e2]
    refine ZiZ l3 tk.R (fun x hx => ?_) fun m hm q hq => ?_
    ·obtain ⟨j, hj, rfl⟩ := List.getElem_of_mem hx
     have := l4 j hj
     unfold Nd.has at this
     unfold Span.has
     simp [Str.nil_le] at this ⊢
     exact this
    ·have := kin q (tk.sp m hm q hq)
     unfold Nd.has at this
     unfold Span.has
     simp [Str.nil_le] at this ⊢
     exact this
   refine ⟨by rw [b7, b6, e1]; exact l1, e3 l3 (fun m hm => ?_) l2, by rw [e2]; exact PairsR.fold l3 fun m hm => ZkQ (tk.R m hm), fun j hj => ?_⟩
   ·obtain ⟨x, hx, h2, rfl⟩ := ZiY hm
    have hr := Zb7 (p := p.pivots) (i := i) (ZbL hpR)
    exact ZaX (hmR x hx) hr.1 hr.2 h2
   ·have := hrows _ (List.getElem_mem hj)
    unfold Span.has at this
    unfold Nd.has
    rw [b1, b2]
    simp [Str.nil_le] at this ⊢
    exact this
  ·rw [if_neg h0] at h4 ⊢
   obtain ⟨e1, e2, e3⟩ := hp.inner h0
   obtain ⟨l1, l2, l3, l4, l5, l6, l7⟩ := h4
   have hkm := (MsgsR.iff.1 l3).1
   have hold : ∀ m ∈ k.msgs, m.stamp ≤ k.seen := fun m hm => by
    obtain ⟨x, hx, rfl⟩ := List.getElem_of_mem hm
    exact (l7 x hx).1
   refine ⟨by rw [e1, b6]; exact l1, by rw [b6, b7]; exact l2, ?_, e3 l4, by rw [b6]; exact l5, fun j hj => ?_, fun j hj => ?_⟩
   ·rw [e2]
    refine MsgsR.iff.2 ⟨fun m hm => ?_, List.pairwise_append.2 ⟨Zdo l3, tk.rst, fun x hx y hy => ?_⟩⟩
    ·rcases List.mem_append.1 hm with hm | hm
     ·exact hkm m hm
     ·exact tk.R m hm
    ·have := hold x hx
     have := tk.up y hy
     omega
   ·have hh : b.has b.pivots[j] = k.has b.pivots[j] := by unfold Nd.has; rw [b1, b2]
    obtain ⟨q1, q2, q3⟩ := l6 j (by rw [← b7]; exact hj)
    have eb : b.pivots[j] = k.pivots[j]'(by rw [← b7]; exact hj) := by simp only [b7]
    exact ⟨by rw [eb]; exact q1, by rw [eb]; exact q2, by rw [hh, eb]; exact q3⟩
   ·have hm := List.getElem_mem hj
    have hbm : ∀ m ∈ b.msgs, b.fits m := fun m hm => by
     rw [e2] at hm
     rcases List.mem_append.1 hm with hm | hm
     ·obtain ⟨x, hx, rfl⟩ := List.getElem_of_mem hm
      have f := l7 x hx
      exact ⟨by have := f.1; omega, by rw [b1, b2]; exact f.2⟩
     ·refine ⟨by rw [hp.seen]; exact hlast m hm, ?_⟩
      rw [b1, b2]
      exact (Zdq (n := k) (tk.R m hm)).2 fun q hq => kin q (tk.sp m hm q hq)
    exact hbm _ hm
 refine ⟨⟨⟨aR, bR, by rw [hp.ea]; unfold KidOf; rw [b3]; exact hk⟩, ⟨by rw [hsame, b1]; exact hsp.1, by rw [hsame, b2]; exact hsp.2⟩, fun j hj he => ?_⟩, hseen⟩
 rw [hsame] at he
 have e : a.msgs = ZM p.pivots i T p.msgs := by rw [hp.ea]
 have hm : a.msgs[j] ∈ ZM p.pivots i T p.msgs := by rw [← e]; exact List.getElem_mem hj
 rw [hp.seen, exl]
 exact tk.late _ hm he xl hxl
end Go.Fw
