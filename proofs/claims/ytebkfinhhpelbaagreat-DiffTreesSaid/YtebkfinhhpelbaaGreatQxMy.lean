/- Changes lead from a map to another. Plain Lean; nothing of the program is named here. No condition. -/
import Derived.Test.YtebkfinhhpelbaaGreatQxMm
set_option linter.unusedVariables false
set_option linter.unusedSimpArgs false
set_option linter.unnecessarySimpa false
namespace Go.Fw
theorem getN_mem_iff {l : List Pair} {k : Str} : (getN l k).isSome = true ↔ k ∈ l.map (·.key) := by
  induction l with
  | nil => simp [getN]
  | cons p l ih =>
    rw [getN_cons]
    by_cases h : p.key = k
    · rw [if_pos h]; simp [h]
    · rw [if_neg h, ih]; simp [Ne.symm h]
theorem srt_ext : ∀ {a b : List Pair}, Srt a → Srt b → (∀ k, getN a k = getN b k) → a = b
  | [], [], _, _, _ => rfl
  | [], y :: b, _, _, h => by have := h y.key; rw [getN_cons, if_pos rfl] at this; cases this
  | x :: a, [], _, _, h => by have := h x.key; rw [getN_cons, if_pos rfl] at this; cases this
  | x :: a, y :: b, ha, hb, h => by
    obtain ⟨ha1, ha2⟩ := List.pairwise_cons.1 ha
    obtain ⟨hb1, hb2⟩ := List.pairwise_cons.1 hb
    have mx : y.key ∈ (x :: a).map (·.key) := getN_mem_iff.1 (by rw [h, getN_cons, if_pos rfl]; rfl)
    have my : x.key ∈ (y :: b).map (·.key) := getN_mem_iff.1 (by rw [← h, getN_cons, if_pos rfl]; rfl)
    have hk : x.key = y.key := by
      rw [List.map_cons] at mx my
      rcases List.mem_cons.1 mx with e | mx
      · exact e.symm
      · rcases List.mem_cons.1 my with e | my
        · exact e
        · obtain ⟨p, hp, ep⟩ := List.mem_map.1 mx
          obtain ⟨q, hq, eq⟩ := List.mem_map.1 my
          have h1 := ha1 p hp
          have h2 := hb1 q hq
          rw [ep] at h1; rw [eq] at h2
          have := Str.lt_trans h1 h2
          rw [Str.lt_irrefl] at this; cases this
    have hv : x.val = y.val := by
      have := h x.key
      rw [getN_cons, if_pos rfl, getN_cons, if_pos hk.symm] at this
      exact Option.some.inj this
    have hxy : x = y := by cases x; cases y; simp_all
    subst hxy
    refine congrArg (x :: ·) (srt_ext ha2 hb2 fun k => ?_)
    have h3 := h k
    rw [getN_cons, getN_cons] at h3
    by_cases hkx : x.key = k
    · rw [getN_none fun p hp e => ?_, getN_none fun p hp e => ?_]
      · have := hb1 p hp; rw [hkx, e, Str.lt_irrefl] at this; cases this
      · have := ha1 p hp; rw [hkx, e, Str.lt_irrefl] at this; cases this
    · rwa [if_neg hkx, if_neg hkx] at h3
theorem ops_fold : ∀ {ops : List Opr} {l : List Pair} {acc : List Ans}, allW ops = true →
    (ops.foldl (fun s o => ((doN s.1 o).1, s.2 ++ [(doN s.1 o).2])) (l, acc)).1 = foldN l (ops.map fun o => o.msg 1)
  | [], l, acc, _ => rfl
  | o :: ops, l, acc, h => by
    have h' := h
    unfold allW at h
    simp only [List.all_cons, Bool.and_eq_true, decide_eq_true_eq] at h
    obtain ⟨⟨hR, hk⟩, hr⟩ := h
    rw [List.foldl_cons, ops_fold (by unfold allW; exact hr)]
    rw [doN_t hR (by omega) (by omega)]; rfl
theorem ops_msgs {ops : List Opr} {l : List Pair} (h : allW ops = true) : (opsN l ops).1 = foldN l (ops.map fun o => o.msg 1) := ops_fold h
theorem get_put {l : List Pair} {o : Opr} {k : Str} (hk : o.key.b.size < 140737488355328) (h : o.kind = 1 ∨ o.kind = 3) :
    getN (takeN l (o.msg 1)) k = if k = o.key then (if o.kind = 3 then none else some o.val) else getN l k := by
  have h4 : ¬ (o.msg 1).kind = 4 := by show ¬ o.kind = 4; omega
  have hon : (o.msg 1).on o.key = if o.kind = 3 then ⟨3, Str.nil⟩ else ⟨1, o.val⟩ := by
    unfold Msg.on
    have hs : (o.msg 1).span.has o.key = true := by rw [Msg.span, if_neg h4]; show (Span.has ⟨o.key, o.key.next, false⟩ o.key) = true; rw [point_has hk]; simp
    rw [if_neg (by rw [hs]; rintro (h | h | h); cases h; have : o.kind < 1 := h; omega; have : 4 < o.kind := h; omega)]
    rcases h with h | h
    · rw [if_neg (by show ¬ 3 ≤ o.kind; omega), if_neg (by omega)]; show (⟨o.kind, o.val⟩ : Eff) = _; rw [h]
    · rw [if_pos (by show 3 ≤ o.kind; omega), if_pos h]
  unfold takeN
  rw [if_neg h4, getN_with]
  show (if k = o.key then ((o.msg 1).on o.key).apply (getN l o.key) else getN l k) = _
  rw [hon]
  by_cases hk2 : k = o.key
  · rw [if_pos hk2, if_pos hk2]
    by_cases h3 : o.kind = 3
    · rw [if_pos h3, if_pos h3]; rfl
    · rw [if_neg h3, if_neg h3]; rfl
  · rw [if_neg hk2, if_neg hk2]
theorem chg_get {a b : List Pair} : ∀ {L : List Drow} {l : List Pair} {k : Str}, DRise L → (∀ r ∈ L, r = Drow.of a b r.key ∧ r.key.b.size < 140737488355328) → (∀ r ∈ L, getN l r.key = getN a r.key) →
    getN (foldN l ((L.filterMap chg).map fun o => o.msg 1)) k = if k ∈ L.map (·.key) then getN b k else getN l k
  | [], l, k, _, _, _ => by simp [foldN]
  | r :: L, l, k, hd, hr, hl => by
    obtain ⟨hd1, hd2⟩ := List.pairwise_cons.1 hd
    obtain ⟨hrow, hsz⟩ := hr r (by simp)
    have hne : ∀ s ∈ L, s.key ≠ r.key := fun s hs e => by have := hd1 s hs; rw [e, Str.lt_irrefl] at this; cases this
    have hin : r.inB = (getN b r.key).isSome := by rw [hrow]; rfl
    have hia : r.inA = (getN a r.key).isSome := by rw [hrow]; rfl
    have hva : r.a = (getN a r.key).getD Str.nil := by rw [hrow]; rfl
    have hvb : r.b = (getN b r.key).getD Str.nil := by rw [hrow]; rfl
    have hmem : k ∈ (r :: L).map (·.key) ↔ k = r.key ∨ k ∈ L.map (·.key) := by simp
    have hnk : k = r.key → k ∉ L.map (·.key) := fun e h => by
      obtain ⟨s, hs, es⟩ := List.mem_map.1 h
      exact hne s hs (es.trans e)
    cases hc : chg r with
    | none =>
      rw [List.filterMap_cons_none hc, chg_get hd2 (fun s hs => hr s (by simp [hs])) (fun s hs => hl s (by simp [hs]))]
      by_cases hk : k = r.key
      · rw [if_neg (hnk hk), if_pos (hmem.2 (.inl hk)), hk, hl r (by simp)]
        unfold chg at hc
        by_cases hb : r.inB = false
        · rw [if_pos hb] at hc; cases hc
        · rw [if_neg hb] at hc
          by_cases h2 : r.inA = false ∨ r.a ≠ r.b
          · rw [if_pos h2] at hc; cases hc
          · have ha : r.inA = true := by cases h : r.inA; exact absurd (.inl h) h2; rfl
            have he : r.a = r.b := Decidable.byContradiction fun h => h2 (.inr h)
            have hb' : r.inB = true := by simpa using hb
            rw [hia] at ha; rw [hin] at hb'
            rw [isSome_getD (d := Str.nil) ha, isSome_getD (d := Str.nil) hb', ← hva, ← hvb, he]
      · by_cases hm : k ∈ L.map (·.key)
        · rw [if_pos hm, if_pos (hmem.2 (.inr hm))]
        · rw [if_neg hm, if_neg (fun h => (hmem.1 h).elim hk hm)]
    | some o =>
      have ho : o.key = r.key ∧ (o.kind = 1 ∨ o.kind = 3) ∧ (if o.kind = 3 then none else some o.val) = getN b r.key := by
        unfold chg at hc
        by_cases hb : r.inB = false
        · rw [if_pos hb] at hc; cases hc
          refine ⟨rfl, .inr rfl, ?_⟩
          rw [hin] at hb
          cases h : getN b r.key with
          | none => rfl
          | some v => rw [h] at hb; cases hb
        · rw [if_neg hb] at hc
          by_cases h2 : r.inA = false ∨ r.a ≠ r.b
          · rw [if_pos h2] at hc; cases hc
            refine ⟨rfl, .inl rfl, ?_⟩
            have hb' : (getN b r.key).isSome = true := by rw [← hin]; simpa using hb
            rw [isSome_getD (d := Str.nil) hb', ← hvb]; rfl
          · rw [if_neg h2] at hc; cases hc
      obtain ⟨ho1, ho2, ho3⟩ := ho
      have hput := fun k => get_put (l := l) (o := o) (k := k) (by rw [ho1]; exact hsz) ho2
      rw [List.filterMap_cons_some hc]
      show getN (foldN (takeN l (o.msg 1)) ((L.filterMap chg).map fun o => o.msg 1)) k = _
      rw [chg_get hd2 (fun s hs => hr s (by simp [hs])) (fun s hs => by
        rw [hput, if_neg (by rw [ho1]; exact hne s hs)]; exact hl s (by simp [hs])), hput, ho1, ho3]
      by_cases hk : k = r.key
      · rw [if_neg (hnk hk), if_pos hk, if_pos (hmem.2 (.inl hk)), hk]
      · rw [if_neg hk]
        by_cases hm : k ∈ L.map (·.key)
        · rw [if_pos hm, if_pos (hmem.2 (.inr hm))]
        · rw [if_neg hm, if_neg (fun h => (hmem.1 h).elim hk hm)]
theorem right3 {k : Str} (hk : k.b.size ≤ 16) : Opr.R ⟨3, k, Str.nil, false, Str.nil, 0⟩ := by
  have hnil : Str.nil.b.size ≤ 16 := by show (ByteArray.mk #[]).size ≤ 16; decide
  refine ⟨⟨by show (1 : Int) ≤ 3; omega, by show (3 : Int) ≤ 6; omega, hk, hnil, hnil⟩, fun _ => rfl, fun _ => rfl, fun h => absurd (show (3 : Int) = 6 from h) (by omega), ?_⟩
  rw [if_neg (show ¬((3 : Int) = 4 ∨ (3 : Int) = 6) by omega)]; exact ⟨rfl, rfl⟩
theorem right1 {k v : Str} (hk : k.b.size ≤ 16) (hv : v.b.size ≤ 16) : Opr.R ⟨1, k, Str.nil, false, v, 0⟩ := by
  have hnil : Str.nil.b.size ≤ 16 := by show (ByteArray.mk #[]).size ≤ 16; decide
  refine ⟨⟨by show (1 : Int) ≤ 1; omega, by show (1 : Int) ≤ 6; omega, hk, hnil, hv⟩, fun h => absurd (show 2 < (1 : Int) from h) (by omega), fun _ => rfl, fun h => absurd (show (1 : Int) = 6 from h) (by omega), ?_⟩
  rw [if_neg (show ¬((1 : Int) = 4 ∨ (1 : Int) = 6) by omega)]; exact ⟨rfl, rfl⟩
theorem chg_right {a b : List Pair} (ha : PairsR a) (hb : PairsR b) : allW (chgN a b) = true := by
  unfold allW
  rw [List.all_eq_true]
  intro o ho
  obtain ⟨r, hr, hc⟩ := List.mem_filterMap.1 ho
  have hrow := both_row a b ha.srt hb.srt r hr
  have hkey : r.key.b.size ≤ 16 := by
    rcases (both_keys a b r.key).1 (List.mem_map.2 ⟨r, hr, rfl⟩) with h | h
    · obtain ⟨p, hp, e⟩ := List.mem_map.1 h
      have e : p.key = r.key := e
      rw [← e]; exact ((pairsR_iff.1 ha).1 p hp).1
    · obtain ⟨p, hp, e⟩ := List.mem_map.1 h
      have e : p.key = r.key := e
      rw [← e]; exact ((pairsR_iff.1 hb).1 p hp).1
  have hvb : r.b = (getN b r.key).getD Str.nil := by rw [hrow]; rfl
  have hval : r.b.b.size ≤ 16 := by rw [hvb]; exact hb.val r.key
  have hnil : Str.nil.b.size ≤ 16 := by show (ByteArray.mk #[]).size ≤ 16; decide
  unfold chg at hc
  split at hc
  · cases hc
    simp only [Bool.and_eq_true, decide_eq_true_eq]
    exact ⟨right3 hkey, by show (3 : Int) ≤ 4; omega⟩
  · split at hc
    · cases hc
      simp only [Bool.and_eq_true, decide_eq_true_eq]
      exact ⟨right1 hkey hval, by show (1 : Int) ≤ 4; omega⟩
    · cases hc
theorem chg_leads {a b : List Pair} (ha : PairsR a) (hb : PairsR b) : (opsN a (chgN a b)).1 = b := by
  have hP := (opsN_R (ops := chgN a b) ha (chgN a b).length (Nat.le_refl _)).1
  rw [List.take_of_length_le (Nat.le_refl _)] at hP
  refine srt_ext hP.srt hb.srt fun k => ?_
  rw [ops_msgs (chg_right ha hb)]
  have hrise := both_rise a b ha.srt hb.srt
  have key : ∀ r ∈ bothN a b, r.key.b.size < 140737488355328 := fun r hr => by
    rcases (both_keys a b r.key).1 (List.mem_map.2 ⟨r, hr, rfl⟩) with h | h
    · obtain ⟨p, hp, e⟩ := List.mem_map.1 h
      have e : p.key = r.key := e
      have := ((pairsR_iff.1 ha).1 p hp).1; rw [← e]; omega
    · obtain ⟨p, hp, e⟩ := List.mem_map.1 h
      have e : p.key = r.key := e
      have := ((pairsR_iff.1 hb).1 p hp).1; rw [← e]; omega
  unfold chgN
  rw [chg_get hrise (fun r hr => ⟨both_row a b ha.srt hb.srt r hr, key r hr⟩) (fun r hr => rfl)]
  split
  · rfl
  · rename_i h
    rw [both_keys] at h
    have n1 : getN a k = none := by
      cases hg : getN a k with
      | none => rfl
      | some v => exact absurd (.inl (getN_mem_iff.1 (by rw [hg]; rfl))) h
    have n2 : getN b k = none := by
      cases hg : getN b k with
      | none => rfl
      | some v => exact absurd (.inr (getN_mem_iff.1 (by rw [hg]; rfl))) h
    rw [n1, n2]
end Go.Fw
