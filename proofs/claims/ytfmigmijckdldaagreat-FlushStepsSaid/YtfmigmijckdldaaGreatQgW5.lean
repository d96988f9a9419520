/- Walks of functions on effects, and where a key stands. -/
import Derived.Test.YtfmigmijckdldaaGreatQgW4
set_option maxRecDepth 100000
set_option maxHeartbeats 1600000
set_option linter.unusedVariables false
set_option linter.unusedSimpArgs false
set_option linter.unnecessarySimpa false
namespace Go.Proofs.YtfmigmijckdldaaGreat
open Go Go.Fw Go.RowKit
attribute [local irreducible] Ok W WC
theorem rget_fc {G : GH} {v_l : Value} {l : List Pair} (h_l : SlR ePair G v_l l) (k : Str) :
    Fc Tryz.prog 153 [v_l, sV k.b] G [] (fun v _ _ => v = .tuple #[sV (Str.b ((getN l k).getD Str.nil)), .bool ((getN l k).isSome)]) := by
 obtain ⟨sa_l, sc_l, rfl⟩ := h_l.form
 have hl := h_l.len47
 refine Fc.go [.tmp 4, .tmp 5] Tryz.func153 Tryz.ntmps153 rfl (fun w0 => (g9 13 ?_))
 refine WC.loop (X := Nat) (fun i => [(6, nt9 i), (0, lV sa_l l.length sc_l), (1, sV k.b)]) (fun i _ Ml => Ml = [] ∧ i ≤ l.length ∧ ∀ j (h : j < l.length), j < i → l[j].key ≠ k) (fun i => l.length - i) 0 hs9 ?_ ?_
 ·exact ⟨rfl, om9, fun j _ h => by omega⟩
 rintro i gG1 G1 _ hG1 ⟨rfl, hi, hj⟩
 refine g9 9 ?_
 refine WC.cd (fun h10 p10 => ?_) (fun h10 p10 => ?_)
 ·refine g9 8 ?_
  refine (h_l.mono hG1).a1 (i := i) om9 (fun he2 => (g9 7 ?_))
  refine WC.cd (fun h19 p19 => ?_) (fun h19 p19 => ?_)
  ·refine g9 4 ?_
   refine (h_l.mono hG1).a1 (i := i) om9 (fun he5 => (g9 14 ?_))
   show Value.tuple #[Value.string _, Value.bool _] = _
   have e1 : l[i].key = k := Str.ext' p19
   have e := getN_at (by omega : i < l.length) (fun j h hji => by rw [e1]; exact hj j h hji)
   rw [e1] at e
   rw [e]; rfl
  refine g9 9 ?_
  exact ⟨Le.rfl, i + 1, hs9, ⟨rfl, om9, fun j h hji e => by
      by_cases e2 : j = i
      · subst e2; exact p19 (congrArg Str.b e)
      · exact hj j h om9 e⟩, om9⟩
 refine g9 13 ?_
 show Value.tuple #[Value.string _, Value.bool _] = _
 rw [getN_no (fun j h => hj j h om9)]; rfl

theorem cmp_fc {G : GH} (a : Str) (b : Str) :
    Fc Tryz.prog 192 [sV a.b, sV b.b] G [] (fun v _ _ => v = iV (cmpN a b)) := by
 refine Fc.go [.tmp 4] Tryz.func192 Tryz.ntmps192 rfl (fun w0 => (g9 8 ?_))
 refine W.qcall (isnan_fc _) rfl (g9 6 ?_)
 refine W.qcall (isnan_fc _) rfl (g9 9 ?_)
 refine WC.cond rfl (fun h8 => ?_) (fun h8 => ?_)
 ·cases h8
 refine g9 8 ?_
 refine WC.cond rfl (fun h10 => ?_) (fun h10 => ?_)
 ·cases h10
 refine g9 10 ?_
 refine WC.cond rfl (fun h16 => ?_) (fun h16 => ?_)
 ·refine g9 8 ?_
  refine congrArg (Value.int .i64) ?_
  simp_all [cmpN, Str.lt]
 refine g9 7 ?_
 refine W.ok (ok_gtrS rfl rfl) (g9 2 ?_)
 refine WC.cond rfl (fun h19 => ?_) (fun h19 => ?_)
 ·refine g9 8 ?_
  refine congrArg (Value.int .i64) ?_
  simp_all [cmpN, Str.lt]
 refine g9 9 ?_
 refine congrArg (Value.int .i64) ?_
 simp_all [cmpN, Str.lt]

theorem kcmp_fc {G : GH} (a : Str) (b : Str) :
    Fc Tryz.prog 186 [sV a.b, sV b.b] G [] (fun v _ _ => v = iV (cmpN a b)) := by
 refine Fc.go [.tmp 4] Tryz.func186 Tryz.ntmps186 rfl (fun w0 => (g9 9 ?_))
 refine W.qcall (cmp_fc _ _) rfl (g9 5 ?_)
 rfl

theorem cl_m_fc {G : GH} (pk : Str) (pv : Str) (k : Str) :
    Fc Tryz.prog 188 [.agg #[sV pk.b, sV pv.b], sV k.b] G [] (fun v _ _ => v = iV (cmpN pk k)) := by
 refine Fc.go [.tmp 4] Tryz.func188 Tryz.ntmps188 rfl (fun w0 => (g9 2 ?_))
 refine W.box (L := [sV _, sV _]) rfl rfl (fun b8 => (g9 8 ?_))
 refine W.qcall (kcmp_fc _ _) rfl (g9 5 ?_)
 rfl

theorem cl_r_fc {G : GH} (pk : Str) (pv : Str) (k : Str) :
    Fc Tryz.prog 185 [.agg #[sV pk.b, sV pv.b], sV k.b] G [] (fun v _ _ => v = iV (cmpN pk k)) := by
 refine Fc.go [.tmp 4] Tryz.func185 Tryz.ntmps185 rfl (fun w0 => (g9 2 ?_))
 refine W.box (L := [sV _, sV _]) rfl rfl (fun b9 => (g9 8 ?_))
 refine W.qcall (kcmp_fc _ _) rfl (g9 5 ?_)
 rfl

theorem bsfm_fc {G : GH} {v_l : Value} {l : List Pair} (h_l : SlR ePair G v_l l) (k : Str) (hr : Srt l) :
    Fc Tryz.prog 184 [v_l, sV k.b, .func (.func 188) #[] #[]] G [] (fun v _ _ => v = .tuple #[nt9 (fndN l k), .bool ((getN l k).isSome)]) := by
 obtain ⟨sa_l, sc_l, rfl⟩ := h_l.form
 have hlen := h_l.len47
 refine Fc.go [.tmp 6, .tmp 7] Tryz.func184 Tryz.ntmps184 rfl (fun w0 => (g9 22 ?_))
 refine WC.loop (X := Nat × Nat) (fun x => [(9, nt9 x.1), (10, nt9 x.2), (0, lV sa_l l.length sc_l), (1, sV k.b), (2, .func (.func 188) #[] #[]), (8, nt9 ((l).length))]) (fun x _ Ml => Ml = [] ∧ x.1 ≤ x.2 ∧ x.2 ≤ l.length ∧ (∀ q (h : q < l.length), q < x.1 → l[q].key.lt k = true) ∧ (∀ q (h : q < l.length), x.2 ≤ q → l[q].key.lt k = false)) (fun x => x.2 - x.1) (0, l.length) hs9 ?_ ?_
 ·exact ⟨rfl, by simp, by simp, (fun q _ h => by simp at h), (fun q h h' => by simp at h'; omega)⟩
 rintro ⟨i, j⟩ gG10 G10 _ hG10 ⟨rfl, hi, hj, h1, h2⟩
 dsimp only at hi hj h1 h2
 refine g9 8 ?_
 refine WC.cd (fun h17 p17 => ?_) (fun h17 p17 => ?_)
 ·refine g9 8 ?_
  refine W.ok (ok_convU un3 un175 rfl om9) (W.ok (ok_shr1 rfl rfl om9) (W.ok (ok_convI un175 un3 rfl om9) (g9 8 ?_)))
  refine (h_l.mono hG10).a1 (i := (i + j) / 2) om9 (fun he11 => (W.ok (ok_indexAddr (i := (i + j) / 2) sl42 ty92 (h_l.mono hG10) rfl rfl ⟨by dsimp only; omega, om9⟩) (g9 2 ?_)))
  refine W.qcallV (fst := []) (caps := []) rfl (cl_m_fc _ _ _) rfl (g9 3 ?_)
  refine WC.cd (fun h31 p31 => ?_) (fun h31 p31 => ?_)
  ·refine g9 7 ?_
   exact ⟨Le.rfl, ((i + j) / 2 + 1, j), hs9, ⟨rfl, by dsimp only; omega, by dsimp only; omega, (fun q h hq => hr.below om9 (cmpN_neg.1 p31) q h (by dsimp only at hq; omega)), h2⟩, by dsimp only; omega⟩
  refine g9 6 ?_
  exact ⟨Le.rfl, (i, (i + j) / 2), hs9, ⟨rfl, by dsimp only; omega, by dsimp only; omega, h1, (fun q h hq => hr.above om9 (cmpN_nn p31) q h (by dsimp only at hq; omega))⟩, by dsimp only; omega⟩
 refine g9 12 ?_
 refine W.sd 39 (fun h38 p38 => ?_) (fun h38 p38 => ?_)
 ·refine g9 7 ?_
  refine (h_l.mono hG10).a1 (i := i) om9 (fun he14 => (g9 6 ?_))
  refine W.qcallV (fst := []) (caps := []) rfl (cl_m_fc _ _ _) rfl (g9 9 ?_)
  have hlow : fndN l k = i := fnd_eq om9 h1 (fun q h hq => h2 q h om9)
  refine tup2 (by rw [hlow]) ?_
  rw [hr.has]
  rw [cmpN_zero_d]
  exact decide_eq_decide.2 ⟨fun e => ⟨om9, by simp only [hlow]; exact e⟩, fun ⟨_, e⟩ => by simp only [hlow] at e; exact e⟩
 refine g9 15 ?_
 have hlow : fndN l k = i := fnd_eq om9 h1 (fun q h hq => h2 q h om9)
 refine tup2 (by rw [hlow]) ?_
 rw [hr.has]
 exact (decide_eq_false (by rintro ⟨h, _⟩; omega)).symm

theorem bsfr_fc {G : GH} {v_l : Value} {l : List Pair} (h_l : SlR ePair G v_l l) (k : Str) (hr : Srt l) :
    Fc Tryz.prog 184 [v_l, sV k.b, .func (.func 185) #[] #[]] G [] (fun v _ _ => v = .tuple #[nt9 (fndN l k), .bool ((getN l k).isSome)]) := by
 obtain ⟨sa_l, sc_l, rfl⟩ := h_l.form
 have hlen := h_l.len47
 refine Fc.go [.tmp 6, .tmp 7] Tryz.func184 Tryz.ntmps184 rfl (fun w0 => (g9 22 ?_))
 refine WC.loop (X := Nat × Nat) (fun x => [(9, nt9 x.1), (10, nt9 x.2), (0, lV sa_l l.length sc_l), (1, sV k.b), (2, .func (.func 185) #[] #[]), (8, nt9 ((l).length))]) (fun x _ Ml => Ml = [] ∧ x.1 ≤ x.2 ∧ x.2 ≤ l.length ∧ (∀ q (h : q < l.length), q < x.1 → l[q].key.lt k = true) ∧ (∀ q (h : q < l.length), x.2 ≤ q → l[q].key.lt k = false)) (fun x => x.2 - x.1) (0, l.length) hs9 ?_ ?_
 ·exact ⟨rfl, by simp, by simp, (fun q _ h => by simp at h), (fun q h h' => by simp at h'; omega)⟩
 rintro ⟨i, j⟩ gG17 G17 _ hG17 ⟨rfl, hi, hj, h1, h2⟩
 dsimp only at hi hj h1 h2
 refine g9 8 ?_
 refine WC.cd (fun h17 p17 => ?_) (fun h17 p17 => ?_)
 ·refine g9 8 ?_
  refine W.ok (ok_convU un3 un175 rfl om9) (W.ok (ok_shr1 rfl rfl om9) (W.ok (ok_convI un175 un3 rfl om9) (g9 8 ?_)))
  refine (h_l.mono hG17).a1 (i := (i + j) / 2) om9 (fun he18 => (W.ok (ok_indexAddr (i := (i + j) / 2) sl42 ty92 (h_l.mono hG17) rfl rfl ⟨by dsimp only; omega, om9⟩) (g9 2 ?_)))
  refine W.qcallV (fst := []) (caps := []) rfl (cl_r_fc _ _ _) rfl (g9 3 ?_)
  refine WC.cd (fun h31 p31 => ?_) (fun h31 p31 => ?_)
  ·refine g9 7 ?_
   exact ⟨Le.rfl, ((i + j) / 2 + 1, j), hs9, ⟨rfl, by dsimp only; omega, by dsimp only; omega, (fun q h hq => hr.below om9 (cmpN_neg.1 p31) q h (by dsimp only at hq; omega)), h2⟩, by dsimp only; omega⟩
  refine g9 6 ?_
  exact ⟨Le.rfl, (i, (i + j) / 2), hs9, ⟨rfl, by dsimp only; omega, by dsimp only; omega, h1, (fun q h hq => hr.above om9 (cmpN_nn p31) q h (by dsimp only at hq; omega))⟩, by dsimp only; omega⟩
 refine g9 12 ?_
 refine W.sd 39 (fun h38 p38 => ?_) (fun h38 p38 => ?_)
 ·refine g9 7 ?_
  refine (h_l.mono hG17).a1 (i := i) om9 (fun he21 => (g9 6 ?_))
  refine W.qcallV (fst := []) (caps := []) rfl (cl_r_fc _ _ _) rfl (g9 9 ?_)
  have hlow : fndN l k = i := fnd_eq om9 h1 (fun q h hq => h2 q h om9)
  refine tup2 (by rw [hlow]) ?_
  rw [hr.has]
  rw [cmpN_zero_d]
  exact decide_eq_decide.2 ⟨fun e => ⟨om9, by simp only [hlow]; exact e⟩, fun ⟨_, e⟩ => by simp only [hlow] at e; exact e⟩
 refine g9 15 ?_
 have hlow : fndN l k = i := fnd_eq om9 h1 (fun q h hq => h2 q h om9)
 refine tup2 (by rw [hlow]) ?_
 rw [hr.has]
 exact (decide_eq_false (by rintro ⟨h, _⟩; omega)).symm

theorem find_fc {G : GH} {v_l : Value} {l : List Pair} (h_l : SlR ePair G v_l l) (k : Str) (hr : Srt l) :
    Fc Tryz.prog 180 [v_l, sV k.b] G [] (fun v _ _ => v = .tuple #[nt9 (fndN l k), .bool ((getN l k).isSome)]) := by
 obtain ⟨sa_l, sc_l, rfl⟩ := h_l.form
 refine Fc.go [.tmp 4, .tmp 5] Tryz.func180 Tryz.ntmps180 rfl (fun w0 => (g9 10 ?_))
 refine W.qcall (bsfm_fc h_l k hr) rfl (g9 8 ?_)
 rfl

theorem rfind_fc {G : GH} {v_l : Value} {l : List Pair} (h_l : SlR ePair G v_l l) (k : Str) (hr : Srt l) :
    Fc Tryz.prog 176 [v_l, sV k.b] G [] (fun v _ _ => v = .tuple #[nt9 (fndN l k), .bool ((getN l k).isSome)]) := by
 obtain ⟨sa_l, sc_l, rfl⟩ := h_l.form
 refine Fc.go [.tmp 4, .tmp 5] Tryz.func176 Tryz.ntmps176 rfl (fun w0 => (g9 10 ?_))
 refine W.qcall (bsfr_fc h_l k hr) rfl (g9 8 ?_)
 rfl

end Go.Proofs.YtfmigmijckdldaaGreat
namespace Go.Proofs.YtfmigmijckdldaaGreat
open Go Go.Fw Go.RowKit
attribute [local irreducible] Ok W WC
theorem rscan_fc {G : GH} {v_l : Value} {l : List Pair} (h_l : SlR ePair G v_l l) (slo : Str) (shi : Str) (so : Bool) (n : Int) (hn : l.length ≤ 100000000) :
    Fc Tryz.prog 86 [v_l, .agg #[sV slo.b, sV shi.b, .bool so], iV n] G [] (fun v G' M' => M' = [] ∧ ∃ u0, v = u0 ∧ SlR ePair G' u0 (scanN l ⟨slo, shi, so⟩ n)) := by
 obtain ⟨sa_l, sc_l, rfl⟩ := h_l.form
 have hl := h_l.len47
 refine Fc.go [.tmp 6] Tryz.func86 Tryz.ntmps86 rfl (fun w0 => (g9 2 ?_))
 refine W.box (L := [sV _, sV _, .bool _]) rfl rfl (fun b1 => (g9 15 ?_))
 refine WC.loop (X := (Nat) × Value × MH) (fun i => [(8, nt9 i.1), (4, pt9 b1), (0, lV sa_l l.length sc_l), (2, iV n), (7, i.2.1)]) (fun i G Ml => Ml = ((b1, ce9 55 [sV slo.b, sV shi.b, .bool so]) :: (i.2.2 ++ [])) ∧ OwnR ePair 92 G i.2.1 (scanN (l.take i.1) ⟨slo, shi, so⟩ n) i.2.2 ∧ i.1 ≤ l.length) (fun i => l.length - i.1) (0, lV none 0 0, ([] : MH)) hs9 ?_ ?_
 ·exact ⟨rfl, (by simpa [scanN] using OwnR.nil), om9⟩
 rintro ⟨i, v_7, M_7⟩ gG2 G2 _ hG2 ⟨rfl, ho_7, hi⟩
 try dsimp only at ho_7 hi
 have hsl := scan_len (l := l.take i) (s := ⟨slo, shi, so⟩) (n := n)
 have htl : (l.take i).length ≤ i := by simp; omega
 refine WC.fr (f := setL gG2 [(8, nt9 i), (4, pt9 b1), (0, lV sa_l l.length sc_l), (2, iV n), (7, v_7)]) rfl (g9 9 ?_)
 refine WC.cd (fun h12 p12 => ?_) (fun h12 p12 => ?_)
 ·refine g9 9 ?_
  refine (h_l.mono hG2).a1 (i := i) om9 (fun he3 => (g9 3 ?_))
  refine W.qcall (has_fc _ _ _ _) rfl (W.mv ?_)
  refine W.sp 22 rfl (fun h21 => ?_) (fun h21 => ?_)
  ·refine g9 11 ?_
   refine WC.cd (fun h26 p26 => ?_) (fun h26 p26 => ?_)
   ·refine g9 4 ?_
    refine (h_l.mono hG2).a1 (i := i) om9 (fun he6 => (g9 2 ?_))
    refine W.lit (e := ePair) (l := [((l)[i])]) (css := [[sV _, sV _]]) sl42 ty92 zr92 rfl rfl rfl rfl rfl rfl ⟨rfl, trivial⟩ (fun bl9 G9 hG9 hv9 => (W.app (e := ePair) sl42 ty92 zr92 rfl by92 rfl rfl ((ho_7.mono hG9)) (hv9) (pmC pr9) (by show (_ + 1) * 32 ≤ _; (try simp only [List.length_append] at *); omega) (fun v10 Ms11 ho12 => (W.perm (pmC pr9).symm (g9 10 ?_)))))
    exact ⟨hG9, (i + 1, v10, Ms11), hs9, ⟨rfl, (by have h := ho12; rw [scan_succ_t om9 om9 (by simpa using h21)]; exact h), om9⟩, om9⟩
   refine g9 9 ?_
   exact ⟨Le.rfl, (i + 1, v_7, M_7), hs9, ⟨rfl, (by have h := ho_7; rw [scan_full' om9 om9]; exact h), om9⟩, om9⟩
  refine g9 17 ?_
  exact ⟨Le.rfl, (i + 1, v_7, M_7), hs9, ⟨rfl, (by have h := ho_7; rw [scan_succ_f om9 (by simpa using h21)]; exact h), om9⟩, om9⟩
 refine g9 11 ?_
 refine WC.giveO ho_7 (pmC pr9) (fun G13 hG13 hv13 => (g9 2 ?_))
 refine ⟨rfl, _, rfl, ?_⟩
 · have h := hv13; rw [List.take_of_length_le om9] at h; exact h

end Go.Proofs.YtfmigmijckdldaaGreat

namespace Go.Fw
section
variable {α : Type} {q : α → Bool} {l m : List α}
def idxN (q : α → Bool) (l : List α) : Int := match l.findIdx? q with
 | some i => i
 | none => -1
theorem idxN_at {k : Nat} (hk : k < l.length) (h : q l[k] = true) (hj : ∀ j (h : j < l.length), j < k → q l[j] = false) : idxN q l = k := by
 have e : l.findIdx? q = some k := by
  rw [List.findIdx?_eq_some_iff_getElem]
  exact ⟨hk, h, fun j hji => by have := hj j (by omega) hji; simp [this]⟩
 unfold idxN; rw [e]
theorem idxN_no (h : ∀ j (h : j < l.length), q l[j] = false) : idxN q l = -1 := by
 have e : l.findIdx? q = none := by
  rw [List.findIdx?_eq_none_iff]
  intro x hx
  obtain ⟨j, hj, rfl⟩ := List.getElem_of_mem hx
  exact h j hj
 unfold idxN; rw [e]
theorem idxN_cases (q : α → Bool) (l : List α) : (idxN q l = -1 ∧ ∀ x ∈ l, q x = false) ∨ ∃ k, ∃ h : k < l.length, idxN q l = (k : Nat) ∧ q l[k] = true ∧ ∀ j (h : j < l.length), j < k → q l[j] = false := by
 cases e : l.findIdx? q with
 | none =>
  left
  refine ⟨by unfold idxN; rw [e], ?_⟩
  exact List.findIdx?_eq_none_iff.1 e
 | some k =>
  right
  obtain ⟨h1, h2, h3⟩ := List.findIdx?_eq_some_iff_getElem.1 e
  exact ⟨k, h1, by unfold idxN; rw [e], h2, fun j hj hji => by have := h3 j hji; simpa using this⟩
theorem idxN_le (q : α → Bool) (l : List α) : -1 ≤ idxN q l ∧ idxN q l < (l.length : Nat) := by
 rcases idxN_cases q l with ⟨h, _⟩ | ⟨k, h1, h2, _⟩
 ·omega
 ·omega
theorem idx_none (h : idxN q l = -1) : l.filter (fun a => !q a) = l := by
 rcases idxN_cases q l with ⟨_, h2⟩ | ⟨k, h1, h2, _⟩
 ·exact List.filter_eq_self.2 fun a ha => by rw [h2 a ha]; rfl
 ·omega
theorem idx_first (h : ¬ idxN q l = -1) : l.take (idxN q l).toNat = (l.take ((idxN q l).toNat + 1)).filter (fun a => !q a) := by
 rcases idxN_cases q l with ⟨h1, _⟩ | ⟨k, h1, h2, h3, h4⟩
 ·exact absurd h1 h
 ·rw [h2]
  simp only [Int.toNat_natCast]
  rw [filt_f (p := fun a => !q a) h1 (by rw [h3]; rfl)]
  symm
  refine List.filter_eq_self.2 fun a ha => ?_
  obtain ⟨j, hj, rfl⟩ := List.getElem_of_mem ha
  simp only [List.length_take] at hj
  rw [List.getElem_take, h4 j (by omega) (by omega)]; rfl
theorem drop_get {j : Nat} (hj : j < m.length) (hl : j < l.length) (h : m.drop j = l.drop j) : m[j] = l[j] := by
 rw [List.drop_eq_getElem_cons hj, List.drop_eq_getElem_cons hl] at h
 exact (List.cons.inj h).1
theorem drop_succ_of {j : Nat} (h : m.drop j = l.drop j) : m.drop (j + 1) = l.drop (j + 1) := by
 have := congrArg (List.drop 1) h
 rwa [List.drop_drop, List.drop_drop] at this
theorem del_keep {i j : Nat} {p : α → Bool} (hij : i < j) (hjl : j < l.length) (hml : m.length = l.length) (hmt : m.take i = (l.take j).filter p) (hmd : m.drop j = l.drop j) (hq : p l[j] = true) : (m.set i (m[j]'(by omega))).take (i + 1) = (l.take (j + 1)).filter p ∧ (m.set i (m[j]'(by omega))).drop (j + 1) = l.drop (j + 1) := by
 have e := drop_get (by omega) hjl hmd
 constructor
 ·rw [filt_t hjl hq, ← hmt, e, List.take_succ_eq_append_getElem (by simp; omega), List.take_set_of_le (Nat.le_refl _)]
  simp
 ·rw [List.drop_set_of_lt (by omega)]
  exact drop_succ_of hmd
theorem del_skip {i j : Nat} {p : α → Bool} (hjl : j < l.length) (hmt : m.take i = (l.take j).filter p) (hmd : m.drop j = l.drop j) (hq : p l[j] = false) : m.take i = (l.take (j + 1)).filter p ∧ m.drop (j + 1) = l.drop (j + 1) :=
 ⟨by rw [filt_f hjl hq]; exact hmt, drop_succ_of hmd⟩
end
end Go.Fw
namespace Go.Proofs.YtfmigmijckdldaaGreat
open Go Go.Fw Go.RowKit
attribute [local irreducible] Ok W WC
theorem wo1_fc {G : GH} (pk : Str) (pv : Str) (slo : Str) (shi : Str) (so : Bool) {b_s : Nat} (h_s : CellsG G b_s 0 [sV slo.b, sV shi.b, .bool so]) :
    Fc Tryz.prog 179 [.agg #[sV pk.b, sV pv.b], pt9 b_s] G [] (fun v _ _ => v = .bool (Span.has ⟨slo, shi, so⟩ pk)) := by
 refine Fc.go [.tmp 3] Tryz.func179 Tryz.ntmps179 rfl (fun w0 => (g9 2 ?_))
 refine W.box (L := [sV _, sV _]) rfl rfl (fun b1 => (g9 5 ?_))
 refine W.ok (ok_loadG (vs := sp9) ty55 h_s rfl rfl rfl (by simp)) (g9 2 ?_)
 refine W.qcall (spanhas_fc _ _ _ _) rfl (g9 5 ?_)
 rfl

theorem ixfp_fc {G : GH} {v_l : Value} {l : List Pair} {Ms_l : MH} (h_l : OwnR ePair 92 G v_l l Ms_l) (slo : Str) (shi : Str) (so : Bool) {b_s : Nat} (h_s : CellsG G b_s 0 [sV slo.b, sV shi.b, .bool so]) :
    Fc Tryz.prog 187 [v_l, .func (.func 179) #[] #[pt9 b_s]] G Ms_l (fun v _ M' => v = iV (idxN (fun p : Pair => Span.has ⟨slo, shi, so⟩ p.key) l) ∧ Ms_l = M') := by
 have hl := h_l.len47
 refine Fc.go [.tmp 4] Tryz.func187 Tryz.ntmps187 rfl (fun w0 => (WC.perm (M' := (Ms_l ++ [])) (by simp) (g9 14 ?_)))
 refine WC.loop (X := Nat) (fun k => [(8, nt9 k), (0, v_l), (1, .func (.func 179) #[] #[pt9 b_s]), (7, nt9 ((l).length))]) (fun k _ Ml => Ml = (Ms_l ++ []) ∧ k ≤ l.length ∧ ∀ j (h : j < l.length), j < k → (fun p : Pair => Span.has ⟨slo, shi, so⟩ p.key) l[j] = false) (fun k => l.length - k) 0 hs9 ?_ ?_
 ·exact ⟨rfl, om9, fun j _ h => by omega⟩
 rintro k gG2 G2 _ hG2 ⟨rfl, hk, hj⟩
 refine g9 6 ?_
 refine WC.cd (fun h9 p9 => ?_) (fun h9 p9 => ?_)
 ·refine g9 15 ?_
  refine (h_l.mono hG2).a1 (i := k) om9 (fun he3 => (W.ok (ok_indexAddrO (i := k) sl42 ty92 (h_l.mono hG2) rfl rfl ⟨om9, om9⟩) (W.ok (ok_loadO (vs := pr29) ty92 he3 pr9 rfl rfl rfl (by simp)) (W.qcallV (fst := []) (caps := [pt9 b_s]) rfl (wo1_fc _ _ _ _ _ (h_s.mono hG2)) rfl (g9 2 ?_)))))
  refine WC.cond rfl (fun h16 => ?_) (fun h16 => ?_)
  ·refine g9 12 ?_
   refine ⟨.inr rfl, [_], ⟨rfl, trivial⟩, Ms_l, List.sublist_append_left _ _, ?_⟩
   refine ⟨congrArg (Value.int .i64) ?_, rfl⟩
   exact (idxN_at om9 (h16) hj).symm
  refine g9 8 ?_
  exact ⟨Le.rfl, k + 1, hs9, ⟨rfl, om9, fun j h hji => by
      by_cases e2 : j = k
      · subst e2; exact h16
      · exact hj j h om9⟩, om9⟩
 refine g9 11 ?_
 refine ⟨.inr rfl, [_], ⟨rfl, trivial⟩, Ms_l, List.sublist_append_left _ _, ?_⟩
 refine ⟨congrArg (Value.int .i64) ?_, rfl⟩
 exact (idxN_no (fun j h => hj j h om9)).symm

theorem dfp_fc {G : GH} {v_l : Value} {l : List Pair} {Ms_l : MH} (h_l : OwnR ePair 92 G v_l l Ms_l) (slo : Str) (shi : Str) (so : Bool) {b_s : Nat} (h_s : CellsG G b_s 0 [sV slo.b, sV shi.b, .bool so]) :
    Fc Tryz.prog 178 [v_l, .func (.func 179) #[] #[pt9 b_s]] G Ms_l (fun v G' M' => OwnR ePair 92 G' v (l.filter (fun a => !(fun p : Pair => Span.has ⟨slo, shi, so⟩ p.key) a)) M') := by
 have hl := h_l.len47
 have hix := idxN_le (fun p : Pair => Span.has ⟨slo, shi, so⟩ p.key) l
 refine Fc.go [.tmp 4] Tryz.func178 Tryz.ntmps178 rfl (fun w0 => (WC.perm (M' := (Ms_l ++ [])) (by simp) (g9 9 ?_)))
 refine W.call (Mp := Ms_l) (ixfp_fc h_l _ _ _ h_s) rfl pr9 ?_
 intro _ G6 Ms8 hG6 q7
 refine match q7 with | ⟨e_9, e_10⟩ => ?_
 subst e_9
 subst e_10
 refine g9 10 ?_
 refine WC.cd (fun h12 p12 => ?_) (fun h12 p12 => ?_)
 ·try dsimp only at p12
  refine g9 8 ?_
  refine ⟨.inr rfl, [_], ⟨rfl, trivial⟩, Ms_l, List.sublist_append_left _ _, ?_⟩
  have h := (h_l.mono hG6)
  rw [idx_none p12]
  exact h
 try dsimp only at p12
 refine g9 11 ?_
 refine WC.loop (X := (Nat × Nat × List Pair) × Value × MH) (fun x => [(5, nt9 x.1.1), (6, nt9 x.1.2.1), (1, .func (.func 179) #[] #[pt9 b_s]), (0, x.2.1)]) (fun x G Ml => Ml = (x.2.2 ++ []) ∧ OwnR ePair 92 G x.2.1 (x.1.2.2) x.2.2 ∧ x.1.1 < x.1.2.1 ∧ x.1.2.1 ≤ l.length ∧ x.1.2.2.length = l.length ∧ x.1.2.2.take x.1.1 = (l.take x.1.2.1).filter (fun a => !(fun p : Pair => Span.has ⟨slo, shi, so⟩ p.key) a) ∧ x.1.2.2.drop x.1.2.1 = l.drop x.1.2.1) (fun x => l.length - x.1.2.1) (((idxN (fun p : Pair => Span.has ⟨slo, shi, so⟩ p.key) l).toNat, (idxN (fun p : Pair => Span.has ⟨slo, shi, so⟩ p.key) l).toNat + 1, l), v_l, Ms_l) hs9 ?_ ?_
 ·exact ⟨rfl, (by exact (h_l.mono hG6)), by dsimp only; omega, by dsimp only; omega, rfl, idx_first p12, rfl⟩
 rintro ⟨⟨i, j, m⟩, v_0, M_0⟩ gG11 G11 _ hG11 ⟨rfl, ho_0, hij, hjl, hml, hmt, hmd⟩
 try dsimp only at ho_0 hij hjl hml hmt hmd
 have hmj := fun (h : j < l.length) => drop_get (by omega : j < m.length) h hmd
 refine g9 9 ?_
 refine WC.cd (fun h19 p19 => ?_) (fun h19 p19 => ?_)
 ·try dsimp only at p19
  refine g9 8 ?_
  refine ho_0.a1 (i := j) om9 (fun he12 => (W.ok (ok_indexAddrO (i := j) sl42 ty92 ho_0 rfl rfl ⟨by dsimp only, om9⟩) (W.ok (ok_loadO (vs := pr29) ty92 he12 pr9 rfl rfl rfl (by simp)) (W.alloc zr92 (fun b15 => (g9 7 ?_))))))
  refine W.qcallV (fst := []) (caps := [pt9 b_s]) rfl (wo1_fc _ _ _ _ _ (h_s.mono lec)) rfl (g9 3 ?_)
  refine WC.cond rfl (fun h29 => ?_) (fun h29 => ?_)
  ·refine g9 5 ?_
   refine ho_0.a1 (i := i) om9 (fun he16 => (W.ok (ok_indexAddrO (i := i) sl42 ty92 ho_0 rfl rfl ⟨by dsimp only, om9⟩) (W.storeO (i := i) (o := 0) (vs := pr29) (a' := m[j]) ty92 rfl rfl rfl rfl rfl (ho_0) (pmC pr9) om9 (by decide) (fun cs h => by first | (rw [h]; rfl) | (rw [h.1]; exact ⟨rfl, by assumption⟩)) (fun Ms19 ho20 => (W.perm (pmC pr9).symm (g9 13 ?_))))))
   refine W.sub (sr9.cons _) (g9 2 ?_)
   exact ⟨Le.rfl, ((i + 1, j + 1, m.set i m[j]), v_0, Ms19), hs9, ⟨rfl, (by exact ho20), by dsimp only; omega, by dsimp only; omega, by simpa using hml, (del_keep (p := (fun a => !(fun p : Pair => Span.has ⟨slo, shi, so⟩ p.key) a)) hij om9 hml hmt hmd (by rw [← hmj om9]; simpa using h29)).1, (del_keep (p := (fun a => !(fun p : Pair => Span.has ⟨slo, shi, so⟩ p.key) a)) hij om9 hml hmt hmd (by rw [← hmj om9]; simpa using h29)).2⟩, by dsimp only; omega⟩
  refine g9 7 ?_
  refine W.sub (sr9.cons _) (g9 2 ?_)
  exact ⟨Le.rfl, ((i, j + 1, m), v_0, M_0), hs9, ⟨rfl, (by exact ho_0), by dsimp only; omega, by dsimp only; omega, hml, (del_skip (p := (fun a => !(fun p : Pair => Span.has ⟨slo, shi, so⟩ p.key) a)) om9 hmt hmd (by rw [← hmj om9]; simpa using h29)).1, (del_skip (p := (fun a => !(fun p : Pair => Span.has ⟨slo, shi, so⟩ p.key) a)) om9 hmt hmd (by rw [← hmj om9]; simpa using h29)).2⟩, by dsimp only; omega⟩
 try dsimp only at p19
 refine g9 9 ?_
 have q22 := ho_0.formB om9
 refine match q22 with | ⟨b38, c38, e_21⟩ => ?_
 subst e_21
 have hc38 := ho_0.cap_le
 refine W.ok (ok_sliceO i m.length sl42 ty92 ho_0 rfl ⟨_, _, rfl, by first | omega | (dsimp only; omega) | dsimp only⟩ rfl ⟨om9, .inl om9⟩) (W.clearO (e := ePair) (lo := i) (hi := m.length) (m := i) sl42 ty92 zr92 rfl rfl ho_0 pr9 rfl om9 hc38 ⟨_, rfl⟩ om9 om9 (fun Ms38 ho38 => (g9 6 ?_)))
 refine W.ok (ok_sliceG 0 i sl42 ty92 rfl rfl ⟨_, _, rfl, by first | omega | (dsimp only; omega) | dsimp only⟩ ⟨om9, by simp only [capV] at hc38; omega⟩) (g9 4 ?_)
 refine ⟨.inr rfl, [_], ⟨rfl, trivial⟩, Ms38, List.sublist_append_left _ _, ?_⟩
 have h := ho38
 rw [← List.take_of_length_le (l := l) (i := j) om9, ← hmt]
 exact h

end Go.Proofs.YtfmigmijckdldaaGreat
namespace Go.Proofs.YtfmigmijckdldaaGreat
open Go Go.Fw Go.RowKit
attribute [local irreducible] Ok W WC
theorem insp_fc {G : GH} {v_s : Value} {s : List Pair} {Ms_s : MH} (h_s : OwnR ePair 92 G v_s s Ms_s) (i : Nat) {v_u : Value} {u : List Pair} {Ms_u : MH} (h_u : OwnR ePair 92 G v_u u Ms_u) (hi : i ≤ s.length) (hu : 0 < u.length) (hw : (s.length + u.length) * 32 ≤ 140737488355328) :
    Fc Tryz.prog 182 [v_s, nt9 i, v_u] G (Ms_s ++ Ms_u) (fun v G' M' => OwnR ePair 92 G' v ((s.take i ++ u) ++ s.drop i) M') := by
 have hs := h_s.len47
 have hul := h_u.len47
 have hcs := h_s.cap_le
 refine Fc.go [.tmp 6] Tryz.func182 Tryz.ntmps182 rfl (fun w0 => (WC.perm (M' := (Ms_s ++ (Ms_u ++ []))) (by simp) (g9 9 ?_)))
 refine W.ok (ok_sliceO (i) (s.length) sl42 ty92 h_s rfl ⟨_, _, rfl, om9⟩ rfl ⟨om9, .inl om9⟩) (g9 16 ?_)
 refine WC.cd (fun h16 p16 => ?_) (fun h16 p16 => ?_)
 ·exact absurd p16 om9
 refine g9 17 ?_
 refine WC.cd (fun h22 p22 => ?_) (fun h22 p22 => ?_)
 ·refine g9 4 ?_
  refine W.giveO h_u (pmA pr9) (fun G1 hG1 hv1 => ?_)
  have q3 := hv1.form
  refine match q3 with | ⟨_, _, e_2⟩ => ?_
  subst e_2
  refine W.app (e := ePair) sl42 ty92 zr92 rfl by92 rfl rfl ((h_s.mono hG1)) (hv1) pr9 (hw) (fun v4 Ms5 ho6 => (g9 5 ?_))
  refine ⟨.inr rfl, [_], ⟨rfl, trivial⟩, Ms5, List.sublist_append_left _ _, ?_⟩
  have h := ho6
  rw [show (s.take i ++ u) ++ s.drop i = s ++ u from by rw [List.take_of_length_le om9, List.drop_eq_nil_of_le om9, List.append_nil]]
  exact h
 refine g9 7 ?_
 refine W.ok (Ok.int (n := ((s.length + u.length : Nat) : Int)) (ok_add rfl rfl om9) om9) (W.mv ?_)
 have q7 := h_s.capForm
 refine match q7 with | ⟨ac30, hcf30⟩ => ?_
 refine W.ok (ok_capO (c := capV v_s) sl42 hcf30) (g9 3 ?_)
 refine WC.cd (fun h31 p31 => ?_) (fun h31 p31 => ?_)
 ·refine g9 4 ?_
  refine W.ok (ok_sliceO (0) (i) sl42 ty92 h_s rfl rfl ⟨_, _, rfl, om9⟩ ⟨om9, .inl om9⟩) (g9 2 ?_)
  refine W.ok (Ok.int (n := ((s.length + u.length : Nat) : Int)) (ok_add rfl rfl om9) om9) (W.mv (W.ok (Ok.int (n := ((s.length + u.length - i : Nat) : Int)) (ok_sub rfl rfl om9) om9) (W.appZ (e := ePair) (i := i) (c := s.length + u.length - i) sl42 ty92 zr92 rfl by92 Tryz.underlying3 h_s pr9 rfl rfl om9 om9 om9 om9 (by rw [show i + (s.length + u.length - i) = s.length + u.length from by omega]; exact hw) rfl (fun v40 Ms40 hp40 => (g9 7 ?_)))))
  refine W.ok (ok_sliceP (i) (i + (s.length + u.length - i)) sl42 ty92 hp40 rfl ⟨_, _, rfl, om9⟩ rfl ⟨om9, by have := OwnP.cap_le hp40; omega⟩) (W.mv (W.copyP (i) (by simp; omega) sl42 ty92 hp40 pr9 (Src.ofOwn0 h_u (pmA (pmA pr9)) om9) rfl rfl om9 om9 (fun z45 Ms45 hp45 => (g9 3 ?_))))
  refine WC.dw sn9 (d9 [0, 1, 2] ?_)
  refine WD.tk 3 rfl (Ok.int (n := ((i + u.length : Nat) : Int)) (ok_add rfl rfl om9) om9) (WD.tk 4 rfl (ok_sliceP (i + u.length) (i + (s.length + u.length - i)) sl42 ty92 hp45 rfl ⟨_, _, rfl, om9⟩ rfl ⟨om9, by have := OwnP.cap_le hp45; omega⟩) (d9 [5, 6] ?_))
  refine WD.tk 7 rfl (ok_sliceO (i) (s.length) sl42 ty92 h_s rfl ⟨_, _, rfl, om9⟩ rfl ⟨om9, .inl om9⟩) (WD.a1 8 rfl (W.copyP (i + u.length) (by simp; omega) sl42 ty92 hp45 pr9 (Src.ofOwn (lo := i) h_s (pmA pr9) om9 om9) rfl rfl (by simp; omega) om9 (fun z54 Ms54 hp54 => (W.nn (g9 10 ?_)))))
  refine ⟨.inr rfl, [_], ⟨rfl, trivial⟩, Ms54, List.sublist_append_left _ _, ?_⟩
  have h := (hp54.own' (by simp; omega))
  rw [List.append_nil] at h
  exact h
 refine g9 7 ?_
 refine W.ok (Ok.int (n := ((s.length + u.length : Nat) : Int)) (ok_add rfl rfl om9) om9) (W.ok (ok_sliceO 0 (s.length + u.length) sl42 ty92 h_s rfl rfl ⟨_, _, rfl, om9⟩ ⟨om9, .inr om9⟩) ?_)
 have hp60 := OwnP.extend (m := u.length) (OwnR.open h_s om9) om9 hw om9
 refine g9 10 ?_
 refine W.ok (Ok.int (n := ((i + u.length : Nat) : Int)) (ok_add rfl rfl om9) om9) (W.ok (ok_sliceP (i + u.length) (s.length + u.length) sl42 ty92 hp60 rfl ⟨_, _, rfl, om9⟩ rfl ⟨om9, by have := OwnP.cap_le hp60; omega⟩) ?_)
 have hc67 := OwnP.cap_le hp60
 refine W.ok (ok_overlaps (fn := Tryz.f190) (tR := 4) (lo := i + u.length) (hi := s.length + u.length) Tryz.func190 (by kernel_rfl) (by kernel_rfl) (by kernel_rfl) (by kernel_rfl) sl42 ty92 h_u hp60 ((List.Perm.append_left _ pr9).trans (pmA pr9)) om9 om9 rfl rfl rfl) (g9 5 ?_)
 refine WC.dw sn9 (d9 [0, 1, 2] ?_)
 refine WD.tk 3 rfl (Ok.int (n := ((i + u.length : Nat) : Int)) (ok_add rfl rfl om9) om9) (WD.tk 4 rfl (ok_sliceP (i + u.length) (s.length + u.length) sl42 ty92 hp60 rfl ⟨_, _, rfl, om9⟩ rfl ⟨om9, by have := OwnP.cap_le hp60; omega⟩) (d9 [5, 6] ?_))
 refine WD.tk 7 rfl (ok_sliceP (i) (s.length + u.length) sl42 ty92 hp60 rfl ⟨_, _, rfl, om9⟩ rfl ⟨om9, by have := OwnP.cap_le hp60; omega⟩) (WD.a1 8 rfl (W.copyShift (i := i) sl42 ty92 hp60 pr9 rfl rfl om9 (fun z77 Ms77 hp77 => (W.nn (g9 6 ?_)))))
 refine W.ok (ok_sliceP (i) (s.length + u.length) sl42 ty92 hp77 rfl ⟨_, _, rfl, om9⟩ rfl ⟨om9, by have := OwnP.cap_le hp77; omega⟩) (W.mv (W.copyP (i) (by simp; omega) sl42 ty92 hp77 pr9 (Src.ofOwn0 h_u (pmA pr9) om9) rfl rfl om9 om9 (fun z82 Ms82 hp82 => (g9 10 ?_))))
 refine ⟨.inr rfl, [_], ⟨rfl, trivial⟩, Ms82, List.sublist_append_left _ _, ?_⟩
 exact (hp82.own' om9)

theorem delp_fc {G : GH} {v_s : Value} {s : List Pair} {Ms_s : MH} (h_s : OwnR ePair 92 G v_s s Ms_s) (i : Nat) (j : Nat) (hij : i < j ∧ j ≤ s.length) :
    Fc Tryz.prog 183 [v_s, nt9 i, nt9 j] G Ms_s (fun v G' M' => OwnR ePair 92 G' v (s.take i ++ s.drop j) M') := by
 have hs := h_s.len47
 obtain ⟨hij1, hij2⟩ := hij
 refine Fc.go [.tmp 6] Tryz.func183 Tryz.ntmps183 rfl (fun w0 => (WC.perm (M' := (Ms_s ++ [])) (by simp) (g9 12 ?_)))
 have q8 := h_s.capForm
 refine match q8 with | ⟨ac13, hcf13⟩ => ?_
 have hcl13 := h_s.cap_le
 refine W.okx (ok_slice3 i j s.length sl42 ty92 hcf13 ⟨_, _, rfl, om9⟩ ⟨_, _, rfl, om9⟩ ⟨_, _, rfl, om9⟩ ⟨om9, om9, om9⟩) (fun u13 => (g9 10 ?_))
 refine WC.cd (fun h16 p16 => ?_) (fun h16 p16 => ?_)
 ·exact absurd p16 om9
 refine g9 10 ?_
 refine WC.dw sn9 (d9 [0, 1] ?_)
 refine WD.tk 2 rfl (ok_sliceO (0) (i) sl42 ty92 h_s rfl rfl ⟨_, _, rfl, om9⟩ ⟨om9, .inl om9⟩) (d9 [3, 4] ?_)
 refine WD.tk 5 rfl (ok_sliceO (j) (s.length) sl42 ty92 h_s rfl ⟨_, _, rfl, om9⟩ rfl ⟨om9, .inl om9⟩) (WD.a1 6 rfl (W.appDel (e := ePair) (i := i) (j := j) sl42 ty92 zr92 rfl h_s pr9 rfl rfl om9 om9 om9 (fun v26 Ms26 ho26 hc26 hf26 => (W.nn (d9 [7] ?_)))))
 refine g9 8 ?_
 have hl31 : (s.take i ++ s.drop j).length = i + (s.length - j) := by simp; omega
 refine W.ok (ok_sliceO (s.take i ++ s.drop j).length s.length sl42 ty92 ho26 rfl ⟨_, _, rfl, om9⟩ ⟨_, _, rfl, om9⟩ ⟨om9, .inr om9⟩) (W.clearT (e := ePair) (lo := (s.take i ++ s.drop j).length) (hi := s.length) sl42 ty92 zr92 rfl rfl ho26 pr9 rfl om9 hc26 hf26 om9 (fun Ms31 ho31 => (g9 9 ?_)))
 refine ⟨.inr rfl, [_], ⟨rfl, trivial⟩, Ms31, List.sublist_append_left _ _, ?_⟩
 exact ho31

end Go.Proofs.YtfmigmijckdldaaGreat

namespace Go.Fw
theorem isSome_getD {α : Type} {o : Option α} {d : α} (h : o.isSome = true) : o = some (o.getD d) := by cases o <;> simp_all
def fitsN (l : List Pair) (k : Str) (e : Eff) (n : Int) : Bool := (getN l k).isSome || !(decide (e.kind = 1) || decide (e.kind = 2)) || decide ((l.length : Int) < n)
def lfitsN (l : List Pair) (m : Msg) (n : Int) : Bool := decide (m.kind = 4) || fitsN l m.key (m.on m.key) n
def rfits20N (l : List Pair) (m : Msg) (n : Int) : Bool := decide (3 ≤ m.kind) || (getN l m.key).isSome || decide ((l.length : Int) < n)
theorem Msg.has_key {m : Msg} (h : m.R) : m.span.has m.key = true := by
 unfold Msg.R at h
 obtain ⟨h1, h2⟩ := h
 unfold Msg.span
 by_cases hk : m.kind = 4
 ·rw [if_pos hk] at h2 ⊢
  have h3 := h2.2.2
  rw [Msg.span, if_pos hk] at h3
  have := Span.empty_eq ⟨m.key, m.hi, m.opn⟩
  rw [h3] at this
  simpa using this
 ·rw [if_neg hk, point_has (by omega)]; simp
theorem lfits_eq {l : List Pair} {m : Msg} {n : Int} (h : m.R) : lfitsN l m n = rfits20N l m n := by
 have hk := Msg.has_key h
 unfold Msg.R at h
 obtain ⟨h1, h2⟩ := h
 unfold lfitsN rfits20N fitsN Msg.on
 rw [hk]
 by_cases h4 : m.kind = 4
 ·simp [h4]
 ·rw [if_neg h4] at h2
  rcases h2.2.2 with h5 | h5 | ⟨h5, _⟩ <;> rw [h5] <;> simp
def leafTakeN (l : List Pair) (m : Msg) (n : Int) : List Pair × Bool := if lfitsN l m n = true then (takeN l m, true) else ([], false)
theorem leafTakeN_t {l : List Pair} {m : Msg} {n : Int} (h : lfitsN l m n = true) : leafTakeN l m n = (takeN l m, true) := if_pos h
theorem leafTakeN_f {l : List Pair} {m : Msg} {n : Int} (h : lfitsN l m n = false) : leafTakeN l m n = ([], false) := if_neg (by simp [h])
def drainN (n : Int) : List Pair → List Msg → List Pair × Nat
 | l, [] => (l, 0)
 | l, m :: ms => if lfitsN l m n = true then ((drainN n (takeN l m) ms).1, (drainN n (takeN l m) ms).2 + 1) else (l, 0)
theorem drain_le (n : Int) : ∀ (ms : List Msg) (l : List Pair), (drainN n l ms).2 ≤ ms.length
 | [], l => by simp [drainN]
 | m :: ms, l => by
  unfold drainN; split
  ·have := drain_le n ms (takeN l m); simp; exact this
  ·simp
theorem drain_fold (n : Int) : ∀ (ms : List Msg) (l : List Pair), (drainN n l ms).1 = foldN l (ms.take (drainN n l ms).2)
 | [], l => by simp [drainN, foldN]
 | m :: ms, l => by
  unfold drainN; split
  ·rw [drain_fold n ms (takeN l m)]; simp [foldN]
  ·simp [foldN]
theorem drain_step {n : Int} {l : List Pair} {ms : List Msg} {k : Nat} (hk : k < ms.length) (h : lfitsN (foldN l (ms.take k)) ms[k] n = true) :
  drainN n (foldN l (ms.take k)) (ms.drop k) = ((drainN n (foldN l (ms.take (k + 1))) (ms.drop (k + 1))).1, (drainN n (foldN l (ms.take (k + 1))) (ms.drop (k + 1))).2 + 1) := by
 rw [List.drop_eq_getElem_cons hk, drainN, if_pos h, foldN_succ hk]
theorem drain_stop {n : Int} {l : List Pair} {ms : List Msg} {k : Nat} (hk : k < ms.length) (h : lfitsN (foldN l (ms.take k)) ms[k] n = false) :
  drainN n (foldN l (ms.take k)) (ms.drop k) = (foldN l (ms.take k), 0) := by
 rw [List.drop_eq_getElem_cons hk, drainN, if_neg (by simp [h])]
def DrainAt (n : Int) (l : List Pair) (ms : List Msg) (k : Nat) : Prop := drainN n l ms = ((drainN n (foldN l (ms.take k)) (ms.drop k)).1, k + (drainN n (foldN l (ms.take k)) (ms.drop k)).2)
theorem DrainAt.zero (n : Int) (l : List Pair) (ms : List Msg) : DrainAt n l ms 0 := by simp [DrainAt, foldN]
theorem DrainAt.succ {n : Int} {l : List Pair} {ms : List Msg} {k : Nat} (h : DrainAt n l ms k) (hk : k < ms.length) (hf : lfitsN (foldN l (ms.take k)) ms[k] n = true) : DrainAt n l ms (k + 1) := by
 unfold DrainAt at h ⊢
 rw [h, drain_step hk hf]
 simp only [Prod.mk.injEq, true_and]; omega
theorem DrainAt.stop {n : Int} {l : List Pair} {ms : List Msg} {k : Nat} (h : DrainAt n l ms k) (hk : k < ms.length) (hf : lfitsN (foldN l (ms.take k)) ms[k] n = false) : drainN n l ms = (foldN l (ms.take k), k) := by
 unfold DrainAt at h
 rw [h, drain_stop hk hf]; rfl
theorem DrainAt.all {n : Int} {l : List Pair} {ms : List Msg} {k : Nat} (h : DrainAt n l ms k) (hk : ms.length ≤ k) : drainN n l ms = (foldN l ms, k) := by
 unfold DrainAt at h
 rw [h, List.drop_eq_nil_of_le hk, List.take_of_length_le hk]; rfl
theorem drain_len (n : Int) : ∀ (ms : List Msg) (l : List Pair), PairsR l → (∀ m ∈ ms, m.R) → (((drainN n l ms).1.length : Nat) : Int) ≤ max (l.length : Int) n
 | [], l, _, _ => by first | (simp [drainN]; done) | (simp only [drainN]; omega)
 | m :: ms, l, hP, hm => by
  unfold drainN; split
  ·rename_i hf
   have hR := hm m (by simp)
   have hR' := hR
   unfold Msg.R at hR'
   have h1 := drain_len n ms (takeN l m) (hP.takeM hR'.1.2.1 hR'.1.2.2.1) (fun m h => hm m (by simp [h]))
   have h2 : (((takeN l m).length : Nat) : Int) ≤ max (l.length : Int) n := by
    rw [lfits_eq hR] at hf
    have h3 := hP.take_len m
    unfold takeN
    split
    ·have := List.length_filter_le (fun p : Pair => !m.span.has p.key) l; clear h3; omega
    ·rename_i h4
     clear h3
     have hr := hP.srt
     have key : ∀ {e : Eff}, ((getN l m.key).isSome = true ∨ e.kind = 3) → (withN l m.key e).length ≤ l.length := fun {e} h => by
      rw [withN_mid, hr.front]
      cases hs : (getN l m.key).isSome
      ·rw [hr.back_no hs]
       rcases h with h | h
       ·rw [hs] at h; cases h
       ·have : Eff.apply e (getN l m.key) = none := by simp [Eff.apply, h]
        rw [this]
        have := fndN_le l m.key
        simp [midN] <;> omega
      ·have hh := hr.has m.key
       rw [hs] at hh
       obtain ⟨q1, q2⟩ := of_decide_eq_true hh.symm
       rw [hr.back_yes q1 q2]
       have := midN_le (Eff.apply e (getN l m.key)) m.key
       simp; omega
     unfold rfits20N at hf
     simp only [Bool.or_eq_true, decide_eq_true_eq] at hf
     have hk := Msg.has_key hR
     rcases hf with (hf | hf) | hf
     ·have hq := hR'.2
      rw [if_neg h4] at hq
      have hq3 : m.kind = 3 := by rcases hq.2.2 with h | h | h <;> omega
      have := key (e := m.on m.key) (.inr (by unfold Msg.on; rw [hk, hq3]; rfl))
      omega
     ·have := key (e := m.on m.key) (.inl hf); omega
     ·have := hr.with_len m.key (m.on m.key); omega
   have h5 : max ((takeN l m).length : Int) n ≤ max (l.length : Int) n := by omega
   dsimp only; omega
  ·dsimp only; omega
theorem msgR_sizes {m : Msg} (h : m.R) : m.key.b.size ≤ 16 ∧ m.val.b.size ≤ 16 := ⟨h.1.2.1, h.1.2.2.1⟩
theorem scan_whole (l : List Pair) (s : Span) : scanN l s (l.length : Int) = l.filter fun p => s.has p.key := by
 unfold scanN
 exact List.take_of_length_le (by have := List.length_filter_le (fun p : Pair => s.has p.key) l; omega)
theorem norm_size {s : Span} {n : Nat} (h : s.lo.b.size ≤ n) : s.norm.lo.b.size ≤ n := by
 unfold Span.norm
 split
 ·show 0 ≤ n; omega
 ·split <;> exact h
def Msg.fit (m : Msg) : Prop := m.key.b.size ≤ 1000 ∧ (m.kind = 4 ∨ m.key.b.size ≤ 16) ∧ m.val.b.size ≤ 16
theorem fit_of {m : Msg} (h : m.key.b.size ≤ 16 ∧ m.val.b.size ≤ 16) : m.fit := ⟨by omega, .inr h.1, h.2⟩
theorem PairsR.takeF {l : List Pair} {m : Msg} (h : PairsR l) (hf : m.fit) : PairsR (takeN l m) := by
 unfold takeN
 split
 ·exact h.filter _
 ·rename_i h4
  exact h.with (hf.2.1.resolve_left h4) (on_val _ hf.2.2)
theorem PairsR.foldF {ms : List Msg} : ∀ {l : List Pair}, PairsR l → (∀ m ∈ ms, m.fit) → PairsR (foldN l ms) := by
 induction ms with
 | nil => exact fun h _ => h
 | cons m ms ih => exact fun h hm => ih (h.takeF (hm m (by simp))) (fun m h => hm m (by simp [h]))
theorem fold_lenF {l : List Pair} {ms : List Msg} (h : PairsR l) (hm : ∀ m ∈ ms, m.fit) : (foldN l ms).length ≤ l.length + ms.length := by
 induction ms generalizing l with
 | nil => simp [foldN]
 | cons m ms ih =>
  have h1 := ih (h.takeF (hm m (by simp))) (fun m h => hm m (by simp [h]))
  have h2 := h.take_len m
  simp only [foldN, List.foldl_cons, List.length_cons] at h1 ⊢; omega
theorem clips_fit {s : Span} {ms : List Msg} (hs : s.lo.b.size ≤ 300) (hm : ∀ m ∈ ms, m.key.b.size ≤ 16 ∧ m.val.b.size ≤ 16) : ∀ m ∈ clips s ms, m.fit := by
 intro m hmm
 unfold clips at hmm
 obtain ⟨a, ha, he⟩ := List.mem_filterMap.1 hmm
 split at he
 ·cases he
  have h1 := hm a ha
  have h0 : ∀ x : Str, x = Str.nil → x.b.size ≤ 300 := fun x hx => by rw [hx]; show 0 ≤ 300; omega
  unfold Msg.clip
  split
  ·exact ⟨by show 0 ≤ 1000; omega, .inr (by show 0 ≤ 16; omega), by show 0 ≤ 16; omega⟩
  ·split
   ·rename_i h4
    refine ⟨?_, .inl h4, h1.2⟩
    show (a.span.meet s).lo.b.size ≤ 1000
    have hl : (if a.span.lo.lt s.lo = true then s.lo else a.span.lo).b.size ≤ 300 := by
     split
     ·exact hs
     ·rw [Msg.span, if_pos h4]; show a.key.b.size ≤ 300; omega
    unfold Span.meet
    exact Nat.le_trans (norm_size hl) (by omega)
   ·exact fit_of h1
 ·cases he
theorem meet_has (a b : Span) (k : Str) : (a.meet b).has k = (a.has k && b.has k) := by
 unfold Span.meet
 rw [norm_has]
 rw [Bool.eq_iff_iff]
 simp only [Span.has, Bool.and_eq_true, Bool.not_eq_true', Bool.or_eq_true]
 have hlo : (k.lt (if a.lo.lt b.lo = true then b.lo else a.lo) = false) ↔ (k.lt a.lo = false ∧ k.lt b.lo = false) := by
  by_cases h : a.lo.lt b.lo = true
  ·rw [if_pos h]
   refine ⟨fun h1 => ⟨?_, h1⟩, fun h1 => h1.2⟩
   cases h2 : k.lt a.lo
   ·rfl
   ·rw [Str.lt_trans h2 h] at h1; cases h1
  ·rw [if_neg h]
   refine ⟨fun h1 => ⟨h1, ?_⟩, fun h1 => h1.1⟩
   cases h2 : k.lt b.lo
   ·rfl
   ·rw [Str.lt_of_lt_of_le h2 (by simpa using h)] at h1; cases h1
 rw [hlo]
 cases ha : a.opn <;> cases hb : b.opn <;> simp
 ·by_cases h : b.hi.lt a.hi = true
  ·rw [if_pos h]
   grind [Str.lt_trans]
  ·rw [if_neg h]
   have h : b.hi.lt a.hi = false := by simpa using h
   have : ∀ {x : Str}, x.lt a.hi = true → x.lt b.hi = true := fun hx => Str.lt_of_lt_of_le hx h
   grind
 all_goals grind
theorem clips_cons (s : Span) (m : Msg) (ms : List Msg) : clips s (m :: ms) = if (m.clip s).2 = true then (m.clip s).1 :: clips s ms else clips s ms := by
 unfold clips; rw [List.filterMap_cons]; split <;> simp_all
theorem take_clip {l : List Pair} {m : Msg} {s : Span} (hr : Srt l) (hk : m.key.b.size < 140737488355328) : (if (m.clip s).2 = true then takeN (l.filter fun p => s.has p.key) (m.clip s).1 else l.filter fun p => s.has p.key) = (takeN l m).filter fun p => s.has p.key := by
 have hmh := fun k => meet_has m.span s k
 cases he : (m.span.meet s).empty
 ·by_cases h4 : m.kind = 4
  ·rw [clip_4 he h4, if_pos rfl]
   unfold takeN
   rw [if_pos h4, if_pos h4, List.filter_filter, List.filter_filter]
   congr 1
   funext p
   have e1 : Msg.span { m with key := (m.span.meet s).lo, hi := (m.span.meet s).hi, opn := (m.span.meet s).opn } = m.span.meet s := by rw [Msg.span, if_pos h4]
   rw [e1, hmh]
   cases s.has p.key <;> simp
  ·rw [clip_n he h4, if_pos rfl]
   unfold takeN
   rw [if_neg h4, if_neg h4]
   have hsp : ∀ x, m.span.has x = decide (x = m.key) := fun x => by rw [Msg.span, if_neg h4]; exact point_has hk
   have hin : s.has m.key = true := by
    have := Span.empty_eq (m.span.meet s)
    rw [he, hmh, hsp] at this
    simp only [Bool.not_eq_false', Bool.and_eq_true, decide_eq_true_eq] at this
    rw [← this.1]; exact this.2
   rw [withN_mid, withN_mid, getN_filter (fun k => s.has k), if_pos hin, List.filter_append, List.filter_append, List.filter_filter, List.filter_filter, List.filter_filter, List.filter_filter]
   congr 1
   ·congr 1
    ·congr 1; funext p; exact Bool.and_comm _ _
    ·cases Eff.apply (m.on m.key) (getN l m.key) <;> simp [midN, hin]
   ·congr 1; funext p; exact Bool.and_comm _ _
 ·rw [clip_e he]
  simp only [Bool.false_eq_true, if_false]
  have hno : ∀ k, m.span.has k = true → s.has k = false := fun k h1 => by
   have h2 := hmh k
   have h3 : (m.span.meet s).has k = false := by
    cases h : (m.span.meet s).has k
    ·rfl
    ·simp only [Span.empty, Bool.and_eq_true, Bool.not_eq_true'] at he
     simp only [Span.has, he.1, Bool.false_or, Bool.and_eq_true, Bool.not_eq_true'] at h
     rw [Str.lt_of_le_of_lt h.1 h.2] at he; cases he.2
   rw [h3, h1] at h2; simpa using h2.symm
  unfold takeN
  by_cases h4 : m.kind = 4
  ·rw [if_pos h4, List.filter_filter]
   refine List.filter_congr fun p _ => ?_
   cases h : m.span.has p.key
   ·simp
   ·rw [hno _ h]; rfl
  ·rw [if_neg h4]
   have hsp : ∀ x, m.span.has x = decide (x = m.key) := fun x => by rw [Msg.span, if_neg h4]; exact point_has hk
   have hout : s.has m.key = false := hno _ (by rw [hsp]; simp)
   rw [withN_mid, List.filter_append, List.filter_append]
   have e2 : (midN (Eff.apply (m.on m.key) (getN l m.key)) m.key).filter (fun p => s.has p.key) = [] := by
    cases Eff.apply (m.on m.key) (getN l m.key) <;> simp [midN, hout]
   rw [e2, List.append_nil, hr.front]
   cases hs : (getN l m.key).isSome
   ·rw [hr.back_no hs, ← List.filter_append, List.take_append_drop]
   ·have hh := hr.has m.key
    rw [hs] at hh
    obtain ⟨q1, q2⟩ := of_decide_eq_true hh.symm
    rw [hr.back_yes q1 q2]
    have e3 : l = l.take (fndN l m.key) ++ l[fndN l m.key] :: l.drop (fndN l m.key + 1) := by rw [← List.drop_eq_getElem_cons q1, List.take_append_drop]
    conv => lhs; rw [e3]
    rw [List.filter_append, List.filter_cons_of_neg (by rw [q2, hout]; simp)]
theorem view_fold {s : Span} : ∀ {ms : List Msg} {l : List Pair}, Srt l → (∀ m ∈ ms, m.key.b.size < 140737488355328) → foldN (l.filter fun p => s.has p.key) (clips s ms) = (foldN l ms).filter fun p => s.has p.key
 | [], l, _, _ => by simp [clips, foldN]
 | m :: ms, l, hr, hm => by
  have h1 := take_clip (s := s) hr (hm m (by simp))
  have hrt : Srt (takeN l m) := by
   unfold takeN; split
   ·exact hr.filter _
   ·exact hr.with _ _
  have h2 := view_fold (s := s) (ms := ms) hrt (fun m h => hm m (List.mem_cons_of_mem _ h))
  rw [clips_cons]
  show _ = (foldN (takeN l m) ms).filter _
  rw [← h2]
  split
  ·rename_i hc
   rw [if_pos hc] at h1
   rw [← h1]; rfl
  ·rename_i hc
   rw [if_neg hc] at h1
   rw [← h1]
end Go.Fw
