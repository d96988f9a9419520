/- Walks of functions on effects, and where a key stands. -/
import Derived.Test.YtebkfinhhpelbaaGreatQyW4
import Derived.Test.YtebkfinhhpelbaaGreatQyW2
import Derived.Test.YtebkfinhhpelbaaGreatQyX3
namespace Go.Proofs.YtebkfinhhpelbaaGreat
open Go Go.Fw Go.RowKit
set_option maxRecDepth 100000
set_option maxHeartbeats 1600000
set_option linter.unusedVariables false
set_option linter.unusedSimpArgs false
set_option linter.unnecessarySimpa false
theorem rget_fc {G : GH} {v_l : Value} {l : List Pair} (h_l : SlR ePair G v_l l) (k : Str) :
    Fc Tryz.prog 26 [v_l, .string k.b] G [] (fun v _ _ => v = .tuple #[.string (Str.b ((getN l k).getD Str.nil)), .bool ((getN l k).isSome)]) := by
 obtain ⟨sa_l, sc_l, rfl⟩ := h_l.form
 have hl := h_l.len47
 refine Fc.intro (rs := [.tmp 4, .tmp 5]) cl26 Tryz.func26 rfl Tryz.ntmps26 rfl rfl (fun w0 => ?_)
 refine WC.seq (WC.region (W.as (W.as (W.nil (thn_n (WC.seq (WC.seq (WC.region ?_))))))))
 refine W.as (W.nil (thn_n (WC.block ?_)))
 refine WC.loop (X := Nat) (fun i => [(6, .int .i64 ((i : Nat) : Int)), (0, .slice sa_l l.length sc_l), (1, .string k.b)]) (fun i _ Ml => Ml = [] ∧ i ≤ l.length ∧ ∀ j (h : j < l.length), j < i → l[j].key ≠ k) (fun i => l.length - i) 0 ⟨eqv, eqv, eqv, trivial⟩ ?_ ?_
 ·exact ⟨rfl, by omega, fun j _ h => by omega⟩
 ·rintro i gG12 G12 _ hG12 ⟨rfl, hi, hj⟩
  refine WC.seq (WC.seq (WC.region (W.mv (W.mv (W.ok (ok_len sl41 (h_l.mono hG12) rfl) (W.ok (ok_lss rfl rfl) (W.nil (thn_n ?_))))))))
  refine WC.cond (b := _) rfl (fun h10 => ?_) (fun h10 => ?_)
  ·have p10 := of_decide_eq_true h10
   refine WC.skip (thn_n (WC.seq (WC.block (WC.seq (WC.region (W.mv (W.mv ?_)))))))
   have q15 := (h_l.mono hG12).at (i := i) (by omega)
   refine match q15 with | ⟨_, he13, e_14⟩ => ?_
   subst e_14
   refine W.ok (ok_indexAddr (i := i) sl41 ty69 (h_l.mono hG12) rfl rfl ⟨by omega, by omega⟩) (W.ok (ok_fieldE fd69_0 rfl he13.form) (W.ok (ok_loadE (vs := [.string _]) ty9 he13 rfl rfl rfl (by simp)) (W.mv (W.ok (ok_eqlS rfl rfl) (W.nil (thn_n ?_))))))
   refine WC.cond (b := _) rfl (fun h19 => ?_) (fun h19 => ?_)
   ·have p19 := of_decide_eq_true h19
    refine WC.seq (WC.region (W.mv (W.mv ?_)))
    have q18 := (h_l.mono hG12).at (i := i) (by omega)
    refine match q18 with | ⟨_, he16, e_17⟩ => ?_
    subst e_17
    refine W.ok (ok_indexAddr (i := i) sl41 ty69 (h_l.mono hG12) rfl rfl ⟨by omega, by omega⟩) (W.ok (ok_fieldE fd69_1 rfl he16.form) (W.ok (ok_loadE (vs := [.string _]) ty9 he16 rfl rfl rfl (by simp)) (W.as (W.as (W.nil (thn_n (WC.ret (blk_r (thn_r (thn_r (blk_r (thn_r ?_))))))))))))
    refine ⟨.inr rfl, [_, _], ⟨rfl, rfl, trivial⟩, [], List.nil_sublist _, ?_⟩
    show Value.tuple #[Value.string _, Value.bool _] = _
    have e1 : l[i].key = k := Str.ext' p19
    have e := getN_at (by omega : i < l.length) (fun j h hji => by rw [e1]; exact hj j h hji)
    rw [e1] at e
    rw [e]; rfl
   ·have p19 := of_decide_eq_false h19
    refine WC.skip (blk_n (thn_n (WC.region (W.mv (W.ok (ok_add rfl rfl (by omega)) (W.as (W.nil (thn_n ?_))))))))
    exact ⟨Le.rfl, i + 1, ⟨eqv, eqv, eqv, trivial⟩, ⟨rfl, by omega, fun j h hji e => by
      by_cases e2 : j = i
      · subst e2; exact p19 (congrArg Str.b e)
      · exact hj j h (by omega) e⟩, by omega⟩
  ·have p10 := of_decide_eq_false h10
   refine WC.exit (thn_x (thn_x (blk_h (thn_n (WC.seq (WC.region (W.as (W.as (W.nil (thn_n (WC.ret ?_)))))))))))
   refine ⟨.inr rfl, [_, _], ⟨rfl, rfl, trivial⟩, [], List.nil_sublist _, ?_⟩
   show Value.tuple #[Value.string _, Value.bool _] = _
   rw [getN_no (fun j h => hj j h (by omega))]; rfl

end Go.Proofs.YtebkfinhhpelbaaGreat
/- Walks of functions that look through rows. -/
namespace Go.Proofs.YtebkfinhhpelbaaGreat
open Go Go.Fw Go.RowKit
set_option maxRecDepth 100000
set_option maxHeartbeats 1600000
set_option linter.unusedVariables false
set_option linter.unusedSimpArgs false
set_option linter.unnecessarySimpa false
theorem rscan_fc {G : GH} {v_l : Value} {l : List Pair} (h_l : SlR ePair G v_l l) (slo : Str) (shi : Str) (so : Bool) (n : Int) (hn : l.length ≤ 100000000) :
    Fc Tryz.prog 50 [v_l, .agg #[.string slo.b, .string shi.b, .bool so], .int .i64 n] G [] (fun v G' M' => M' = [] ∧ ∃ u0, v = u0 ∧ SlR ePair G' u0 (scanN l ⟨slo, shi, so⟩ n)) := by
 obtain ⟨sa_l, sc_l, rfl⟩ := h_l.form
 have hl := h_l.len47
 refine Fc.intro (rs := [.tmp 6]) cl50 Tryz.func50 rfl Tryz.ntmps50 rfl rfl (fun w0 => ?_)
 refine WC.seq (WC.region (W.box (L := [.string _, .string _, .bool _]) rfl rfl (fun b13 => (W.as (W.nil (thn_n (WC.seq (WC.region (W.as ?_)))))))))
 refine W.nil (thn_n (WC.seq (WC.seq (WC.region (W.as (W.nil (thn_n (WC.block ?_))))))))
 refine WC.loop (X := (Nat) × Value × MH) (fun i => [(8, .int .i64 ((i.1 : Nat) : Int)), (4, .pointer (some ⟨b13, 0, none⟩)), (0, .slice sa_l l.length sc_l), (2, .int .i64 n), (7, i.2.1)]) (fun i G Ml => Ml = ((b13, .cells (List.toArray [.string slo.b, .string shi.b, .bool so]) 52 (0, 0)) :: (i.2.2 ++ [])) ∧ OwnR ePair 69 G i.2.1 (scanN (l.take i.1) ⟨slo, shi, so⟩ n) i.2.2 ∧ i.1 ≤ l.length) (fun i => l.length - i.1) (0, .slice none 0 0, ([] : MH)) ⟨eqv, eqv, eqv, eqv, eqv, trivial⟩ ?_ ?_
 ·exact ⟨rfl, (by simpa [scanN] using OwnR.nil), by omega⟩
 ·rintro ⟨i, v_7, M_7⟩ gG14 G14 _ hG14 ⟨rfl, ho_7, hi⟩
  try dsimp only at ho_7 hi
  have hsl := scan_len (l := l.take i) (s := ⟨slo, shi, so⟩) (n := n)
  have htl : (l.take i).length ≤ i := by simp; omega
  refine WC.fr (f := setL gG14 [(8, .int .i64 ((i : Nat) : Int)), (4, .pointer (some ⟨b13, 0, none⟩)), (0, .slice sa_l l.length sc_l), (2, .int .i64 n), (7, v_7)]) rfl (WC.seq (WC.seq (WC.region (W.mv (W.mv (W.ok (ok_len sl41 (h_l.mono hG14) rfl) (W.ok (ok_lss rfl rfl) ?_)))))))
  refine W.nil (thn_n ?_)
  refine WC.cond (b := _) rfl (fun h12 => ?_) (fun h12 => ?_)
  ·have p12 := of_decide_eq_true h12
   refine WC.skip (thn_n (WC.seq (WC.block (WC.seq (WC.draw mix (by kernel_rfl) (W.ok (ok_loadB (i := 0) (vs := [.string _, .string _, .bool _]) ty52 rfl rfl rfl rfl (by simp)) (W.mv (W.mv ?_))))))))
   have q17 := (h_l.mono hG14).at (i := i) (by omega)
   refine match q17 with | ⟨_, he15, e_16⟩ => ?_
   subst e_16
   refine W.ok (ok_indexAddr (i := i) sl41 ty69 (h_l.mono hG14) rfl rfl ⟨by omega, by omega⟩) (W.ok (ok_fieldE fd69_0 rfl he15.form) (W.ok (ok_loadE (vs := [.string _]) ty9 he15 rfl rfl rfl (by simp)) (W.qcall (has_fc _ _ _ _) rfl (W.mv ?_))))
   refine W.sp 22 rfl (fun h21 => ?_) (fun h21 => ?_)
   ·refine W.yes (dj := 22) rfl rfl h21 (W.mv (W.yes (dj := 22) rfl rfl h21 (W.ok (ok_lenO sl41 ho_7 rfl) (W.yes (dj := 22) rfl rfl h21 (W.mv (W.yes (dj := 22) rfl rfl h21 (W.ok (ok_lss rfl rfl) ?_)))))))
    refine W.ok (ok_pick_t rfl h21) (W.nil (thn_n ?_))
    refine WC.cond (b := _) rfl (fun h26 => ?_) (fun h26 => ?_)
    ·have p26 := of_decide_eq_true h26
     refine WC.region (W.mv (W.mv (W.mv ?_)))
     have q20 := (h_l.mono hG14).at (i := i) (by omega)
     refine match q20 with | ⟨_, he18, e_19⟩ => ?_
     subst e_19
     refine W.ok (ok_indexAddr (i := i) sl41 ty69 (h_l.mono hG14) rfl rfl ⟨by omega, by omega⟩) (W.ok (ok_loadE (vs := [.string _, .string _]) ty69 he18 rfl rfl rfl (by simp)) (W.lit (e := ePair) (l := [((l)[i])]) (css := [[.string _, .string _]]) sl41 ty69 zr69 rfl rfl rfl rfl rfl rfl ⟨rfl, trivial⟩ (fun bl21 G21 hG21 hv21 => (W.app (e := ePair) sl41 ty69 zr69 rfl by69 rfl rfl ((ho_7.mono hG21)) (hv21) (pmC (List.Perm.refl _)) (by show (_ + 1) * 32 ≤ _; (try simp only [List.length_append] at *); omega) (fun v22 Ms23 ho24 => (W.perm (pmC (List.Perm.refl _)).symm (W.as (W.nil (blk_n (thn_n (WC.region ?_)))))))))))
     refine W.mv (W.ok (ok_add rfl rfl (by omega)) (W.as (W.nil (thn_n ?_))))
     exact ⟨hG21, (i + 1, v22, Ms23), ⟨eqv, eqv, eqv, eqv, eqv, trivial⟩, ⟨rfl, (by have h := ho24; rw [scan_succ_t (by omega) (by omega) (by simpa using h21)]; exact h), by omega⟩, by omega⟩
    ·have p26 := of_decide_eq_false h26
     refine WC.skip (blk_n (thn_n (WC.region (W.mv (W.ok (ok_add rfl rfl (by omega)) (W.as (W.nil (thn_n ?_))))))))
     exact ⟨Le.rfl, (i + 1, v_7, M_7), ⟨eqv, eqv, eqv, eqv, eqv, trivial⟩, ⟨rfl, (by have h := ho_7; rw [scan_full' (by omega) (by omega)]; exact h), by omega⟩, by omega⟩
   ·refine W.no (dj := 22) rfl rfl h21 (W.no (dj := 22) rfl rfl h21 (W.no (dj := 22) rfl rfl h21 (W.no (dj := 22) rfl rfl h21 (W.ok (ok_pick_f rfl h21) (W.nil (thn_n (WC.cond_f rfl rfl (WC.skip (blk_n (thn_n ?_))))))))))
    refine WC.region (W.mv (W.ok (ok_add rfl rfl (by omega)) (W.as (W.nil (thn_n ?_)))))
    exact ⟨Le.rfl, (i + 1, v_7, M_7), ⟨eqv, eqv, eqv, eqv, eqv, trivial⟩, ⟨rfl, (by have h := ho_7; rw [scan_succ_f (by omega) (by simpa using h21)]; exact h), by omega⟩, by omega⟩
  ·have p12 := of_decide_eq_false h12
   refine WC.exit (thn_x (thn_x (blk_h (thn_n (WC.seq (WC.region (W.mv (W.as (W.nil (thn_n (WC.giveO ho_7 (pmC (List.Perm.refl _)) (fun G25 hG25 hv25 => (WC.ret ?_)))))))))))))
   refine ⟨.inr rfl, [_], ⟨rfl, trivial⟩, [], List.nil_sublist _, ?_⟩
   refine ⟨rfl, _, rfl, ?_⟩
   · have h := hv25; rw [List.take_of_length_le (by omega)] at h; exact h

end Go.Proofs.YtebkfinhhpelbaaGreat
/- Where the first element stands that meets a test; deletion of elements in place. Plain Lean; nothing of the program is named here. No condition. -/
set_option linter.unusedVariables false
set_option linter.unusedSimpArgs false
set_option linter.unnecessarySimpa false
namespace Go.Fw
section
variable {α : Type} {q : α → Bool} {l m : List α}
def idxN (q : α → Bool) (l : List α) : Int := match l.findIdx? q with
  | some i => i
  | none => -1
end
end Go.Fw
