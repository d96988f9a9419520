/- Walks of functions on keys and spans. -/
import Derived.Test.YtmbafmifalppaaaQaFt
import Derived.Test.YtmbafmifalppaaaQaX3
set_option maxRecDepth 100000
set_option maxHeartbeats 1600000
set_option linter.unusedVariables false
set_option linter.unusedSimpArgs false
set_option linter.unnecessarySimpa false
namespace Go.Proofs.Ytmbafmifalppaaa
open Go Go.Fw Go.RowKit
def S_ : Str := ⟨⟨#[]⟩, by decide⟩
theorem rlong_fc {G : GH} {v_l : Value} {l : List Str} (h_l : SlR eStr G v_l l) (m : Int) (hm : 0 ≤ m ∧ m ≤ 1073741824) :
    Fc Try.prog 74 [v_l, .int .i64 m] G [] (fun v _ _ => v = .int .i64 (longN l 0 m)) := by
 obtain ⟨sa_l, sc_l, rfl⟩ := h_l.form
 have hl := h_l.len47
 refine Fc.intro (rs := [.tmp 4]) cl74 Try.func74 rfl Try.ntmps74 rfl rfl (fun w0 => ?_)
 refine WC.seq (WC.region (W.as (W.nil (thn_n (WC.seq (WC.region (W.as (W.nil (thn_n (WC.seq (WC.seq (WC.region (W.as (W.nil (thn_n (WC.block ?_))))))))))))))))
 refine WC.loop (X := Nat × Int) (fun x => [(5, .int .i64 x.2), (6, .int .i64 ((x.1 : Nat) : Int)), (0, .slice sa_l l.length sc_l), (1, .int .i64 m)]) (fun x _ Ml => Ml = [] ∧ x.1 ≤ l.length ∧ 0 ≤ x.2 ∧ x.2 ≤ 140738562097154 ∧ longN (l.drop x.1) x.2 m = longN l 0 m) (fun x => l.length - x.1) (0, 0) ⟨eqv, eqv, eqv, eqv, trivial⟩ ?_ ?_
 ·exact ⟨rfl, by simp, by simp, by simp, by simp⟩
 rintro ⟨k, n⟩ gG57 G57 _ hG57 ⟨rfl, hk, hn, hn2, hlg⟩
 dsimp only at hk hn hn2 hlg
 refine WC.seq (WC.seq (WC.region (W.mv (W.mv (W.ok (ok_len sl32 (h_l.mono hG57) rfl) (W.ok (ok_lss rfl rfl) (W.mv ?_)))))))
 refine W.sp 11 rfl (fun h10 => ?_) (fun h10 => ?_)
 ·have p10 := of_decide_eq_true h10
  refine W.yes (dj := 11) rfl rfl h10 (W.mv (W.yes (dj := 11) rfl rfl h10 (W.mv (W.yes (dj := 11) rfl rfl h10 (W.ok (ok_leq rfl rfl) (W.ok (ok_pick_t rfl h10) (W.nil (thn_n ?_))))))))
  refine WC.cond (b := _) rfl (fun h14 => ?_) (fun h14 => ?_)
  ·have p14 := of_decide_eq_true h14
   refine WC.skip (thn_n (WC.seq (WC.block (WC.region (W.mv (W.mv (W.mv ?_)))))))
   have q60 := (h_l.mono hG57).at (i := k) (by omega)
   refine match q60 with | ⟨_, he58, e_59⟩ => ?_
   subst e_59
   refine W.ok (ok_indexAddr (i := k) sl32 ty9 (h_l.mono hG57) rfl rfl ⟨by dsimp only, by omega⟩) (W.ok (ok_loadE (vs := [.string _]) ty9 he58 rfl rfl rfl (by simp)) (W.ok (ok_lenS st9 rfl) (W.ok (ok_add rfl rfl (by have := (l[k]).le; omega)) (W.ok (ok_add rfl rfl (by have := (l[k]).le; dsimp only; omega)) (W.as (W.nil (blk_n (thn_n (WC.region (W.mv (W.ok (ok_add rfl rfl (by dsimp only; omega)) (W.as (W.nil (thn_n ?_))))))))))))))
   exact ⟨Le.rfl, (k + 1, n + (((l[k]).b.size : Nat) + 1)), ⟨eqv, eqv, eqv, eqv, trivial⟩, ⟨rfl, by dsimp only; omega, by dsimp only; omega, by have := (l[k]).le; dsimp only; omega, (longN_step (by omega) p14).symm.trans hlg⟩, by dsimp only; omega⟩
  have p14 := of_decide_eq_false h14
  refine WC.exit (thn_x (thn_x (blk_h (thn_n (WC.seq (WC.region (W.mv (W.as (W.nil (thn_n (WC.ret ?_)))))))))))
  refine ⟨.inr rfl, [_], ⟨rfl, trivial⟩, [], sn9, ?_⟩
  refine congrArg (Value.int .i64) ?_
  rw [← hlg]
  exact (longN_stop (by omega)).symm
 have p10 := of_decide_eq_false h10
 refine W.no (dj := 11) rfl rfl h10 (W.no (dj := 11) rfl rfl h10 (W.no (dj := 11) rfl rfl h10 (W.ok (ok_pick_f rfl h10) (W.nil (thn_n (WC.cond_f rfl rfl (WC.exit (thn_x (thn_x (blk_h (thn_n (WC.seq (WC.region (W.mv (W.as (W.nil (thn_n (WC.ret ?_))))))))))))))))))
 refine ⟨.inr rfl, [_], ⟨rfl, trivial⟩, [], sn9, ?_⟩
 refine congrArg (Value.int .i64) ?_
 rw [← hlg]
 rw [List.drop_eq_nil_of_le (by omega)]; rfl

end Go.Proofs.Ytmbafmifalppaaa
