/- Two things that container/heap can work with. -/
import Derived.Test.YtcngningbcaggaaQgV3
set_option maxRecDepth 100000
set_option maxHeartbeats 1600000
set_option linter.unusedVariables false
set_option linter.unusedSimpArgs false
set_option linter.unnecessarySimpa false
namespace Go.Proofs.Ytcngningbcaggaa
open Go Go.Fw Go.RowKit
attribute [local irreducible] Ok W WC

abbrev HeadsR (b : Nat) (Tb : TypeId) (G : GH) (l : List Hd) (M : MH) : Prop := (∀ h ∈ l, 0 < h.1.length) ∧ ∃ v Ms, M = (b, ce9 Tb [v]) :: Ms ∧ OwnR eHead 127 G v l Ms
abbrev HeadV (G : GH) (u : Value) (a : Hd) : Prop := (∃ p c, u = .iface 127 (.agg (List.toArray [lV p a.1.length c, iV a.2])) ∧ SlR eMsg G (lV p a.1.length c) a.1 ∧ i64 a.2) ∧ 0 < a.1.length
theorem headV_mono {G G' : GH} {v : Value} {a : Hd} (hl : Le G G') (h : HeadV G v a) : HeadV G' v a := by
  obtain ⟨⟨p, c, h1, h2, h3⟩, h4⟩ := h; exact ⟨⟨p, c, h1, h2.mono hl, h3⟩, h4⟩
theorem heads_heap {b : Nat} {Tb : TypeId} : HeapK Try.prog Hd.lt (.iface 122 (pt9 b)) (HeadsR b Tb) HeadV where
  mono := fun hl ⟨h0, v, Ms, h1, h2⟩ => ⟨h0, v, Ms, h1, h2.mono hl⟩
  bound := fun ⟨h0, v, Ms, h1, h2⟩ => h2.len47
  len := fun {G l M} ⟨h0, v, Ms, h1, h2⟩ => by
    subst h1
    exact Inv.val (e := 124) (by kernel_rfl) (by kernel_rfl) rfl (hlen_fc h2) (fun v' G' M' hl ⟨e1, e2⟩ => ⟨e1, by rw [← e2]⟩)
  less := fun {G l M i j} ⟨h0, v, Ms, h1, h2⟩ hi hj => by
    subst h1
    exact Inv.val (e := 124) (by kernel_rfl) (by kernel_rfl) rfl (hless_fc h2 i j hi hj (h0 _ (List.getElem_mem hi)) (h0 _ (List.getElem_mem hj))) (fun v' G' M' hl ⟨e1, e2⟩ => ⟨e1, by rw [← e2]⟩)
  swap := fun {G l M i j} ⟨h0, v, Ms, h1, h2⟩ hi hj => by
    subst h1
    exact Inv.val (e := 124) (by kernel_rfl) (by kernel_rfl) rfl (hswap_fc h2 i j hi hj) (fun v' G' M' hl ⟨e1, e2⟩ => ⟨e1, fun x hx => h0 x ((swapL_perm hi hj).mem_iff.1 hx), v, M', rfl, e2⟩)
  push := fun _ {G l M u a} ⟨h0, v, Ms, h1, h2⟩ hb ⟨⟨p, c, h3, h4, h5⟩, h6⟩ => by
    subst h1 h3
    exact Inv.ptr (g := 165) (by kernel_rfl) (hdpush_fc h2 h4 h5 hb) (fun v' G' M' hl ⟨e1, v2, M2, e2, e3⟩ => ⟨e1, fun x hx => (List.mem_append.1 hx).elim (h0 x) (fun hx => by rw [List.mem_singleton.1 hx]; exact h6), v2, M2, e2, e3⟩)
  pop := fun {G l M} ⟨h0, v, Ms, h1, h2⟩ hl0 => by
    subst h1
    exact Inv.ptr (g := 164) (by kernel_rfl) (hdpop_fc h2 hl0) (fun v' G' M' hl ⟨e1, v2, M2, e2, e3⟩ => ⟨⟨e1, by rw [nth_lt om9]; exact h0 _ (List.getElem_mem _)⟩, fun x hx => h0 x (List.mem_of_mem_take hx), v2, M2, e2, e3⟩)
end Go.Proofs.Ytcngningbcaggaa
