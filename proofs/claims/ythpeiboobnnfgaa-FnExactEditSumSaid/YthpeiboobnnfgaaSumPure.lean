/- The cost of an alignment's text: the law. -/
import Derived.Test.YthpeiboobnnfgaaSum
import Derived.Test.YthpeiboobnnfgaaCopied
import Derived.Test.YthpeiboobnnfgaaEx29
import Derived.Test.YthpeiboobnnfgaaEx52
namespace Go.Proofs.Ythpeiboobnnfgaa.Pur
open Go.RowKit Go.Proofs.YthpeiboobnnfgaaW.PrintWords Go.Proofs.YthpeiboobnnfgaaW.PrintMore Go.Proofs.Ythpeiboobnnfgaa.E Go.Proofs.Ythpeiboobnnfgaa.Ed

theorem impl_sum (a b : List Tn) (t : ByteArray) (ht : t.size ≤ 1048576) : EvP (fun k => impl_EditSum.f k a b t) (· = ans (sumOf a b t)) := by
  unfold impl_EditSum.f ans
  refine EvP.bind (impl_asum a b t ht) (fun _ e => ?_)
  subst e
  exact EvP.ite (fun h => EvP.ret (by rw [if_pos h])) (fun h => EvP.ret (by rw [if_neg h]))

theorem exact_sum (l0 l1 : List S48) (t : ByteArray) (h0 : (l0.length : Int) ≤ 9223372036854775807) (h1 : (l1.length : Int) ≤ 9223372036854775807) (_ : t.size ≤ 140737488351232) : ∃ k, laws_FnExactEditSum.f k l0 l1 t = some true := by
  refine EvP.rounds (?_ : EvP (fun k => laws_FnExactEditSum.f k l0 l1 t) (· = true))
  unfold laws_FnExactEditSum.f
  refine EvP.ite (fun _ => EvP.ret rfl) (fun ht => ?_)
  have ht : t.size ≤ 1048576 := by omega
  rcases sz_ok l0 1048576 h0 (by omega) (by omega) with ⟨g0, e0⟩ | ⟨g0, e0⟩
  · rcases sz_ok l1 (1048576 - l0.length) h1 (by omega) (by omega) with ⟨g1, e1⟩ | ⟨g1, e1⟩
    · have n0 : l0.length ≤ 1048576 := by omega
      have n1 : l1.length ≤ 1048576 := by omega
      refine EvP.bind (P := (· = 1048576 - (l0.length : Int))) (EvP.con e0 rfl) (fun _ e => ?_)
      subst e
      refine EvP.no (by omega) ?_
      refine EvP.bind (P := (· = 1048576 - (l0.length : Int) - l1.length)) (EvP.con e1 rfl) (fun _ e => ?_)
      subst e
      refine EvP.no (by omega) ?_
      refine EvP.bind (conv_ok l0 n0) (fun _ e => ?_)
      subst e
      refine EvP.bind (conv_ok l1 n1) (fun _ e => ?_)
      subst e
      refine EvP.bind (spec_sum _ _ t ht (by simp; omega) (by simp; omega)) (fun _ e => ?_)
      subst e
      refine EvP.bind (conv_ok l0 n0) (fun _ e => ?_)
      subst e
      refine EvP.bind (conv_ok l1 n1) (fun _ e => ?_)
      subst e
      refine EvP.bind (impl_sum _ _ t ht) (fun _ e => ?_)
      subst e
      refine EvP.yes rfl ?_
      refine EvP.bind (conv_ok l0 n0) (fun _ e => ?_)
      subst e
      refine EvP.bind (eq_ok _ (by simpa using n0)) (fun _ e => ?_)
      subst e
      refine EvP.yes rfl ?_
      refine EvP.bind (conv_ok l1 n1) (fun _ e => ?_)
      subst e
      refine EvP.bind (eq_ok _ (by simpa using n1)) (fun _ e => ?_)
      subst e
      exact EvP.yes rfl (EvP.ret rfl)
    · refine EvP.bind (P := (· = 1048576 - (l0.length : Int))) (EvP.con e0 rfl) (fun _ e => ?_)
      subst e
      refine EvP.no (by omega) ?_
      refine EvP.bind (P := (· = (-1 : Int))) (EvP.con e1 rfl) (fun _ e => ?_)
      subst e
      exact EvP.yes (by omega) (EvP.ret rfl)
  · refine EvP.bind (P := (· = (-1 : Int))) (EvP.con e0 rfl) (fun _ e => ?_)
    subst e
    exact EvP.yes (by omega) (EvP.ret rfl)
end Go.Proofs.Ythpeiboobnnfgaa.Pur
