/- Whether a text is an alignment: the law. -/
import Derived.Test.YthpeiboobnnfgaaSum
import Derived.Test.YthpeiboobnnfgaaCopied
import Derived.Test.YthpeiboobnnfgaaEx38
import Derived.Test.YthpeiboobnnfgaaEx53
import Derived.Test.YthpeiboobnnfgaaEx54
namespace Go.Proofs.Ythpeiboobnnfgaa.Pur
open Go.RowKit Go.Proofs.YthpeiboobnnfgaaW.PrintWords Go.Proofs.YthpeiboobnnfgaaW.PrintMore Go.Proofs.Ythpeiboobnnfgaa.E Go.Proofs.Ythpeiboobnnfgaa.Ed

theorem sumT_nonneg (t : ByteArray) : ∀ d p xs ys n, 0 ≤ n → 0 ≤ (sumT t d p xs ys n).1 := by
  intro d
  induction d with
  | zero => intro p xs ys n h; exact h
  | succ d ih =>
    intro p xs ys n h
    rcases useC_ways (bt t (p : Int)) xs ys with g | ⟨x, y, c, g, _, _, c0, _⟩
    · rw [sumT_end g]; exact Int.le_refl _
    · rw [sumT_go g]; exact ih _ _ _ _ (by omega)
theorem ans_ok (a b : List Tn) (t : ByteArray) : decide (ans (sumOf a b t) ≥ 0) = (sumOf a b t).2 := by
  have h : 0 ≤ (sumOf a b t).1 := by
    unfold sumOf
    split
    · exact sumT_nonneg t _ _ _ _ _ (Int.le_refl _)
    · exact Int.le_refl _
  unfold ans
  cases hs : (sumOf a b t).2
  · simp
  · simp [h]
theorem spec_ok (a b : List Tn) (t : ByteArray) (ht : t.size ≤ 1048576) (ha : a.length < 9223372036854775807) (hb : b.length < 9223372036854775807) : EvP (fun k => spec_EditOk.f k a b t) (· = (sumOf a b t).2) := by
  unfold spec_EditOk.f
  refine EvP.bind (spec_sum a b t ht ha hb) (fun _ e => ?_)
  subst e
  exact EvP.ret (ans_ok a b t)
theorem impl_ok (a b : List Tn) (t : ByteArray) (ht : t.size ≤ 1048576) : EvP (fun k => impl_EditOk.f k a b t) (· = (sumOf a b t).2) := by
  unfold impl_EditOk.f
  refine EvP.bind (impl_asum a b t ht) (fun _ e => ?_)
  subst e
  exact EvP.ret rfl

theorem exact_ok (l0 l1 : List S48) (t : ByteArray) (h0 : (l0.length : Int) ≤ 9223372036854775807) (h1 : (l1.length : Int) ≤ 9223372036854775807) (_ : t.size ≤ 140737488351232) : ∃ k, laws_FnExactEditOk.f k l0 l1 t = some true := by
  refine EvP.rounds (?_ : EvP (fun k => laws_FnExactEditOk.f k l0 l1 t) (· = true))
  unfold laws_FnExactEditOk.f
  refine EvP.ite (fun _ => EvP.ret rfl) (fun ht => ?_)
  have ht : t.size ≤ 1048576 := by omega
  rcases sz_ok l0 1048576 h0 (by omega) (by omega) with ⟨g0, e0⟩ | ⟨g0, e0⟩
  · rcases sz_ok l1 (1048576 - l0.length) h1 (by omega) (by omega) with ⟨g1, e1⟩ | ⟨g1, e1⟩
    · have n0 : l0.length ≤ 1048576 := by omega
      have n1 : l1.length ≤ 1048576 := by omega
      refine EvP.bind (P := (· = 1048576 - (l0.length : Int))) (EvP.con e0 rfl) (fun _ e => ?_)
      subst e
      refine EvP.no (by omega) ?_
      refine EvP.bind (P := (· = 1048576 - (l0.length : Int) - l1.length)) (EvP.con e1 rfl) (fun _ e => ?_)
      subst e
      refine EvP.no (by omega) ?_
      refine EvP.bind (conv_ok l0 n0) (fun _ e => ?_)
      subst e
      refine EvP.bind (conv_ok l1 n1) (fun _ e => ?_)
      subst e
      refine EvP.bind (spec_ok _ _ t ht (by simp; omega) (by simp; omega)) (fun _ e => ?_)
      subst e
      refine EvP.bind (conv_ok l0 n0) (fun _ e => ?_)
      subst e
      refine EvP.bind (conv_ok l1 n1) (fun _ e => ?_)
      subst e
      refine EvP.bind (impl_ok _ _ t ht) (fun _ e => ?_)
      subst e
      refine EvP.no (by simp) ?_
      refine EvP.bind (conv_ok l0 n0) (fun _ e => ?_)
      subst e
      refine EvP.bind (eq_ok _ (by simpa using n0)) (fun _ e => ?_)
      subst e
      refine EvP.yes rfl ?_
      refine EvP.bind (conv_ok l1 n1) (fun _ e => ?_)
      subst e
      refine EvP.bind (eq_ok _ (by simpa using n1)) (fun _ e => ?_)
      subst e
      exact EvP.yes rfl (EvP.ret rfl)
    · refine EvP.bind (P := (· = 1048576 - (l0.length : Int))) (EvP.con e0 rfl) (fun _ e => ?_)
      subst e
      refine EvP.no (by omega) ?_
      refine EvP.bind (P := (· = (-1 : Int))) (EvP.con e1 rfl) (fun _ e => ?_)
      subst e
      exact EvP.yes (by omega) (EvP.ret rfl)
  · refine EvP.bind (P := (· = (-1 : Int))) (EvP.con e0 rfl) (fun _ e => ?_)
    subst e
    exact EvP.yes (by omega) (EvP.ret rfl)
end Go.Proofs.Ythpeiboobnnfgaa.Pur
