/- The least cost of edits: the program and the reference tell the same. -/
import Derived.Test.YthpeiboobnnfgaaDpA
import Derived.Test.YthpeiboobnnfgaaCopied
import Derived.Test.YthpeiboobnnfgaaEx25
import Derived.Test.YthpeiboobnnfgaaEx41
import Derived.Test.YthpeiboobnnfgaaEx51
namespace Go.Proofs.Ythpeiboobnnfgaa.Pur
open Go.RowKit Go.Proofs.YthpeiboobnnfgaaW.PrintWords Go.Proofs.Ythpeiboobnnfgaa.E Go.Proofs.Ythpeiboobnnfgaa.Ed

/-- The least cost, or -1. -/
def costOf (a b : List Tn) : Int := if okM a = true ∧ okM b = true then least costP a b else -1
theorem okM_len {a : List Tn} (h : okM a = true) : a.length ≤ 24 := by
  unfold okM at h
  rw [Bool.and_eq_true] at h
  exact of_decide_eq_true h.2

theorem full_first {p : Pr Tn} {a b : List Tn} {x : List (List Int)} (F : Full p a b x) : 0 < (x.length : Int) ∧ 0 < ((rd_L4 x 0).length : Int) ∧ rd (rd_L4 x 0) 0 = least p a b := by
  have h1 := F.len
  have h2 : (rd_L4 x 0).length = b.length + 1 := F.row 0 (Nat.zero_le _)
  have h3 := F.told 0 0 (Nat.zero_le _) (Nat.zero_le _)
  exact ⟨by omega, by omega, h3⟩

theorem spec_cost (a b : List Tn) (ha : a.length < 9223372036854775807) (hb : b.length < 9223372036854775807) : EvP (fun k => spec_EditCost.f k a b) (· = costOf a b) := by
  unfold spec_EditCost.f costOf
  refine EvP.bind (P := (· = okM a)) (spec_melody a ha) (fun _ e => ?_)
  subst e
  refine EvP.ite (fun h1 => ?_) (fun h1 => EvP.ret (by rw [if_neg (fun h => h1 h.1)]))
  refine EvP.bind (P := (· = okM b)) (spec_melody b hb) (fun _ e => ?_)
  subst e
  refine EvP.ite (fun h2 => ?_) (fun h2 => EvP.ret (by rw [if_neg (fun h => h2 h.2)]))
  rw [if_pos ⟨h1, h2⟩]
  refine EvP.bind (spec_costs a b (okM_len h1) (okM_len h2)) (fun x F => ?_)
  obtain ⟨f1, f2, f3⟩ := full_first F
  exact EvP.yes f1 (EvP.yes f2 (EvP.ret f3))

theorem impl_cost (a b : List Tn) : EvP (fun k => impl_EditCost.f k a b) (· = costOf a b) := by
  unfold impl_EditCost.f costOf
  refine EvP.bind (P := (· = okM a)) (impl_melody a) (fun _ e => ?_)
  subst e
  refine EvP.ite (fun h1 => ?_) (fun h1 => EvP.ret (by rw [if_neg (fun h => h1 h.1)]))
  refine EvP.bind (P := (· = okM b)) (impl_melody b) (fun _ e => ?_)
  subst e
  refine EvP.ite (fun h2 => ?_) (fun h2 => EvP.ret (by rw [if_neg (fun h => h2 h.2)]))
  rw [if_pos ⟨h1, h2⟩]
  refine EvP.bind (impl_sums_costOf a b (okM_len h1) (okM_len h2)) (fun x F => ?_)
  obtain ⟨f1, f2, f3⟩ := full_first F
  exact EvP.yes f1 (EvP.yes f2 (EvP.ret f3))

theorem exact_cost (l0 l1 : List S48) (h0 : (l0.length : Int) ≤ 9223372036854775807) (h1 : (l1.length : Int) ≤ 9223372036854775807) : ∃ k, laws_FnExactEditCost.f k l0 l1 = some true := by
  refine EvP.rounds (?_ : EvP (fun k => laws_FnExactEditCost.f k l0 l1) (· = true))
  unfold laws_FnExactEditCost.f
  rcases sz_ok l0 1048576 h0 (by omega) (by omega) with ⟨g0, e0⟩ | ⟨g0, e0⟩
  · rcases sz_ok l1 (1048576 - l0.length) h1 (by omega) (by omega) with ⟨g1, e1⟩ | ⟨g1, e1⟩
    · have n0 : l0.length ≤ 1048576 := by omega
      have n1 : l1.length ≤ 1048576 := by omega
      refine EvP.bind (P := (· = 1048576 - (l0.length : Int))) (EvP.con e0 rfl) (fun _ e => ?_)
      subst e
      refine EvP.no (by omega) ?_
      refine EvP.bind (P := (· = 1048576 - (l0.length : Int) - l1.length)) (EvP.con e1 rfl) (fun _ e => ?_)
      subst e
      refine EvP.no (by omega) ?_
      refine EvP.bind (conv_ok l0 n0) (fun _ e => ?_)
      subst e
      refine EvP.bind (conv_ok l1 n1) (fun _ e => ?_)
      subst e
      refine EvP.bind (spec_cost _ _ (by simp; omega) (by simp; omega)) (fun _ e => ?_)
      subst e
      refine EvP.bind (conv_ok l0 n0) (fun _ e => ?_)
      subst e
      refine EvP.bind (conv_ok l1 n1) (fun _ e => ?_)
      subst e
      refine EvP.bind (impl_cost _ _) (fun _ e => ?_)
      subst e
      refine EvP.yes rfl ?_
      refine EvP.bind (conv_ok l0 n0) (fun _ e => ?_)
      subst e
      refine EvP.bind (eq_ok _ (by simpa using n0)) (fun _ e => ?_)
      subst e
      refine EvP.yes rfl ?_
      refine EvP.bind (conv_ok l1 n1) (fun _ e => ?_)
      subst e
      refine EvP.bind (eq_ok _ (by simpa using n1)) (fun _ e => ?_)
      subst e
      exact EvP.yes rfl (EvP.ret rfl)
    · refine EvP.bind (P := (· = 1048576 - (l0.length : Int))) (EvP.con e0 rfl) (fun _ e => ?_)
      subst e
      refine EvP.no (by omega) ?_
      refine EvP.bind (P := (· = (-1 : Int))) (EvP.con e1 rfl) (fun _ e => ?_)
      subst e
      exact EvP.yes (by omega) (EvP.ret rfl)
  · refine EvP.bind (P := (· = (-1 : Int))) (EvP.con e0 rfl) (fun _ e => ?_)
    subst e
    exact EvP.yes (by omega) (EvP.ret rfl)
end Go.Proofs.Ythpeiboobnnfgaa.Pur
