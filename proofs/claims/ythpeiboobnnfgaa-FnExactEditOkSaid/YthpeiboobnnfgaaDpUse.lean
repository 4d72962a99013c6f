/- What an edit uses of two melodies, as the program tells it. -/
import Derived.Test.YthpeiboobnnfgaaDp
import Derived.Test.YthpeiboobnnfgaaEx17
import Derived.Test.YthpeiboobnnfgaaEx18
namespace Go.Proofs.Ythpeiboobnnfgaa.Pur
open Go.RowKit Go.Proofs.YthpeiboobnnfgaaW.PrintWords Go.Proofs.YthpeiboobnnfgaaW.PrintMore Go.Proofs.Ythpeiboobnnfgaa.E Go.Proofs.Ythpeiboobnnfgaa.Ed

/-- Two tones are equal, as the program compares them. -/
def eqT (a b : Tn) : Bool := a.f0 == b.f0 && (a.f1 == b.f1)
theorem eqT_iff (a b : Tn) : eqT a b = true ↔ a = b := by
  unfold eqT
  rw [Bool.and_eq_true, beq_iff_eq, beq_iff_eq]
  exact ⟨fun h => tn_ext h.1 h.2, fun h => by rw [h]; exact ⟨rfl, rfl⟩⟩
/-- Insert. -/
def use1 (_ ys : List Tn) : Int × Int × Int × Bool := (0, 1, 2, decide ((ys.length : Int) > 0))
/-- Keep. -/
def use2 : List Tn → List Tn → Int × Int × Int × Bool
  | x :: _, y :: _ => (1, 1, 0, eqT x y)
  | _, _ => (1, 1, 0, false)
/-- Omit. -/
def use3 (xs _ : List Tn) : Int × Int × Int × Bool := (1, 0, 2, decide ((xs.length : Int) > 0))
/-- Replace. -/
def use4 : List Tn → List Tn → Int × Int × Int × Bool
  | x :: _, y :: _ => if eqT x y = true then (0, 0, 0, false) else if x.f0 = y.f0 then (1, 1, 1, true) else (1, 1, 3, true)
  | _, _ => (0, 0, 0, false)

theorem use1_true (xs ys : List Tn) (h : 0 < ys.length) : use1 xs ys = (((0 : Nat) : Int), ((1 : Nat) : Int), 2, true) := by
  unfold use1
  rw [decide_eq_true (show (ys.length : Int) > 0 by omega)]
  rfl
theorem use1_false (xs ys : List Tn) (h : ys.length = 0) : (use1 xs ys).2.2.2 = false := decide_eq_false (by omega)
theorem use3_true (xs ys : List Tn) (h : 0 < xs.length) : use3 xs ys = (((1 : Nat) : Int), ((0 : Nat) : Int), 2, true) := by
  unfold use3
  rw [decide_eq_true (show (xs.length : Int) > 0 by omega)]
  rfl
theorem use3_false (xs ys : List Tn) (h : xs.length = 0) : (use3 xs ys).2.2.2 = false := decide_eq_false (by omega)
theorem use_ok (xs ys : List Tn) : EvP (fun k => impl_useOf.f k 1 xs ys) (· = use1 xs ys) ∧ EvP (fun k => impl_useOf.f k 2 xs ys) (· = use2 xs ys) ∧ EvP (fun k => impl_useOf.f k 3 xs ys) (· = use3 xs ys) ∧ EvP (fun k => impl_useOf.f k 4 xs ys) (· = use4 xs ys) := by
  have j0 : ∀ (e : Int) (u : Int × Int × Int × Bool), (∀ B, (B = (decide ((xs.length : Int) > 0) && decide ((ys.length : Int) > 0))) → EvP (fun k => impl_useOf.j0 k e xs ys B) (· = u)) → EvP (fun k => impl_useOf.f k e xs ys) (· = u) := by
    intro e u h
    unfold impl_useOf.f
    refine EvP.ite (fun h1 => h _ ?_) (fun h1 => h _ ?_)
    · have h2 : 0 < xs.length := by omega
      simp [h2]
    have : ¬ 0 < xs.length := by omega
    simp [this]
  refine ⟨j0 1 _ fun B hB => ?_, j0 2 _ fun B hB => ?_, j0 3 _ fun B hB => ?_, j0 4 _ fun B hB => ?_⟩
  · refine EvP.succ ?_
    simp only [impl_useOf.j0]
    exact EvP.yes (by simp) (EvP.ret rfl)
  · refine EvP.succ ?_
    simp only [impl_useOf.j0]
    refine EvP.no (by decide) (EvP.no (by decide) (EvP.yes (by simp) ?_))
    subst hB
    cases xs with
    | nil => exact EvP.no (by simp) (EvP.ret rfl)
    | cons x xs =>
      cases ys with
      | nil => exact EvP.no (by simp) (EvP.ret rfl)
      | cons y ys =>
        refine EvP.yes (by simp) (EvP.yes (by simp) (EvP.yes (by simp) (EvP.ret ?_)))
        rfl
  · refine EvP.succ ?_
    simp only [impl_useOf.j0]
    exact EvP.no (by decide) (EvP.yes (by simp) (EvP.ret rfl))
  · refine EvP.succ ?_
    simp only [impl_useOf.j0]
    refine EvP.no (by decide) (EvP.no (by decide) (EvP.no (by decide) (EvP.yes (by simp) ?_)))
    subst hB
    have jt : ∀ xs ys, EvP (fun k => impl_useOf.j1 k xs ys true) (· = ((0, 0, 0, false) : Int × Int × Int × Bool)) := by
      intro xs ys
      refine EvP.succ ?_
      simp only [impl_useOf.j1]
      exact EvP.yes (by simp) (EvP.ret rfl)
    cases xs with
    | nil => exact EvP.no (by simp) (jt _ _)
    | cons x xs =>
      cases ys with
      | nil => exact EvP.no (by simp) (jt _ _)
      | cons y ys =>
        refine EvP.yes (by simp) (EvP.yes (by simp) (EvP.yes (by simp) ?_))
        show EvP (fun k => impl_useOf.j1 k (x :: xs) (y :: ys) (eqT x y)) _
        rw [show use4 (x :: xs) (y :: ys) = if eqT x y = true then (0, 0, 0, false) else if x.f0 = y.f0 then (1, 1, 1, true) else (1, 1, 3, true) from rfl]
        by_cases h : eqT x y = true
        · rw [if_pos h, h]
          exact jt _ _
        · rw [if_neg h, Bool.eq_false_iff.mpr h]
          refine EvP.succ ?_
          simp only [impl_useOf.j1]
          refine EvP.no (by decide) (EvP.yes (by simp) (EvP.yes (by simp) ?_))
          show EvP (fun k => if x.f0 = y.f0 then _ else _) _
          by_cases h0 : x.f0 = y.f0
          · rw [if_pos h0]; exact EvP.ret (by rw [if_pos h0])
          · rw [if_neg h0]; exact EvP.ret (by rw [if_neg h0])
end Go.Proofs.Ythpeiboobnnfgaa.Pur
