-- Printed by a program of this session's (wip/tools/mkprint.py, pr.sh) out of Lean's print of the translation; Lean checks it.
import Derived.Test.YthpeiboobnnfgaaEx0
namespace Go.Proofs.Ythpeiboobnnfgaa.E
open Go.RowKit Go.Proofs.YthpeiboobnnfgaaW.PrintWords Go.Proofs.YthpeiboobnnfgaaW.PrintLast Go.Proofs.YthpeiboobnnfgaaW.PrintMore
attribute [local go_sem] max2_int min2_int max_two min_two max_three min_three max_four min_four   -- for this text's walks alone
set_option linter.unusedVariables false
set_option linter.unusedSimpArgs false

attribute [local go_sem] en63_mk1 en63_mk2 en63_mk3 en63_mk4
attribute [local go_sem] str_leq_ str_gtr_ str_geq_
/-! ### impl_lessKept: function 36 -/
def impl_lessKept.f (a0 a1_0 a1_1 a1_2 : Int) : Option Int := if a0 = 2 then some (-1) else some 0
set_option maxHeartbeats 400000 in
theorem impl_lessKept.calls (a0 a1_0 a1_1 a1_2 r : Int) (w : World) (h : impl_lessKept.f a0 a1_0 a1_1 a1_2 = some r) :
  Calls Try.prog 36 #[en63W a0, .agg #[.int .i64 a1_0, .int .i64 a1_1, .int .i64 a1_2]] w fun e w' => e = .returned (.int .i64 r) ∧ Below w.heap.size w w' := by
 have hta := en63_ta73
 unfold impl_lessKept.f at h
 by_cases h2 : a0 = 2
 ·rw [if_pos h2] at h
  obtain rfl := Option.some.inj h
  have hb : (a0 == 2) = true := beq_iff_eq.mpr h2
  clear h h2
  go_enter Try.func36, Try.ntmps36
  go_wp2
  go_ret
  exact ⟨rfl, by repeat (first | exact Below.refl _ _ | apply below_alloc | apply pw_below_drewN | apply below_drew1)⟩
 rw [if_neg h2] at h
 obtain rfl := Option.some.inj h
 have hb : (a0 == 2) = false := beq_eq_false_iff_ne.mpr h2
 clear h h2
 go_enter Try.func36, Try.ntmps36
 go_wp2
 go_ret
 exact ⟨rfl, by repeat (first | exact Below.refl _ _ | apply below_alloc | apply pw_below_drewN | apply below_drew1)⟩

end Go.Proofs.Ythpeiboobnnfgaa.E
