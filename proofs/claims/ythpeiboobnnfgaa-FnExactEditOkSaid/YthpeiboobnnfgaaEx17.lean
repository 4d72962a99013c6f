-- Printed by a program of this session's (wip/tools/mkprint.py, pr.sh) out of Lean's print of the translation; Lean checks it.
import Derived.Test.YthpeiboobnnfgaaEx0
namespace Go.Proofs.Ythpeiboobnnfgaa.E
open Go.RowKit Go.Proofs.YthpeiboobnnfgaaW.PrintWords Go.Proofs.YthpeiboobnnfgaaW.PrintLast Go.Proofs.YthpeiboobnnfgaaW.PrintMore
attribute [local go_sem] max2_int min2_int max_two min_two max_three min_three max_four min_four   -- for this text's walks alone
set_option linter.unusedVariables false
set_option linter.unusedSimpArgs false

attribute [local go_sem] en63_mk1 en63_mk2 en63_mk3 en63_mk4
attribute [local go_sem] str_leq_ str_gtr_ str_geq_
/-! ### impl_allEdits: function 44 -/
def impl_allEdits.f  : Option (List Int) := some (([1, 2, 3, 4] : List Int))
set_option maxHeartbeats 8000000 in
set_option maxRecDepth 100000 in
theorem impl_allEdits.calls  (r : List Int) (w : World) (h : impl_allEdits.f  = some r) :
  Calls Try.prog 44 #[] w fun e w' => ∃ v0_ : Value, e = .returned (v0_) ∧ Kd.R (Kd.scalar en63W en63_one) 63 w' w.heap.size (fun _ => True) v0_ r ∧ Below w.heap.size w w' := by
 have HB := Aside0.mk (Below.refl w.heap.size w)
 have H : (some (([1, 2, 3, 4] : List Int))) = some r := h
 clear h
 obtain ⟨y172, hy172⟩ : ∃ y_ : List Int, y_ = (([1, 2, 3, 4] : List Int)) := ⟨_, rfl⟩
 replace H : (some y172) = some r := by first | (rw [hy172]; with_reducible exact H) | (have H2_ := (Option.bind_some _ _).symm.trans H; rw [hy172]; with_reducible exact H2_) | (have H2_ := (Option.bind_some _ _).symm.trans H; with_reducible exact H2_) | with_reducible exact H | (rw [hy172]; exact H) | exact H
 have Ny172 := Aside0.mk hy172
 clear hy172
 obtain rfl := Option.some.inj H
 go_enter Try.func44, Try.ntmps44
 go_wp2_with (first | ((with_reducible refine gate_dst (N := 9) rfl ?_); refine Kd.R_lit (Kd.scalar en63W en63_one) _ 63 ?hg (N := 9) ?hd (xs := ([1, 2, 3, 4] : List Int)) (inner := [en63W 1, en63W 2, en63W 3, en63W 4]) (ok := fun _ => True) (okp := fun _ => True) ?hr ?hp (fun _ hk => hk) trivial (Below.refl _ _) (Nat.le_refl _) (by simp) ?_; (case hd => rfl); (case hg => rfl); (case hr => first | (go_simp; done) | (go_simp; rfl)); (case hp => exact (Reps.one (show Kd.M (Kd.scalar en63W en63_one) _ _ _ 1 [en63W 1] from rfl) (Reps.one (show Kd.M (Kd.scalar en63W en63_one) _ _ _ 2 [en63W 2] from rfl) (Reps.one (show Kd.M (Kd.scalar en63W en63_one) _ _ _ 3 [en63W 3] from rfl) (Reps.one (show Kd.M (Kd.scalar en63W en63_one) _ _ _ 4 [en63W 4] from rfl) (Reps.none _ _)))))); intro v173 w1 ho2 hb hg_ hnew_; clear hg_ hnew_; (first | rw [← Ny172.out] at ho2 | (simp only [Int.reduceToNat] at ho2; rw [← Ny172.out] at ho2)); have n0_ := Aside0.mk (Kd.R_lower ho2 (below_size (by repeat (first | (with_reducible first | exact HB.out | apply below_alloc | apply pw_below_drewN | apply below_drew1) | exact HB.out)))); have n1_ := Aside0.mk (below_step (by repeat (first | (with_reducible first | exact HB.out | apply below_alloc | apply pw_below_drewN | apply below_drew1) | exact HB.out)) hb); clear HB; have HO174 := n0_; have HB := n1_; clear n0_ n1_; clear hb ho2))
 go_ret
 exact ⟨_, by first | rfl | (simp [errW_none, errW_some] <;> rfl) | (simp [*, errW_none, errW_some] <;> rfl), by (with_reducible repeat (first | apply Kd.R_alloc | apply Kd.R_drewN | apply Kd.R_drew)); exact HO174.out, by repeat (first | (with_reducible first | exact HB.out | apply below_alloc | apply pw_below_drewN | apply below_drew1) | exact HB.out)⟩

end Go.Proofs.Ythpeiboobnnfgaa.E
