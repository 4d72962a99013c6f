/- Texts of this claim, joined by a program of this session's (wip/tools/pack.py). -/
import Derived.Test.YtlinjleahnccgaaDoorRowFnMelodyMoveOctaveK1
section
namespace Go.Proofs.YtlinjleahnccgaaDoor.E
open Go.RowKit Go.Proofs.YtlinjleahnccgaaDoorW.PrintWords Go.Proofs.YtlinjleahnccgaaDoorW.PrintLast Go.Proofs.YtlinjleahnccgaaDoorW.PrintMore
attribute [local go_sem] max2_int min2_int max_two min_two max_three min_three max_four min_four
set_option linter.unusedVariables false
set_option linter.unusedSimpArgs false
attribute [local go_sem] str_leq_ str_gtr_ str_geq_
def spec_l1Height.f (a0_0 : Int) (a0_1 : Bool) : Option (Int) := (some (([0, 2, 4, 5, 7, 9, 10] : List Int) : List Int)).bind fun y417 => ((spec_l1Letter.f a0_0).bind fun t420 => (if 0 ≤ t420 then (if t420 < (y417.length : Int) then (if a0_1 = true then (some (wrap64 ((wrap64 ((wrap64 (12 * (wrap64 (Int.tdiv a0_0 7)))) + (rd y417 t420))) - 1))) else (some (wrap64 ((wrap64 (12 * (wrap64 (Int.tdiv a0_0 7)))) + (rd y417 t420))))) else (none)) else (none)))
def spec_l1Height.T1 : Bool × List (List Nat × List Nat) := (true, [([], []), ([0], [0]), ([1], [1]), ([2], [2]), ([], []), ([], []), ([5], [5]), ([6], [6]), ([4, 7], [4, 7]), ([8], [8]), ([3, 9], [3, 9]), ([10, 7, 0, 1, 2, 3, 4, 5, 6, 7, 8, 9, 10], [10])])
def spec_l1Height.B1 : List Nat := [0, 1, 3, 7, 0, 0, 32, 96, 240, 496, 1023, 2047]
theorem spec_l1Height.tab1 : rtab .any (opsOf Tryd.f59 1) = spec_l1Height.T1 := by kernel_rfl
theorem spec_l1Height.bits1 : waitsOk spec_l1Height.T1.2 spec_l1Height.B1 = true := by kernel_rfl
set_option maxHeartbeats 8000000 in
set_option maxRecDepth 100000 in
theorem spec_l1Height.calls (a0_0 : Int) (a0_1 : Bool) (r : Int) (w : World) (h : spec_l1Height.f a0_0 a0_1 = some r) :
  Calls Tryd.prog 59 #[.agg #[.int .i64 a0_0, .bool a0_1]] w fun e w' => e = .returned (.int .i64 r) ∧ Below w.heap.size w w' := by
 have hu25 := Tryd.underlying25
 have HB := Aside0.mk (Below.refl w.heap.size w)
 have H : ((some (([0, 2, 4, 5, 7, 9, 10] : List Int) : List Int)).bind fun y417 => ((spec_l1Letter.f a0_0).bind fun t420 => (if 0 ≤ t420 then (if t420 < (y417.length : Int) then (if a0_1 = true then (some (wrap64 ((wrap64 ((wrap64 (12 * (wrap64 (Int.tdiv a0_0 7)))) + (rd y417 t420))) - 1))) else (some (wrap64 ((wrap64 (12 * (wrap64 (Int.tdiv a0_0 7)))) + (rd y417 t420))))) else (none)) else (none)))) = some r := h
 clear h
 obtain ⟨y417, hy417⟩ : ∃ y_ : List Int, y_ = (([0, 2, 4, 5, 7, 9, 10] : List Int)) := ⟨_, rfl⟩
 replace H : ((spec_l1Letter.f a0_0).bind fun t420 => (if 0 ≤ t420 then (if t420 < (y417.length : Int) then (if a0_1 = true then (some (wrap64 ((wrap64 ((wrap64 (12 * (wrap64 (Int.tdiv a0_0 7)))) + (rd y417 t420))) - 1))) else (some (wrap64 ((wrap64 (12 * (wrap64 (Int.tdiv a0_0 7)))) + (rd y417 t420))))) else (none)) else (none))) = some r := by first | (rw [hy417]; with_reducible exact H) | (have H2_ := (Option.bind_some _ _).symm.trans H; rw [hy417]; with_reducible exact H2_) | (have H2_ := (Option.bind_some _ _).symm.trans H; with_reducible exact H2_) | with_reducible exact H | (rw [hy417]; exact H) | exact H
 have Ny417 := Aside0.mk hy417
 clear hy417
 replace H := Option.bind_eq_some_iff.mp H
 obtain ⟨t420, A20, H⟩ := H
 replace H : (if 0 ≤ t420 then (if t420 < (y417.length : Int) then (if a0_1 = true then (some (wrap64 ((wrap64 ((wrap64 (12 * (wrap64 (Int.tdiv a0_0 7)))) + (rd y417 t420))) - 1))) else (some (wrap64 ((wrap64 (12 * (wrap64 (Int.tdiv a0_0 7)))) + (rd y417 t420))))) else (none)) else (none)) = some r := H
 have A2 := Aside0.mk A20
 clear A20
 by_cases c3 : 0 ≤ t420
 rotate_left
 ·rw [if_neg c3] at H
  exact absurd H (by simp)
 rw [if_pos c3] at H
 have c3b0 : decide (0 ≤ t420) = true := decide_eq_true c3
 clear c3
 by_cases c4 : t420 < (y417.length : Int)
 rotate_left
 ·rw [if_neg c4] at H
  exact absurd H (by simp)
 rw [if_pos c4] at H
 have c4b0 : decide (t420 < (y417.length : Int)) = true := decide_eq_true c4
 clear c4
 by_cases c5 : a0_1 = true
 ·subst c5
  have H1 : (some (wrap64 ((wrap64 ((wrap64 (12 * (wrap64 (Int.tdiv a0_0 7)))) + (rd y417 t420))) - 1))) = some r := by rw [if_pos rfl] at H; exact H
  clear H
  have H := H1
  clear H1
  obtain rfl := Option.some.inj H
  go_enter Tryd.func59, Tryd.ntmps59
  try go_wp2_with (first | ((with_reducible refine gate_dst (N := 1) rfl ?_); refine box_event ?hg (N := 1) ?hd (cs := #[.int .i64 a0_0, .bool true]) (t := 25) ?hr ?_; (case hd => rfl); (case hg => rfl); (case hr => first | (go_simp; done) | (go_simp; rfl)); intro gb416 hg w6 hbox hb; have n0_ := Aside0.mk (below_step (by repeat (first | (with_reducible first | exact HB.out | apply below_alloc | apply pw_below_drewN | apply below_drew1) | exact HB.out)) hb); have n1_ := Aside0.mk (hbox); have n2_ := Aside0.mk ((by rw [hg]; exact (below_size (by repeat (first | (with_reducible first | exact HB.out | apply below_alloc | apply pw_below_drewN | apply below_drew1) | exact HB.out))) : w.heap.size ≤ gb416)); have n3_ := Aside0.mk ((by rw [hg]; exact (below_size (by repeat (first | (with_reducible first | exact HB.out | apply below_alloc | apply pw_below_drewN | apply below_drew1) | exact HB.out))) : w.heap.size ≤ gb416)); clear HB; have HB := n0_; have BK416 := n1_; have GW416 := n2_; have GE416 := n3_; clear n0_ n1_ n2_ n3_; clear hb hbox hg))
  have pi421 : (0 ≤ (t420 : Int)) = True := eq_true (of_decide_eq_true (by first | (with_reducible assumption) | assumption))
  have qi421 : (t420 < (y417.length : Int)) = True := eq_true (of_decide_eq_true (by first | (with_reducible assumption) | assumption))
  have n0_ := Aside0.mk (blk_drew BK416.out)
  have n1_ := Aside0.mk (below_drew1 HB.out)
  clear BK416
  clear HB
  have BK416 := n0_
  have HB := n1_
  clear n0_ n1_
  refine start_ (n := 12) (S := fun w' => w'.cell? ⟨gb416, 0, none⟩ = some (.int .i64 a0_0) ∧ w'.cell? ⟨gb416, 1, none⟩ = some (.bool true)) (ds := []) #[false, false, false, false, false, false, false, false, false, false, false, false] (by kernel_rfl) rfl rfl ⟨(blk_cell BK416.out 0).trans rfl, (blk_cell BK416.out 1).trans rfl⟩ (fun hHeld => ?_); refine with_tabW spec_l1Height.tab1 spec_l1Height.bits1 (fun HT_ HW_ => ?_)
  generalize w6.drew = w7 at BK416 HB hHeld ⊢
  refine pure_ (i := 0) (N := some 4) (v := ?_) (a' := ?_) #[true, false, false, false, false, false, false, false, false, false, false, false] rfl rfl (any_of HT_.out (by kernel_rfl)) (fun _ _ _ h => h) (Or.inl ⟨by rfl, ?_⟩) ?_ ?_
  rotate_left
  ·intro w'
   go_simp
   with_reducible rfl
  rotate_left
  ·simp only [Act.put, List.setIfInBounds_toArray, List.set_cons_zero, List.set_cons_succ, i64_w, i32_w]
   rfl
  refine pure_ (i := 5) (N := some 9) (v := ?_) (a' := ?_) #[true, false, false, false, false, true, false, false, false, false, false, false] rfl rfl (any_of HT_.out (by kernel_rfl)) (fun _ _ _ h => h) (Or.inl ⟨by rfl, ?_⟩) ?_ ?_
  rotate_left
  ·intro w'
   go_simp
   with_reducible rfl
  rotate_left
  ·simp only [Act.put, List.setIfInBounds_toArray, List.set_cons_zero, List.set_cons_succ, i64_w, i32_w]
   rfl
  refine take_ (i := 1) (N := some 5) (v := ?_) (a' := ?_) #[true, true, false, false, false, true, false, false, false, false, false, false] rfl rfl (take_ofW HT_.out HW_.out (by kernel_rfl)) (fun _ _ _ h => h) (Or.inl ⟨by rfl, ?_⟩) hHeld ?_ ?_
  rotate_left
  ·rintro w' ⟨s0, s1⟩
   go_simp
   with_reducible rfl
  rotate_left
  ·simp only [Act.put, List.setIfInBounds_toArray, List.set_cons_zero, List.set_cons_succ, i64_w, i32_w]
   rfl
  refine pure_ (i := 2) (N := some 6) (v := ?_) (a' := ?_) #[true, true, true, false, false, true, false, false, false, false, false, false] rfl rfl (any_of HT_.out (by kernel_rfl)) (fun _ _ _ h => h) (Or.inl ⟨by rfl, ?_⟩) ?_ ?_
  rotate_left
  ·intro w'
   go_simp
   with_reducible rfl
  rotate_left
  ·simp only [Act.put, List.setIfInBounds_toArray, List.set_cons_zero, List.set_cons_succ, i64_w, i32_w]
   rfl
  refine pure_ (i := 3) (N := some 7) (v := ?_) (a' := ?_) #[true, true, true, true, false, true, false, false, false, false, false, false] rfl rfl (any_of HT_.out (by kernel_rfl)) (fun _ _ _ h => h) (Or.inl ⟨by rfl, ?_⟩) ?_ ?_
  rotate_left
  ·intro w'
   go_simp
   with_reducible rfl
  rotate_left
  ·simp only [Act.put, List.setIfInBounds_toArray, List.set_cons_zero, List.set_cons_succ, i64_w, i32_w]
   rfl
  refine take_ (i := 6) (N := some 10) (v := ?_) (a' := ?_) #[true, true, true, true, false, true, true, false, false, false, false, false] rfl rfl (take_ofW HT_.out HW_.out (by kernel_rfl)) (fun _ _ _ h => h) (Or.inl ⟨by rfl, ?_⟩) hHeld ?_ ?_
  rotate_left
  ·rintro w' ⟨s0, s1⟩
   go_simp
   with_reducible rfl
  rotate_left
  ·simp only [Act.put, List.setIfInBounds_toArray, List.set_cons_zero, List.set_cons_succ, i64_w, i32_w]
   rfl
  refine join_ (σ := Value × Addr) 4 #[true, true, true, true, true, true, true, true, false, false, false, false] (fun s_ => [(8, s_.1), (11, .int .i64 t420)]) (fun s_ w' => (w'.cell? ⟨gb416, 0, none⟩ = some (.int .i64 a0_0) ∧ w'.cell? ⟨gb416, 1, none⟩ = some (.bool true)) ∧ (Kd.R (Kd.int .i64) 3 w' w.heap.size (fun _ => True) s_.1 y417) ∧ (∃ c_, (s_.1 : Value) = .slice (some s_.2) y417.length c_) ∧ (w'.heap[gb416]? = some (.cells #[.int .i64 a0_0, .bool true] 25 (0, 0))) ∧ (Below w.heap.size w w')) ?_ ?_
  rotate_left
  ·intro hCont
   refine two_ (i := 4) (j := 7) (Ni := some 8) (Nj := some 11) #[true, true, true, true, true, true, true, false, false, false, false, false] #[true, true, true, true, false, true, true, true, false, false, false, false] rfl rfl rfl rfl (two_of HT_.out (by kernel_rfl)) (by decide) (by decide) (fun K hK => ?_) (fun K hK => ?_)
   ·skip
    refine Kd.R_lit_step (Kd.int .i64) _ 3 ?hg (N := 8) ?hd (xs := ([0, 2, 4, 5, 7, 9, 10] : List Int)) (inner := [.int .i64 0, .int .i64 2, .int .i64 4, .int .i64 5, .int .i64 7, .int .i64 9, .int .i64 10]) (ok := fun _ => True) (okp := fun _ => True) ?hr ?hp (fun _ hk => hk) trivial (Below.refl _ _) (Nat.le_refl _) (by simp) ?_; (case hd => rfl); (case hg => rfl); (case hr => first | (go_simp; done) | (go_simp; rfl)); (case hp => exact (Reps.one (show Kd.M (Kd.int .i64) _ _ _ 0 [.int .i64 0] from rfl) (Reps.one (show Kd.M (Kd.int .i64) _ _ _ 2 [.int .i64 2] from rfl) (Reps.one (show Kd.M (Kd.int .i64) _ _ _ 4 [.int .i64 4] from rfl) (Reps.one (show Kd.M (Kd.int .i64) _ _ _ 5 [.int .i64 5] from rfl) (Reps.one (show Kd.M (Kd.int .i64) _ _ _ 7 [.int .i64 7] from rfl) (Reps.one (show Kd.M (Kd.int .i64) _ _ _ 9 [.int .i64 9] from rfl) (Reps.one (show Kd.M (Kd.int .i64) _ _ _ 10 [.int .i64 10] from rfl) (Reps.none _ _)))))))))
    intro v418 w8 ho9 hb hg_ hnew_
    clear hg_ hnew_
    (first | rw [← Ny417.out] at ho9 | (simp only [Int.reduceToNat] at ho9; rw [← Ny417.out] at ho9))
    have n0_ := Aside0.mk (Kd.R_lower ho9 (below_size (by repeat (first | (with_reducible first | exact HB.out | apply below_alloc | apply pw_below_drewN | apply below_drew1 | refine below_set ?_ GE416.out) | exact HB.out))))
    have n1_ := Aside0.mk (blk_below (g := gb416) (o := .cells #[.int .i64 a0_0, .bool true] 25 (0, 0)) (by (with_reducible repeat (first | refine blk_drewN ?_ _ | refine blk_drew ?_ | refine blk_alloc ?_ _)); exact BK416.out) hb)
    have n2_ := Aside0.mk (below_step (by repeat (first | (with_reducible first | exact HB.out | apply below_alloc | apply pw_below_drewN | apply below_drew1 | refine below_set ?_ GE416.out) | exact HB.out)) hb)
    clear BK416
    clear HB
    have HO419 := n0_
    have BK416 := n1_
    have HB := n2_
    clear n0_ n1_ n2_
    clear hb ho9
    obtain ⟨Ao10, co10, eo10⟩ := Kd.R_slice HO419.out
    subst eo10
    obtain ⟨ado10, fo10, _⟩ := Kd.at_int (Kd.R_reads' HO419.out).2.2 0 (by decide) (by rw [Ny417.out]; simp)
    cases fo10
    refine hK.out _ _ ⟨(blk_cell BK416.out 0).trans rfl, (blk_cell BK416.out 1).trans rfl⟩ (fun hHeld => ?_)
    clear hK K
    refine norm_ (a' := ?_) ?_ ?_
    rotate_left
    ·show Act.put _ (some 8) _ = _
     simp only [Act.put, List.setIfInBounds_toArray, List.set_cons_zero, List.set_cons_succ, i64_w, i32_w]
     rfl
    refine one_ (i := 7) (N := some 11) #[true, true, true, true, true, true, true, true, false, false, false, false] rfl rfl (one_of HT_.out (by kernel_rfl)) (by decide) (fun K hK => ?_)
    refine goes_ Tryd.func38 (by kernel_rfl) rfl #[.int .i64 a0_0] (by rfl) rfl rfl (by (try simp only [List.map_toArray, List.map_cons, List.map_nil]); first | done | rfl | (simp only [List.length_drop, List.length_take]; rfl)) ?_
    with_reducible refine (spec_l1Letter.calls a0_0 t420 _ A2.out).mono ?_
    rintro e w' ⟨rfl, ⟨nd, rfl⟩⟩
    refine ⟨_, rfl, ?_⟩
    refine hK.out _ _ ⟨(blk_cell BK416.out 0).trans rfl, (blk_cell BK416.out 1).trans rfl⟩ (fun hHeld => ?_)
    clear hK K
    refine norm_ (a' := ?_) ?_ ?_
    rotate_left
    ·show Act.put _ (some 11) _ = _
     simp only [Act.put, List.setIfInBounds_toArray, List.set_cons_zero, List.set_cons_succ, i64_w, i32_w]
     rfl
    exact norm_ (by simp only [putAll, Act.put, List.setIfInBounds_toArray, List.set_cons_zero, List.set_cons_succ]) (hCont (.slice (some ado10) y417.length co10, ado10) _ ⟨hHeld, (by (with_reducible repeat (first | apply Kd.R_alloc | apply Kd.R_drewN | apply Kd.R_drew)); exact HO419.out), ⟨_, rfl⟩, (by (with_reducible repeat (first | refine blk_drewN ?_ _ | refine blk_drew ?_ | refine blk_alloc ?_ _)); exact BK416.out), (by repeat (first | (with_reducible first | exact HB.out | apply below_alloc | apply pw_below_drewN | apply below_drew1 | refine below_set ?_ GE416.out) | exact HB.out))⟩)
   ·skip
    refine goes_ Tryd.func38 (by kernel_rfl) rfl #[.int .i64 a0_0] (by rfl) rfl rfl (by (try simp only [List.map_toArray, List.map_cons, List.map_nil]); first | done | rfl | (simp only [List.length_drop, List.length_take]; rfl)) ?_
    with_reducible refine (spec_l1Letter.calls a0_0 t420 _ A2.out).mono ?_
    rintro e w' ⟨rfl, ⟨nd, rfl⟩⟩
    refine ⟨_, rfl, ?_⟩
    refine hK.out _ _ ⟨(blk_cell BK416.out 0).trans rfl, (blk_cell BK416.out 1).trans rfl⟩ (fun hHeld => ?_)
    clear hK K
    refine norm_ (a' := ?_) ?_ ?_
    rotate_left
    ·show Act.put _ (some 11) _ = _
     simp only [Act.put, List.setIfInBounds_toArray, List.set_cons_zero, List.set_cons_succ, i64_w, i32_w]
     rfl
    refine one_ (i := 4) (N := some 8) #[true, true, true, true, true, true, true, true, false, false, false, false] rfl rfl (one_of HT_.out (by kernel_rfl)) (by decide) (fun K hK => ?_)
    refine Kd.R_lit_step (Kd.int .i64) _ 3 ?hg (N := 8) ?hd (xs := ([0, 2, 4, 5, 7, 9, 10] : List Int)) (inner := [.int .i64 0, .int .i64 2, .int .i64 4, .int .i64 5, .int .i64 7, .int .i64 9, .int .i64 10]) (ok := fun _ => True) (okp := fun _ => True) ?hr ?hp (fun _ hk => hk) trivial (Below.refl _ _) (Nat.le_refl _) (by simp) ?_; (case hd => rfl); (case hg => rfl); (case hr => first | (go_simp; done) | (go_simp; rfl)); (case hp => exact (Reps.one (show Kd.M (Kd.int .i64) _ _ _ 0 [.int .i64 0] from rfl) (Reps.one (show Kd.M (Kd.int .i64) _ _ _ 2 [.int .i64 2] from rfl) (Reps.one (show Kd.M (Kd.int .i64) _ _ _ 4 [.int .i64 4] from rfl) (Reps.one (show Kd.M (Kd.int .i64) _ _ _ 5 [.int .i64 5] from rfl) (Reps.one (show Kd.M (Kd.int .i64) _ _ _ 7 [.int .i64 7] from rfl) (Reps.one (show Kd.M (Kd.int .i64) _ _ _ 9 [.int .i64 9] from rfl) (Reps.one (show Kd.M (Kd.int .i64) _ _ _ 10 [.int .i64 10] from rfl) (Reps.none _ _)))))))))
    intro v418 w8 ho9 hb hg_ hnew_
    clear hg_ hnew_
    (first | rw [← Ny417.out] at ho9 | (simp only [Int.reduceToNat] at ho9; rw [← Ny417.out] at ho9))
    have n0_ := Aside0.mk (Kd.R_lower ho9 (below_size (by repeat (first | (with_reducible first | exact HB.out | apply below_alloc | apply pw_below_drewN | apply below_drew1 | refine below_set ?_ GE416.out) | exact HB.out))))
    have n1_ := Aside0.mk (blk_below (g := gb416) (o := .cells #[.int .i64 a0_0, .bool true] 25 (0, 0)) (by (with_reducible repeat (first | refine blk_drewN ?_ _ | refine blk_drew ?_ | refine blk_alloc ?_ _)); exact BK416.out) hb)
    have n2_ := Aside0.mk (below_step (by repeat (first | (with_reducible first | exact HB.out | apply below_alloc | apply pw_below_drewN | apply below_drew1 | refine below_set ?_ GE416.out) | exact HB.out)) hb)
    clear BK416
    clear HB
    have HO419 := n0_
    have BK416 := n1_
    have HB := n2_
    clear n0_ n1_ n2_
    clear hb ho9
    obtain ⟨Ao10, co10, eo10⟩ := Kd.R_slice HO419.out
    subst eo10
    obtain ⟨ado10, fo10, _⟩ := Kd.at_int (Kd.R_reads' HO419.out).2.2 0 (by decide) (by rw [Ny417.out]; simp)
    cases fo10
    refine hK.out _ _ ⟨(blk_cell BK416.out 0).trans rfl, (blk_cell BK416.out 1).trans rfl⟩ (fun hHeld => ?_)
    clear hK K
    refine norm_ (a' := ?_) ?_ ?_
    rotate_left
    ·show Act.put _ (some 8) _ = _
     simp only [Act.put, List.setIfInBounds_toArray, List.set_cons_zero, List.set_cons_succ, i64_w, i32_w]
     rfl
    exact norm_ (by simp only [putAll, Act.put, List.setIfInBounds_toArray, List.set_cons_zero, List.set_cons_succ]) (hCont (.slice (some ado10) y417.length co10, ado10) _ ⟨hHeld, (by (with_reducible repeat (first | apply Kd.R_alloc | apply Kd.R_drewN | apply Kd.R_drew)); exact HO419.out), ⟨_, rfl⟩, (by (with_reducible repeat (first | refine blk_drewN ?_ _ | refine blk_drew ?_ | refine blk_alloc ?_ _)); exact BK416.out), (by repeat (first | (with_reducible first | exact HB.out | apply below_alloc | apply pw_below_drewN | apply below_drew1 | refine below_set ?_ GE416.out) | exact HB.out))⟩)
  rintro ⟨v418, adz_v418⟩ w11 ⟨hS_, h0_, h1_, h2_, h3_⟩
  have n0_ : Aside0 (Kd.R (Kd.int .i64) 3 w11 w.heap.size (fun _ => True) v418 y417) := ⟨h0_⟩
  have n1_ : Aside0 (∃ c_, (v418 : Value) = .slice (some adz_v418) y417.length c_) := ⟨h1_⟩
  have n2_ : Aside0 (w11.heap[gb416]? = some (.cells #[.int .i64 a0_0, .bool true] 25 (0, 0))) := ⟨h2_⟩
  have n3_ : Aside0 (Below w.heap.size w w11) := ⟨h3_⟩
  clear BK416
  clear HB
  clear h0_ h1_ h2_ h3_
  have HO419 := n0_
  have HA_HO419 := n1_
  have BK416 := n2_
  have HB := n3_
  clear n0_ n1_ n2_ n3_
  have hHeld : w11.cell? ⟨gb416, 0, none⟩ = some (.int .i64 a0_0) ∧ w11.cell? ⟨gb416, 1, none⟩ = some (.bool true) := hS_
  obtain ⟨co12, eo12⟩ := HA_HO419.out
  clear HA_HO419
  subst eo12
  refine norm_ (a' := ?_) ?_ ?_
  rotate_left
  ·simp only [putAll, Act.put, List.setIfInBounds_toArray, List.set_cons_zero, List.set_cons_succ]
   rfl
  refine pure_ (i := 8) (N := some 12) (v := ?_) (a' := ?_) #[true, true, true, true, true, true, true, true, true, false, false, false] rfl rfl (any_of HT_.out (by kernel_rfl)) (fun _ _ _ h => h) (Or.inl ⟨by rfl, ?_⟩) ?_ ?_
  rotate_left
  ·intro w'
   go_simp
   with_reducible rfl
  rotate_left
  ·simp only [Act.put, List.setIfInBounds_toArray, List.set_cons_zero, List.set_cons_succ, i64_w, i32_w]
   rfl
  refine one_ (i := 9) (N := some 13) #[true, true, true, true, true, true, true, true, true, true, false, false] rfl rfl (one_of HT_.out (by kernel_rfl)) (by decide) (fun K hK => ?_)
  (have p421 : 0 ≤ (t420 : Int) := of_decide_eq_true (by first | (with_reducible assumption) | assumption); have q421 : t420 < (y417.length : Int) := of_decide_eq_true (by first | (with_reducible assumption) | assumption); obtain ⟨ad421, e421, hx421_0⟩ := Kd.at_int (Kd.R_reads' HO419.out).2.2 t420 p421 q421; obtain rfl : adz_v418 = ad421 := (by injection e421))
  refine value_ (w1 := ?_) (v := ?_) (by rfl) rfl ?_ ?_
  rotate_left 2
  ·go_simp
   constructor
   ·rfl
   ·rfl
  clear hx421_0
  refine hK.out _ _ ⟨(blk_cell BK416.out 0).trans rfl, (blk_cell BK416.out 1).trans rfl⟩ (fun hHeld => ?_)
  clear hK K
  refine norm_ (a' := ?_) ?_ ?_
  rotate_left
  ·show Act.put _ (some 13) _ = _
   simp only [Act.put, List.setIfInBounds_toArray, List.set_cons_zero, List.set_cons_succ, i64_w, i32_w]
   rfl
  refine pure_ (i := 10) (N := some 14) (v := ?_) (a' := ?_) #[true, true, true, true, true, true, true, true, true, true, true, false] rfl rfl (any_of HT_.out (by kernel_rfl)) (fun _ _ _ h => h) (Or.inl ⟨by rfl, ?_⟩) ?_ ?_
  rotate_left
  ·intro w'
   go_simp
   with_reducible rfl
  rotate_left
  ·simp only [Act.put, List.setIfInBounds_toArray, List.set_cons_zero, List.set_cons_succ, i64_w, i32_w]
   rfl
  refine pure_ (i := 11) (N := some 3) (v := ?_) (a' := ?_) #[true, true, true, true, true, true, true, true, true, true, true, true] rfl rfl (any_of HT_.out (by kernel_rfl)) (fun _ _ _ h => h) (Or.inl ⟨by rfl, ?_⟩) ?_ ?_
  rotate_left
  ·intro w'
   go_simp
   with_reducible rfl
  rotate_left
  ·simp only [Act.put, List.setIfInBounds_toArray, List.set_cons_zero, List.set_cons_succ, i64_w, i32_w]
   rfl
  refine done_ (done_of HT_.out (by kernel_rfl)) ?_
  have hcz13_0 : w11.cell? ⟨gb416, 0, none⟩ = some (.int .i64 a0_0) := (blk_cell BK416.out 0).trans rfl
  have hcz13_1 : w11.cell? ⟨gb416, 1, none⟩ = some (.bool true) := (blk_cell BK416.out 1).trans rfl
  have hfz13_0 := blk_frozen BK416.out 0
  have hfz13_1 := blk_frozen BK416.out 1
  try go_wp2
  go_ret
  exact ⟨by first | (simp only [IntKind.wrap_i64, Go.RowKit.wrap64]; rfl) | rfl | (simp [errW_none, errW_some] <;> rfl) | (simp [*, errW_none, errW_some] <;> rfl), by repeat (first | (with_reducible first | exact HB.out | apply below_alloc | apply pw_below_drewN | apply below_drew1 | refine below_set ?_ GE416.out) | exact HB.out)⟩
 replace c5 := Bool.eq_false_iff.mpr c5
 subst c5
 have H1 : (some (wrap64 ((wrap64 (12 * (wrap64 (Int.tdiv a0_0 7)))) + (rd y417 t420)))) = some r := by rw [if_neg (show ¬ (false = true) by decide)] at H; exact H
 clear H
 have H := H1
 clear H1
 obtain rfl := Option.some.inj H
 go_enter Tryd.func59, Tryd.ntmps59
 try go_wp2_with (first | ((with_reducible refine gate_dst (N := 1) rfl ?_); refine box_event ?hg (N := 1) ?hd (cs := #[.int .i64 a0_0, .bool false]) (t := 25) ?hr ?_; (case hd => rfl); (case hg => rfl); (case hr => first | (go_simp; done) | (go_simp; rfl)); intro gb416 hg w14 hbox hb; have n0_ := Aside0.mk (below_step (by repeat (first | (with_reducible first | exact HB.out | apply below_alloc | apply pw_below_drewN | apply below_drew1) | exact HB.out)) hb); have n1_ := Aside0.mk (hbox); have n2_ := Aside0.mk ((by rw [hg]; exact (below_size (by repeat (first | (with_reducible first | exact HB.out | apply below_alloc | apply pw_below_drewN | apply below_drew1) | exact HB.out))) : w.heap.size ≤ gb416)); have n3_ := Aside0.mk ((by rw [hg]; exact (below_size (by repeat (first | (with_reducible first | exact HB.out | apply below_alloc | apply pw_below_drewN | apply below_drew1) | exact HB.out))) : w.heap.size ≤ gb416)); clear HB; have HB := n0_; have BK416 := n1_; have GW416 := n2_; have GE416 := n3_; clear n0_ n1_ n2_ n3_; clear hb hbox hg))
 have pi421 : (0 ≤ (t420 : Int)) = True := eq_true (of_decide_eq_true (by first | (with_reducible assumption) | assumption))
 have qi421 : (t420 < (y417.length : Int)) = True := eq_true (of_decide_eq_true (by first | (with_reducible assumption) | assumption))
 have n0_ := Aside0.mk (blk_drew BK416.out)
 have n1_ := Aside0.mk (below_drew1 HB.out)
 clear BK416
 clear HB
 have BK416 := n0_
 have HB := n1_
 clear n0_ n1_
 refine start_ (n := 12) (S := fun w' => w'.cell? ⟨gb416, 0, none⟩ = some (.int .i64 a0_0) ∧ w'.cell? ⟨gb416, 1, none⟩ = some (.bool false)) (ds := []) #[false, false, false, false, false, false, false, false, false, false, false, false] (by kernel_rfl) rfl rfl ⟨(blk_cell BK416.out 0).trans rfl, (blk_cell BK416.out 1).trans rfl⟩ (fun hHeld => ?_); refine with_tabW spec_l1Height.tab1 spec_l1Height.bits1 (fun HT_ HW_ => ?_)
 generalize w14.drew = w15 at BK416 HB hHeld ⊢
 refine pure_ (i := 0) (N := some 4) (v := ?_) (a' := ?_) #[true, false, false, false, false, false, false, false, false, false, false, false] rfl rfl (any_of HT_.out (by kernel_rfl)) (fun _ _ _ h => h) (Or.inl ⟨by rfl, ?_⟩) ?_ ?_
 rotate_left
 ·intro w'
  go_simp
  with_reducible rfl
 rotate_left
 ·simp only [Act.put, List.setIfInBounds_toArray, List.set_cons_zero, List.set_cons_succ, i64_w, i32_w]
  rfl
 refine pure_ (i := 5) (N := some 9) (v := ?_) (a' := ?_) #[true, false, false, false, false, true, false, false, false, false, false, false] rfl rfl (any_of HT_.out (by kernel_rfl)) (fun _ _ _ h => h) (Or.inl ⟨by rfl, ?_⟩) ?_ ?_
 rotate_left
 ·intro w'
  go_simp
  with_reducible rfl
 rotate_left
 ·simp only [Act.put, List.setIfInBounds_toArray, List.set_cons_zero, List.set_cons_succ, i64_w, i32_w]
  rfl
 refine take_ (i := 1) (N := some 5) (v := ?_) (a' := ?_) #[true, true, false, false, false, true, false, false, false, false, false, false] rfl rfl (take_ofW HT_.out HW_.out (by kernel_rfl)) (fun _ _ _ h => h) (Or.inl ⟨by rfl, ?_⟩) hHeld ?_ ?_
 rotate_left
 ·rintro w' ⟨s0, s1⟩
  go_simp
  with_reducible rfl
 rotate_left
 ·simp only [Act.put, List.setIfInBounds_toArray, List.set_cons_zero, List.set_cons_succ, i64_w, i32_w]
  rfl
 refine pure_ (i := 2) (N := some 6) (v := ?_) (a' := ?_) #[true, true, true, false, false, true, false, false, false, false, false, false] rfl rfl (any_of HT_.out (by kernel_rfl)) (fun _ _ _ h => h) (Or.inl ⟨by rfl, ?_⟩) ?_ ?_
 rotate_left
 ·intro w'
  go_simp
  with_reducible rfl
 rotate_left
 ·simp only [Act.put, List.setIfInBounds_toArray, List.set_cons_zero, List.set_cons_succ, i64_w, i32_w]
  rfl
 refine pure_ (i := 3) (N := some 7) (v := ?_) (a' := ?_) #[true, true, true, true, false, true, false, false, false, false, false, false] rfl rfl (any_of HT_.out (by kernel_rfl)) (fun _ _ _ h => h) (Or.inl ⟨by rfl, ?_⟩) ?_ ?_
 rotate_left
 ·intro w'
  go_simp
  with_reducible rfl
 rotate_left
 ·simp only [Act.put, List.setIfInBounds_toArray, List.set_cons_zero, List.set_cons_succ, i64_w, i32_w]
  rfl
 refine take_ (i := 6) (N := some 10) (v := ?_) (a' := ?_) #[true, true, true, true, false, true, true, false, false, false, false, false] rfl rfl (take_ofW HT_.out HW_.out (by kernel_rfl)) (fun _ _ _ h => h) (Or.inl ⟨by rfl, ?_⟩) hHeld ?_ ?_
 rotate_left
 ·rintro w' ⟨s0, s1⟩
  go_simp
  with_reducible rfl
 rotate_left
 ·simp only [Act.put, List.setIfInBounds_toArray, List.set_cons_zero, List.set_cons_succ, i64_w, i32_w]
  rfl
 refine join_ (σ := Value × Addr) 4 #[true, true, true, true, true, true, true, true, false, false, false, false] (fun s_ => [(8, s_.1), (11, .int .i64 t420)]) (fun s_ w' => (w'.cell? ⟨gb416, 0, none⟩ = some (.int .i64 a0_0) ∧ w'.cell? ⟨gb416, 1, none⟩ = some (.bool false)) ∧ (Kd.R (Kd.int .i64) 3 w' w.heap.size (fun _ => True) s_.1 y417) ∧ (∃ c_, (s_.1 : Value) = .slice (some s_.2) y417.length c_) ∧ (w'.heap[gb416]? = some (.cells #[.int .i64 a0_0, .bool false] 25 (0, 0))) ∧ (Below w.heap.size w w')) ?_ ?_
 rotate_left
 ·intro hCont
  refine two_ (i := 4) (j := 7) (Ni := some 8) (Nj := some 11) #[true, true, true, true, true, true, true, false, false, false, false, false] #[true, true, true, true, false, true, true, true, false, false, false, false] rfl rfl rfl rfl (two_of HT_.out (by kernel_rfl)) (by decide) (by decide) (fun K hK => ?_) (fun K hK => ?_)
  ·skip
   refine Kd.R_lit_step (Kd.int .i64) _ 3 ?hg (N := 8) ?hd (xs := ([0, 2, 4, 5, 7, 9, 10] : List Int)) (inner := [.int .i64 0, .int .i64 2, .int .i64 4, .int .i64 5, .int .i64 7, .int .i64 9, .int .i64 10]) (ok := fun _ => True) (okp := fun _ => True) ?hr ?hp (fun _ hk => hk) trivial (Below.refl _ _) (Nat.le_refl _) (by simp) ?_; (case hd => rfl); (case hg => rfl); (case hr => first | (go_simp; done) | (go_simp; rfl)); (case hp => exact (Reps.one (show Kd.M (Kd.int .i64) _ _ _ 0 [.int .i64 0] from rfl) (Reps.one (show Kd.M (Kd.int .i64) _ _ _ 2 [.int .i64 2] from rfl) (Reps.one (show Kd.M (Kd.int .i64) _ _ _ 4 [.int .i64 4] from rfl) (Reps.one (show Kd.M (Kd.int .i64) _ _ _ 5 [.int .i64 5] from rfl) (Reps.one (show Kd.M (Kd.int .i64) _ _ _ 7 [.int .i64 7] from rfl) (Reps.one (show Kd.M (Kd.int .i64) _ _ _ 9 [.int .i64 9] from rfl) (Reps.one (show Kd.M (Kd.int .i64) _ _ _ 10 [.int .i64 10] from rfl) (Reps.none _ _)))))))))
   intro v418 w16 ho17 hb hg_ hnew_
   clear hg_ hnew_
   (first | rw [← Ny417.out] at ho17 | (simp only [Int.reduceToNat] at ho17; rw [← Ny417.out] at ho17))
   have n0_ := Aside0.mk (Kd.R_lower ho17 (below_size (by repeat (first | (with_reducible first | exact HB.out | apply below_alloc | apply pw_below_drewN | apply below_drew1 | refine below_set ?_ GE416.out) | exact HB.out))))
   have n1_ := Aside0.mk (blk_below (g := gb416) (o := .cells #[.int .i64 a0_0, .bool false] 25 (0, 0)) (by (with_reducible repeat (first | refine blk_drewN ?_ _ | refine blk_drew ?_ | refine blk_alloc ?_ _)); exact BK416.out) hb)
   have n2_ := Aside0.mk (below_step (by repeat (first | (with_reducible first | exact HB.out | apply below_alloc | apply pw_below_drewN | apply below_drew1 | refine below_set ?_ GE416.out) | exact HB.out)) hb)
   clear BK416
   clear HB
   have HO419 := n0_
   have BK416 := n1_
   have HB := n2_
   clear n0_ n1_ n2_
   clear hb ho17
   obtain ⟨Ao18, co18, eo18⟩ := Kd.R_slice HO419.out
   subst eo18
   obtain ⟨ado18, fo18, _⟩ := Kd.at_int (Kd.R_reads' HO419.out).2.2 0 (by decide) (by rw [Ny417.out]; simp)
   cases fo18
   refine hK.out _ _ ⟨(blk_cell BK416.out 0).trans rfl, (blk_cell BK416.out 1).trans rfl⟩ (fun hHeld => ?_)
   clear hK K
   refine norm_ (a' := ?_) ?_ ?_
   rotate_left
   ·show Act.put _ (some 8) _ = _
    simp only [Act.put, List.setIfInBounds_toArray, List.set_cons_zero, List.set_cons_succ, i64_w, i32_w]
    rfl
   refine one_ (i := 7) (N := some 11) #[true, true, true, true, true, true, true, true, false, false, false, false] rfl rfl (one_of HT_.out (by kernel_rfl)) (by decide) (fun K hK => ?_)
   refine goes_ Tryd.func38 (by kernel_rfl) rfl #[.int .i64 a0_0] (by rfl) rfl rfl (by (try simp only [List.map_toArray, List.map_cons, List.map_nil]); first | done | rfl | (simp only [List.length_drop, List.length_take]; rfl)) ?_
   with_reducible refine (spec_l1Letter.calls a0_0 t420 _ A2.out).mono ?_
   rintro e w' ⟨rfl, ⟨nd, rfl⟩⟩
   refine ⟨_, rfl, ?_⟩
   refine hK.out _ _ ⟨(blk_cell BK416.out 0).trans rfl, (blk_cell BK416.out 1).trans rfl⟩ (fun hHeld => ?_)
   clear hK K
   refine norm_ (a' := ?_) ?_ ?_
   rotate_left
   ·show Act.put _ (some 11) _ = _
    simp only [Act.put, List.setIfInBounds_toArray, List.set_cons_zero, List.set_cons_succ, i64_w, i32_w]
    rfl
   exact norm_ (by simp only [putAll, Act.put, List.setIfInBounds_toArray, List.set_cons_zero, List.set_cons_succ]) (hCont (.slice (some ado18) y417.length co18, ado18) _ ⟨hHeld, (by (with_reducible repeat (first | apply Kd.R_alloc | apply Kd.R_drewN | apply Kd.R_drew)); exact HO419.out), ⟨_, rfl⟩, (by (with_reducible repeat (first | refine blk_drewN ?_ _ | refine blk_drew ?_ | refine blk_alloc ?_ _)); exact BK416.out), (by repeat (first | (with_reducible first | exact HB.out | apply below_alloc | apply pw_below_drewN | apply below_drew1 | refine below_set ?_ GE416.out) | exact HB.out))⟩)
  ·skip
   refine goes_ Tryd.func38 (by kernel_rfl) rfl #[.int .i64 a0_0] (by rfl) rfl rfl (by (try simp only [List.map_toArray, List.map_cons, List.map_nil]); first | done | rfl | (simp only [List.length_drop, List.length_take]; rfl)) ?_
   with_reducible refine (spec_l1Letter.calls a0_0 t420 _ A2.out).mono ?_
   rintro e w' ⟨rfl, ⟨nd, rfl⟩⟩
   refine ⟨_, rfl, ?_⟩
   refine hK.out _ _ ⟨(blk_cell BK416.out 0).trans rfl, (blk_cell BK416.out 1).trans rfl⟩ (fun hHeld => ?_)
   clear hK K
   refine norm_ (a' := ?_) ?_ ?_
   rotate_left
   ·show Act.put _ (some 11) _ = _
    simp only [Act.put, List.setIfInBounds_toArray, List.set_cons_zero, List.set_cons_succ, i64_w, i32_w]
    rfl
   refine one_ (i := 4) (N := some 8) #[true, true, true, true, true, true, true, true, false, false, false, false] rfl rfl (one_of HT_.out (by kernel_rfl)) (by decide) (fun K hK => ?_)
   refine Kd.R_lit_step (Kd.int .i64) _ 3 ?hg (N := 8) ?hd (xs := ([0, 2, 4, 5, 7, 9, 10] : List Int)) (inner := [.int .i64 0, .int .i64 2, .int .i64 4, .int .i64 5, .int .i64 7, .int .i64 9, .int .i64 10]) (ok := fun _ => True) (okp := fun _ => True) ?hr ?hp (fun _ hk => hk) trivial (Below.refl _ _) (Nat.le_refl _) (by simp) ?_; (case hd => rfl); (case hg => rfl); (case hr => first | (go_simp; done) | (go_simp; rfl)); (case hp => exact (Reps.one (show Kd.M (Kd.int .i64) _ _ _ 0 [.int .i64 0] from rfl) (Reps.one (show Kd.M (Kd.int .i64) _ _ _ 2 [.int .i64 2] from rfl) (Reps.one (show Kd.M (Kd.int .i64) _ _ _ 4 [.int .i64 4] from rfl) (Reps.one (show Kd.M (Kd.int .i64) _ _ _ 5 [.int .i64 5] from rfl) (Reps.one (show Kd.M (Kd.int .i64) _ _ _ 7 [.int .i64 7] from rfl) (Reps.one (show Kd.M (Kd.int .i64) _ _ _ 9 [.int .i64 9] from rfl) (Reps.one (show Kd.M (Kd.int .i64) _ _ _ 10 [.int .i64 10] from rfl) (Reps.none _ _)))))))))
   intro v418 w16 ho17 hb hg_ hnew_
   clear hg_ hnew_
   (first | rw [← Ny417.out] at ho17 | (simp only [Int.reduceToNat] at ho17; rw [← Ny417.out] at ho17))
   have n0_ := Aside0.mk (Kd.R_lower ho17 (below_size (by repeat (first | (with_reducible first | exact HB.out | apply below_alloc | apply pw_below_drewN | apply below_drew1 | refine below_set ?_ GE416.out) | exact HB.out))))
   have n1_ := Aside0.mk (blk_below (g := gb416) (o := .cells #[.int .i64 a0_0, .bool false] 25 (0, 0)) (by (with_reducible repeat (first | refine blk_drewN ?_ _ | refine blk_drew ?_ | refine blk_alloc ?_ _)); exact BK416.out) hb)
   have n2_ := Aside0.mk (below_step (by repeat (first | (with_reducible first | exact HB.out | apply below_alloc | apply pw_below_drewN | apply below_drew1 | refine below_set ?_ GE416.out) | exact HB.out)) hb)
   clear BK416
   clear HB
   have HO419 := n0_
   have BK416 := n1_
   have HB := n2_
   clear n0_ n1_ n2_
   clear hb ho17
   obtain ⟨Ao18, co18, eo18⟩ := Kd.R_slice HO419.out
   subst eo18
   obtain ⟨ado18, fo18, _⟩ := Kd.at_int (Kd.R_reads' HO419.out).2.2 0 (by decide) (by rw [Ny417.out]; simp)
   cases fo18
   refine hK.out _ _ ⟨(blk_cell BK416.out 0).trans rfl, (blk_cell BK416.out 1).trans rfl⟩ (fun hHeld => ?_)
   clear hK K
   refine norm_ (a' := ?_) ?_ ?_
   rotate_left
   ·show Act.put _ (some 8) _ = _
    simp only [Act.put, List.setIfInBounds_toArray, List.set_cons_zero, List.set_cons_succ, i64_w, i32_w]
    rfl
   exact norm_ (by simp only [putAll, Act.put, List.setIfInBounds_toArray, List.set_cons_zero, List.set_cons_succ]) (hCont (.slice (some ado18) y417.length co18, ado18) _ ⟨hHeld, (by (with_reducible repeat (first | apply Kd.R_alloc | apply Kd.R_drewN | apply Kd.R_drew)); exact HO419.out), ⟨_, rfl⟩, (by (with_reducible repeat (first | refine blk_drewN ?_ _ | refine blk_drew ?_ | refine blk_alloc ?_ _)); exact BK416.out), (by repeat (first | (with_reducible first | exact HB.out | apply below_alloc | apply pw_below_drewN | apply below_drew1 | refine below_set ?_ GE416.out) | exact HB.out))⟩)
 rintro ⟨v418, adz_v418⟩ w19 ⟨hS_, h0_, h1_, h2_, h3_⟩
 have n0_ : Aside0 (Kd.R (Kd.int .i64) 3 w19 w.heap.size (fun _ => True) v418 y417) := ⟨h0_⟩
 have n1_ : Aside0 (∃ c_, (v418 : Value) = .slice (some adz_v418) y417.length c_) := ⟨h1_⟩
 have n2_ : Aside0 (w19.heap[gb416]? = some (.cells #[.int .i64 a0_0, .bool false] 25 (0, 0))) := ⟨h2_⟩
 have n3_ : Aside0 (Below w.heap.size w w19) := ⟨h3_⟩
 clear BK416
 clear HB
 clear h0_ h1_ h2_ h3_
 have HO419 := n0_
 have HA_HO419 := n1_
 have BK416 := n2_
 have HB := n3_
 clear n0_ n1_ n2_ n3_
 have hHeld : w19.cell? ⟨gb416, 0, none⟩ = some (.int .i64 a0_0) ∧ w19.cell? ⟨gb416, 1, none⟩ = some (.bool false) := hS_
 obtain ⟨co20, eo20⟩ := HA_HO419.out
 clear HA_HO419
 subst eo20
 refine norm_ (a' := ?_) ?_ ?_
 rotate_left
 ·simp only [putAll, Act.put, List.setIfInBounds_toArray, List.set_cons_zero, List.set_cons_succ]
  rfl
 refine pure_ (i := 8) (N := some 12) (v := ?_) (a' := ?_) #[true, true, true, true, true, true, true, true, true, false, false, false] rfl rfl (any_of HT_.out (by kernel_rfl)) (fun _ _ _ h => h) (Or.inl ⟨by rfl, ?_⟩) ?_ ?_
 rotate_left
 ·intro w'
  go_simp
  with_reducible rfl
 rotate_left
 ·simp only [Act.put, List.setIfInBounds_toArray, List.set_cons_zero, List.set_cons_succ, i64_w, i32_w]
  rfl
 refine one_ (i := 9) (N := some 13) #[true, true, true, true, true, true, true, true, true, true, false, false] rfl rfl (one_of HT_.out (by kernel_rfl)) (by decide) (fun K hK => ?_)
 (have p421 : 0 ≤ (t420 : Int) := of_decide_eq_true (by first | (with_reducible assumption) | assumption); have q421 : t420 < (y417.length : Int) := of_decide_eq_true (by first | (with_reducible assumption) | assumption); obtain ⟨ad421, e421, hx421_0⟩ := Kd.at_int (Kd.R_reads' HO419.out).2.2 t420 p421 q421; obtain rfl : adz_v418 = ad421 := (by injection e421))
 refine value_ (w1 := ?_) (v := ?_) (by rfl) rfl ?_ ?_
 rotate_left 2
 ·go_simp
  constructor
  ·rfl
  ·rfl
 clear hx421_0
 refine hK.out _ _ ⟨(blk_cell BK416.out 0).trans rfl, (blk_cell BK416.out 1).trans rfl⟩ (fun hHeld => ?_)
 clear hK K
 refine norm_ (a' := ?_) ?_ ?_
 rotate_left
 ·show Act.put _ (some 13) _ = _
  simp only [Act.put, List.setIfInBounds_toArray, List.set_cons_zero, List.set_cons_succ, i64_w, i32_w]
  rfl
 refine pure_ (i := 10) (N := some 14) (v := ?_) (a' := ?_) #[true, true, true, true, true, true, true, true, true, true, true, false] rfl rfl (any_of HT_.out (by kernel_rfl)) (fun _ _ _ h => h) (Or.inl ⟨by rfl, ?_⟩) ?_ ?_
 rotate_left
 ·intro w'
  go_simp
  with_reducible rfl
 rotate_left
 ·simp only [Act.put, List.setIfInBounds_toArray, List.set_cons_zero, List.set_cons_succ, i64_w, i32_w]
  rfl
 refine pure_ (i := 11) (N := some 3) (v := ?_) (a' := ?_) #[true, true, true, true, true, true, true, true, true, true, true, true] rfl rfl (any_of HT_.out (by kernel_rfl)) (fun _ _ _ h => h) (Or.inl ⟨by rfl, ?_⟩) ?_ ?_
 rotate_left
 ·intro w'
  go_simp
  with_reducible rfl
 rotate_left
 ·simp only [Act.put, List.setIfInBounds_toArray, List.set_cons_zero, List.set_cons_succ, i64_w, i32_w]
  rfl
 refine done_ (done_of HT_.out (by kernel_rfl)) ?_
 have hcz21_0 : w19.cell? ⟨gb416, 0, none⟩ = some (.int .i64 a0_0) := (blk_cell BK416.out 0).trans rfl
 have hcz21_1 : w19.cell? ⟨gb416, 1, none⟩ = some (.bool false) := (blk_cell BK416.out 1).trans rfl
 have hfz21_0 := blk_frozen BK416.out 0
 have hfz21_1 := blk_frozen BK416.out 1
 try go_wp2
 go_ret
 exact ⟨by first | (simp only [IntKind.wrap_i64, Go.RowKit.wrap64]; rfl) | rfl | (simp [errW_none, errW_some] <;> rfl) | (simp [*, errW_none, errW_some] <;> rfl), by repeat (first | (with_reducible first | exact HB.out | apply below_alloc | apply pw_below_drewN | apply below_drew1 | refine below_set ?_ GE416.out) | exact HB.out)⟩
end Go.Proofs.YtlinjleahnccgaaDoor.E
end
section
namespace Go.Proofs.YtlinjleahnccgaaDoor.E
open Go.RowKit Go.Proofs.YtlinjleahnccgaaDoorW.PrintWords Go.Proofs.YtlinjleahnccgaaDoorW.PrintLast Go.Proofs.YtlinjleahnccgaaDoorW.PrintMore
attribute [local go_sem] max2_int min2_int max_two min_two max_three min_three max_four min_four
set_option linter.unusedVariables false
set_option linter.unusedSimpArgs false
attribute [local go_sem] str_leq_ str_gtr_ str_geq_
mutual
def spec_l2Moved.l0 : Nat → List (S25) → Int → Int → List (S25) → Int → Option ((List (S25)) × Bool)
 | 0, _, _, _, _, _ => none
 | k + 1, x0, x1, x2, x8, x9 => if x9 < (x0.length : Int) then (spec_l2Moved.l1 k x0 x1 x2 x8 x9 false 0) else (some (x8, true))
def spec_l2Moved.l1 : Nat → List (S25) → Int → Int → List (S25) → Int → Bool → Int → Option ((List (S25)) × Bool)
 | 0, _, _, _, _, _, _, _ => none
 | k + 1, x0, x1, x2, x8, x9, x10, x11 => if x11 < 2 then (spec_l2Moved.j2 k x0 x1 x2 x8 x9 x10 x11 (!x10)) else (spec_l2Moved.j2 k x0 x1 x2 x8 x9 x10 x11 false)
def spec_l2Moved.j2 : Nat → List (S25) → Int → Int → List (S25) → Int → Bool → Int → Bool → Option ((List (S25)) × Bool)
 | 0, _, _, _, _, _, _, _, _ => none
 | k + 1, x0, x1, x2, x8, x9, x10, x11, x25 => if x25 = true then (if 0 ≤ x9 then (if x9 < (x0.length : Int) then ((spec_ToneValid.f (wrap64 (((rd_T25 x0 x9).f0) + x1)) (x11 == 1)).bind fun t430 => (if t430 = true then ((spec_l1Height.f (wrap64 (((rd_T25 x0 x9).f0) + x1)) (x11 == 1)).bind fun t431 => ((spec_l1Height.f ((rd_T25 x0 x9).f0) ((rd_T25 x0 x9).f1)).bind fun t433 => (if (wrap64 (t431 - t433)) = x2 then (if x8.length < 8796093022208 then (spec_l2Moved.l1 k x0 x1 x2 (x8 ++ [(⟨wrap64 (((rd_T25 x0 x9).f0) + x1), (x11 == 1)⟩ : S25)]) x9 true (wrap64 (x11 + 1))) else (none)) else (spec_l2Moved.l1 k x0 x1 x2 x8 x9 x10 (wrap64 (x11 + 1)))))) else (spec_l2Moved.l1 k x0 x1 x2 x8 x9 x10 (wrap64 (x11 + 1))))) else (none)) else (none)) else (if x10 = true then (spec_l2Moved.l0 k x0 x1 x2 x8 (wrap64 (x9 + 1))) else (some ((([] : List (S25))), false)))
end
def spec_l2Moved.f (k : Nat) (l0 : List (S25)) (a1 : Int) (a2 : Int) : Option ((List (S25)) × Bool) := spec_l2Moved.l0 k l0 a1 a2 (([] : List (S25))) 0
def spec_l2Moved.T10 : Bool × List (List Nat × List Nat) := (true, [([], []), ([0], [0]), ([1, 1], [1]), ([2], [2]), ([3, 2, 2], [2, 3]), ([2], [2]), ([2], [2]), ([5, 6, 2], [2, 5, 6]), ([7, 2], [2, 7]), ([8, 4, 2], [2, 8]), ([4, 9, 2], [2, 4, 9]), ([2], [2]), ([10, 11, 2], [2, 10, 11]), ([2, 12], [2, 12])])
def spec_l2Moved.B10 : List Nat := [0, 1, 3, 7, 15, 7, 7, 103, 231, 511, 1023, 7, 4095, 8191]
theorem spec_l2Moved.tab10 : rtab .any (opsOf Tryd.f58 10) = spec_l2Moved.T10 := by kernel_rfl
theorem spec_l2Moved.bits10 : waitsOk spec_l2Moved.T10.2 spec_l2Moved.B10 = true := by kernel_rfl
set_option maxHeartbeats 8000000 in
set_option maxRecDepth 100000 in
theorem spec_l2Moved.calls (k : Nat) (A0 : Option Addr) (c0 : Nat) (l0 : List (S25)) (a1 : Int) (a2 : Int) (r1 : List (S25)) (r2 : Bool) (w : World) (hr0 : Kd.C k25 w A0 l0.length l0) (hc0 : l0.length ≤ c0) (h : spec_l2Moved.f k l0 a1 a2 = some (r1, r2)) :
  Calls Tryd.prog 58 #[.slice A0 l0.length c0, .int .i64 a1, .int .i64 a2] w fun e w' => ∃ v0_ : Value, e = .returned (.tuple #[v0_, .bool r2]) ∧ Kd.R k25 25 w' w.heap.size (fun _ => True) v0_ r1 ∧ Below w.heap.size w w' := by
 have hu25 := Tryd.underlying25
 have HR0 := Aside0.mk hr0
 have HC0 := Aside0.mk hc0
 clear hr0 hc0
 have HB := Aside0.mk (Below.refl w.heap.size w)
 have H : (spec_l2Moved.l0 k l0 a1 a2 (([] : List (S25))) 0) = some (r1, r2) := h
 clear h
 obtain ⟨y422, hy422⟩ : ∃ y_ : List (S25), y_ = (([] : List (S25))) := ⟨_, rfl⟩
 replace H : (spec_l2Moved.l0 k l0 a1 a2 y422 0) = some (r1, r2) := by first | (rw [hy422]; with_reducible exact H) | (have H2_ := (Option.bind_some _ _).symm.trans H; rw [hy422]; with_reducible exact H2_) | (have H2_ := (Option.bind_some _ _).symm.trans H; with_reducible exact H2_) | with_reducible exact H | (rw [hy422]; exact H) | exact H
 have Ny422 := Aside0.mk hy422
 clear hy422
 have H' := Aside0.mk H
 clear H
 go_enter Tryd.func58, Tryd.ntmps58
 go_wp2_with (first | ((with_reducible refine gate_dst (N := 13) rfl ?_); refine Kd.R_lit k25 _ 25 ?hg (N := 13) ?hd (xs := ([] : List (S25))) (inner := []) (ok := fun _ => True) (okp := fun _ => True) ?hr ?hp (fun _ hk => hk) trivial (Below.refl _ _) (Nat.le_refl _) (by simp) ?_; (case hd => rfl); (case hg => rfl); (case hr => first | (go_simp; done) | (go_simp; rfl)); (case hp => exact (Reps.none _ _)); intro v423 w4 ho5 hb hg_ hnew_; clear hg_ hnew_; (first | rw [← Ny422.out] at ho5 | (simp only [Int.reduceToNat] at ho5; rw [← Ny422.out] at ho5)); have n0_ := Aside0.mk (Kd.R_lower ho5 (below_size (by repeat (first | (with_reducible first | exact HB.out | apply below_alloc | apply pw_below_drewN | apply below_drew1) | exact HB.out)))); have n1_ := Aside0.mk (below_step (by repeat (first | (with_reducible first | exact HB.out | apply below_alloc | apply pw_below_drewN | apply below_drew1) | exact HB.out)) hb); clear HB; have HO424 := n0_; have HB := n1_; clear n0_ n1_; clear hb ho5))
 go_loopg [8, 9] k (fun kq v8 v9 w' => ∃ (x8_1 : List (S25)) (x9_1 : Int), v9 = .int .i64 x9_1 ∧ Aside0 (spec_l2Moved.l0 kq l0 a1 a2 x8_1 x9_1 = some (r1, r2)) ∧ Aside0 (kq ≤ k) ∧ Aside0 (Kd.R k25 25 w' w.heap.size (fun _ => True) v8 x8_1) ∧ Aside0 (Below w.heap.size w w'))
 case atStart => exact ⟨(y422), (0), (by first | rfl | (simp; done) | (simp [*]; done)), H', ⟨Nat.le_refl _⟩, ⟨by (with_reducible repeat (first | apply Kd.R_alloc | apply Kd.R_drewN | apply Kd.R_drew)); exact HO424.out⟩, ⟨by repeat (first | (with_reducible first | exact HB.out | apply below_alloc | apply pw_below_drewN | apply below_drew1) | exact HB.out)⟩⟩
 case round =>
  clear H'
  try clear p2
  try clear c5
  obtain ⟨x8_1, x9_1, rfl, HA, HK1, HO_8, HB⟩ := hrel
  cases gk with
  | zero => exact absurd HA.out (by simp [spec_l2Moved.l0])
  | succ k1 =>
   have H := HA.out
   clear HA
   simp only [spec_l2Moved.l0] at H
   by_cases c6 : x9_1 < (l0.length : Int)
   rotate_left
   ·rw [if_neg c6] at H
    have c6b0 : decide (x9_1 < (l0.length : Int)) = false := decide_eq_false c6
    clear c6
    simp only [Option.some.injEq, Prod.mk.injEq] at H
    obtain ⟨rfl, rfl⟩ := H
    go_wp2
    go_ret2
    exact ⟨_, by first | rfl | (simp [errW_none, errW_some] <;> rfl) | (simp [*, errW_none, errW_some] <;> rfl), by (with_reducible repeat (first | apply Kd.R_alloc | apply Kd.R_drewN | apply Kd.R_drew)); exact HO_8.out, by repeat (first | (with_reducible first | exact HB.out | apply below_alloc | apply pw_below_drewN | apply below_drew1) | exact HB.out)⟩
   rw [if_pos c6] at H
   have c6b0 : decide (x9_1 < (l0.length : Int)) = true := decide_eq_true c6
   clear c6
   have H' := Aside0.mk H
   clear H
   go_wp2
   go_loopg [8, 10, 11] k1 (fun kq v8 v10 v11 w' => ∃ (x8_2 : List (S25)) (x10_2 : Bool) (x11_2 : Int), v10 = .bool x10_2 ∧ v11 = .int .i64 x11_2 ∧ Aside0 (spec_l2Moved.l1 kq l0 a1 a2 x8_2 x9_1 x10_2 x11_2 = some (r1, r2)) ∧ Aside0 (kq ≤ k1) ∧ Aside0 (Kd.R k25 25 w' w.heap.size (fun _ => True) v8 x8_2) ∧ Aside0 (Below w.heap.size w w'))
   case atStart => exact ⟨(x8_1), (false), (0), (by first | rfl | (simp; done) | (simp [*]; done)), (by first | rfl | (simp; done) | (simp [*]; done)), H', ⟨Nat.le_refl _⟩, ⟨by (with_reducible repeat (first | apply Kd.R_alloc | apply Kd.R_drewN | apply Kd.R_drew)); exact HO_8.out⟩, ⟨by repeat (first | (with_reducible first | exact HB.out | apply below_alloc | apply pw_below_drewN | apply below_drew1) | exact HB.out)⟩⟩
   case round =>
    clear H'
    try clear p2
    try clear c5
    try clear c6
    try clear c6b0
    try clear p2
    obtain ⟨x8_2, x10_2, x11_2, rfl, rfl, HA, HK2, HO_8, HB⟩ := hrel
    cases gk with
    | zero => exact absurd HA.out (by simp [spec_l2Moved.l1])
    | succ k2 =>
     have H := HA.out
     clear HA
     simp only [spec_l2Moved.l1] at H
     have HC7 := Aside0.mk H
     clear H
     go_upto_region 7 with (fail)
     go_cut [25] (fun v25 wc => ∃ (kq : Nat) (x25_6 : Bool), v25 = .bool x25_6 ∧ Aside0 (spec_l2Moved.j2 kq l0 a1 a2 x8_2 x9_1 x10_2 x11_2 x25_6 = some (r1, r2)) ∧ Aside0 (kq ≤ k2) ∧ Aside0 (Kd.R k25 25 wc w.heap.size (fun _ => True) u8 x8_2) ∧ Aside0 (Below w.heap.size w wc))
     case first =>
      have H := HC7.out
      clear HC7
      by_cases c8 : x11_2 < 2
      rotate_left
      ·rw [if_neg c8] at H
       have c8b0 : decide (x11_2 < 2) = false := decide_eq_false c8
       clear c8
       (first | rw [c8b0] | (simp only [i64_w, i32_w]; rw [c8b0]) | skip)
       have H' := Aside0.mk H
       clear H
       go_wp2
       go_meet
       case rel => exact ⟨_, (false), (by first | rfl | (simp; done) | (simp [*]; done)), H', ⟨by have := HK1.out; have := HK2.out; first | omega | exact Nat.le_refl _⟩, ⟨by (with_reducible repeat (first | apply Kd.R_alloc | apply Kd.R_drewN | apply Kd.R_drew)); exact HO_8.out⟩, ⟨by repeat (first | (with_reducible first | exact HB.out | apply below_alloc | apply pw_below_drewN | apply below_drew1) | exact HB.out)⟩⟩
      rw [if_pos c8] at H
      have c8b0 : decide (x11_2 < 2) = true := decide_eq_true c8
      clear c8
      (first | rw [c8b0] | (simp only [i64_w, i32_w]; rw [c8b0]) | skip)
      have H' := Aside0.mk H
      clear H
      go_wp2
      go_meet
      case rel => exact ⟨_, (!x10_2), (by first | rfl | (simp; done) | (simp [*]; done)), H', ⟨by have := HK1.out; have := HK2.out; first | omega | exact Nat.le_refl _⟩, ⟨by (with_reducible repeat (first | apply Kd.R_alloc | apply Kd.R_drewN | apply Kd.R_drew)); exact HO_8.out⟩, ⟨by repeat (first | (with_reducible first | exact HB.out | apply below_alloc | apply pw_below_drewN | apply below_drew1) | exact HB.out)⟩⟩
     case rest =>
      clear HC7
      try clear p2
      try clear c5
      try clear c6
      try clear c6b0
      try clear c8
      try clear c8b0
      try clear p2
      obtain ⟨kq, x25_6, rfl, HA, HJ6, HO_8, HB⟩ := hcut
      cases kq with
      | zero => exact absurd HA.out (by simp [spec_l2Moved.j2])
      | succ kj6 =>
       have H := HA.out
       clear HA
       simp only [spec_l2Moved.j2] at H
       by_cases c9 : x25_6 = true
       rotate_left
       ·replace c9 := Bool.eq_false_iff.mpr c9
        subst c9
        have H1 : (if x10_2 = true then (spec_l2Moved.l0 kj6 l0 a1 a2 x8_2 (wrap64 (x9_1 + 1))) else (some ((([] : List (S25))), false))) = some (r1, r2) := by rw [if_neg (show ¬ (false = true) by decide)] at H; exact H
        clear H
        have H := H1
        clear H1
        by_cases c39 : x10_2 = true
        ·subst c39
         have H1 : (spec_l2Moved.l0 kj6 l0 a1 a2 x8_2 (wrap64 (x9_1 + 1))) = some (r1, r2) := by rw [if_pos rfl] at H; exact H
         clear H
         have H := H1
         clear H1
         have H' := Aside0.mk H
         clear H
         go_wp2
         go_roundg kj6
         case measure => have := HK1.out; have := HK2.out; have := HJ6.out; omega
         case rel => exact ⟨(x8_2), (wrap64 (x9_1 + 1)), (by first | rfl | (simp; done) | (simp [*]; done)), H', ⟨by have := HK1.out; have := HK2.out; have := HJ6.out; omega⟩, ⟨by (with_reducible repeat (first | apply Kd.R_alloc | apply Kd.R_drewN | apply Kd.R_drew)); exact HO_8.out⟩, ⟨by repeat (first | (with_reducible first | exact HB.out | apply below_alloc | apply pw_below_drewN | apply below_drew1) | exact HB.out)⟩⟩
        replace c39 := Bool.eq_false_iff.mpr c39
        subst c39
        have H1 : (some ((([] : List (S25))), false)) = some (r1, r2) := by rw [if_neg (show ¬ (false = true) by decide)] at H; exact H
        clear H
        have H := H1
        clear H1
        obtain ⟨y425, hy425⟩ : ∃ y_ : List (S25), y_ = (([] : List (S25))) := ⟨_, rfl⟩
        replace H : (some (y425, false)) = some (r1, r2) := by first | (rw [hy425]; with_reducible exact H) | (have H2_ := (Option.bind_some _ _).symm.trans H; rw [hy425]; with_reducible exact H2_) | (have H2_ := (Option.bind_some _ _).symm.trans H; with_reducible exact H2_) | with_reducible exact H | (rw [hy425]; exact H) | exact H
        have Ny425 := Aside0.mk hy425
        clear hy425
        simp only [Option.some.injEq, Prod.mk.injEq] at H
        obtain ⟨rfl, rfl⟩ := H
        go_wp2_with (first | ((with_reducible refine gate_dst (N := 58) rfl ?_); refine Kd.R_lit k25 _ 25 ?hg (N := 58) ?hd (xs := ([] : List (S25))) (inner := []) (ok := fun _ => True) (okp := fun _ => True) ?hr ?hp (fun _ hk => hk) trivial (Below.refl _ _) (Nat.le_refl _) (by simp) ?_; (case hd => rfl); (case hg => rfl); (case hr => first | (go_simp; done) | (go_simp; rfl)); (case hp => exact (Reps.none _ _)); intro v426 w40 ho41 hb hg_ hnew_; clear hg_ hnew_; (first | rw [← Ny425.out] at ho41 | (simp only [Int.reduceToNat] at ho41; rw [← Ny425.out] at ho41)); have n0_ := Aside0.mk (Kd.R_elder' (by (with_reducible repeat (first | apply Kd.R_alloc | apply Kd.R_drewN | apply Kd.R_drew)); exact HO_8.out) (Kd.R_base ho41) hb); have n1_ := Aside0.mk (Kd.R_lower (Kd.R_new' ho41 (Kd.R_lt (by (with_reducible repeat (first | apply Kd.R_alloc | apply Kd.R_drewN | apply Kd.R_drew)); exact HO_8.out))) (below_size (by repeat (first | (with_reducible first | exact HB.out | apply below_alloc | apply pw_below_drewN | apply below_drew1) | exact HB.out)))); have n2_ := Aside0.mk (below_step (by repeat (first | (with_reducible first | exact HB.out | apply below_alloc | apply pw_below_drewN | apply below_drew1) | exact HB.out)) hb); clear HO_8; clear HB; have HO_8 := n0_; have HO427 := n1_; have HB := n2_; clear n0_ n1_ n2_; clear hb ho41))
        go_ret2
        exact ⟨_, by first | rfl | (simp [errW_none, errW_some] <;> rfl) | (simp [*, errW_none, errW_some] <;> rfl), by (with_reducible repeat (first | apply Kd.R_alloc | apply Kd.R_drewN | apply Kd.R_drew)); exact Kd.R_mono HO427.out (fun _ hk => trivial), by repeat (first | (with_reducible first | exact HB.out | apply below_alloc | apply pw_below_drewN | apply below_drew1) | exact HB.out)⟩
       subst c9
       have H1 : (if 0 ≤ x9_1 then (if x9_1 < (l0.length : Int) then ((spec_ToneValid.f (wrap64 (((rd_T25 l0 x9_1).f0) + a1)) (x11_2 == 1)).bind fun t430 => (if t430 = true then ((spec_l1Height.f (wrap64 (((rd_T25 l0 x9_1).f0) + a1)) (x11_2 == 1)).bind fun t431 => ((spec_l1Height.f ((rd_T25 l0 x9_1).f0) ((rd_T25 l0 x9_1).f1)).bind fun t433 => (if (wrap64 (t431 - t433)) = a2 then (if x8_2.length < 8796093022208 then (spec_l2Moved.l1 kj6 l0 a1 a2 (x8_2 ++ [(⟨wrap64 (((rd_T25 l0 x9_1).f0) + a1), (x11_2 == 1)⟩ : S25)]) x9_1 true (wrap64 (x11_2 + 1))) else (none)) else (spec_l2Moved.l1 kj6 l0 a1 a2 x8_2 x9_1 x10_2 (wrap64 (x11_2 + 1)))))) else (spec_l2Moved.l1 kj6 l0 a1 a2 x8_2 x9_1 x10_2 (wrap64 (x11_2 + 1))))) else (none)) else (none)) = some (r1, r2) := by rw [if_pos rfl] at H; exact H
       clear H
       have H := H1
       clear H1
       by_cases c10 : 0 ≤ x9_1
       rotate_left
       ·rw [if_neg c10] at H
        exact absurd H (by simp)
       rw [if_pos c10] at H
       have c10b0 : decide (0 ≤ x9_1) = true := decide_eq_true c10
       clear c10
       by_cases c11 : x9_1 < (l0.length : Int)
       rotate_left
       ·rw [if_neg c11] at H
        exact absurd H (by simp)
       rw [if_pos c11] at H
       have c11b0 : decide (x9_1 < (l0.length : Int)) = true := decide_eq_true c11
       clear c11
       replace H := Option.bind_eq_some_iff.mp H
       obtain ⟨t430, A120, H⟩ := H
       replace H : (if t430 = true then ((spec_l1Height.f (wrap64 (((rd_T25 l0 x9_1).f0) + a1)) (x11_2 == 1)).bind fun t431 => ((spec_l1Height.f ((rd_T25 l0 x9_1).f0) ((rd_T25 l0 x9_1).f1)).bind fun t433 => (if (wrap64 (t431 - t433)) = a2 then (if x8_2.length < 8796093022208 then (spec_l2Moved.l1 kj6 l0 a1 a2 (x8_2 ++ [(⟨wrap64 (((rd_T25 l0 x9_1).f0) + a1), (x11_2 == 1)⟩ : S25)]) x9_1 true (wrap64 (x11_2 + 1))) else (none)) else (spec_l2Moved.l1 kj6 l0 a1 a2 x8_2 x9_1 x10_2 (wrap64 (x11_2 + 1)))))) else (spec_l2Moved.l1 kj6 l0 a1 a2 x8_2 x9_1 x10_2 (wrap64 (x11_2 + 1)))) = some (r1, r2) := H
       have A12 := Aside0.mk A120
       clear A120
       by_cases c13 : t430 = true
       rotate_left
       ·replace c13 := Bool.eq_false_iff.mpr c13
        subst c13
        have H1 : (spec_l2Moved.l1 kj6 l0 a1 a2 x8_2 x9_1 x10_2 (wrap64 (x11_2 + 1))) = some (r1, r2) := by rw [if_neg (show ¬ (false = true) by decide)] at H; exact H
        clear H
        have H := H1
        clear H1
        have H' := Aside0.mk H
        clear H
        have p428 : 0 ≤ (x9_1 : Int) := of_decide_eq_true (by first | (with_reducible assumption) | assumption)
        have q428 : x9_1 < (l0.length : Int) := of_decide_eq_true (by first | (with_reducible assumption) | assumption)
        obtain ⟨ad428, e428, hx428_0, hx428_1⟩ := at_T25 HR0.out x9_1 p428 q428
        cases e428
        replace hx428_0 := (HB.out.cell (World.block_lt_of_cell? w _ hx428_0)).trans hx428_0
        replace hx428_1 := (HB.out.cell (World.block_lt_of_cell? w _ hx428_1)).trans hx428_1
        replace p428 := eq_true p428
        replace q428 := eq_true q428
        try go_wp2_with (first | ((with_reducible refine gate_dst (N := 12) rfl ?_); refine box_event ?hg (N := 12) ?hd (cs := #[.int .i64 0, .bool false]) (t := 25) ?hr ?_; (case hd => rfl); (case hg => rfl); (case hr => first | (go_simp; done) | (go_simp; rfl)); intro gb429 hg w34 hbox hb; have n0_ := Aside0.mk (Kd.R_below (Kd.R_elderB (by (with_reducible repeat (first | apply Kd.R_alloc | apply Kd.R_drewN | apply Kd.R_drew)); exact HO_8.out) gb429 (Nat.le_of_eq hg.symm)) hb); have n1_ := Aside0.mk (below_step (by repeat (first | (with_reducible first | exact HB.out | apply below_alloc | apply pw_below_drewN | apply below_drew1) | exact HB.out)) hb); have n2_ := Aside0.mk (hbox); have n3_ := Aside0.mk ((by rw [hg]; exact (below_size (by repeat (first | (with_reducible first | exact HB.out | apply below_alloc | apply pw_below_drewN | apply below_drew1) | exact HB.out))) : w.heap.size ≤ gb429)); have n4_ := Aside0.mk ((by rw [hg]; exact (below_size (by repeat (first | (with_reducible first | exact HB.out | apply below_alloc | apply pw_below_drewN | apply below_drew1) | exact HB.out))) : w.heap.size ≤ gb429)); clear HO_8; clear HB; have HO_8 := n0_; have HB := n1_; have BK429 := n2_; have GW429 := n3_; have GE429 := n4_; clear n0_ n1_ n2_ n3_ n4_; clear hb hbox hg; have hcz35_0 : w34.cell? ⟨gb429, 0, none⟩ = some (.int .i64 0) := (blk_cell BK429.out 0).trans rfl; have hcz35_1 : w34.cell? ⟨gb429, 1, none⟩ = some (.bool false) := (blk_cell BK429.out 1).trans rfl; have hfz35_0 := blk_frozen BK429.out 0; have hfz35_1 := blk_frozen BK429.out 1))
        have n0_ : Aside0 (Kd.R k25 25 ((w34.setCell ⟨gb429, 0, none⟩ (.int .i64 (wrap64 (((rd_T25 l0 x9_1).f0) + a1)))).setCell ⟨gb429, 1, none⟩ (.bool (x11_2 == 1))) w.heap.size (fun k_ => k_ ≠ gb429) u8 x8_2) := ⟨by (with_reducible repeat (first | apply Kd.R_alloc | apply Kd.R_drewN | apply Kd.R_drew)); exact Kd.R_mono (Kd.R_far (p := ⟨gb429, 1, none⟩) (Kd.R_far (p := ⟨gb429, 0, none⟩) (Kd.R_mono HO_8.out (fun k_ hk => (⟨hk, hk.2⟩ : _ ∧ k_ ≠ gb429))) (fun _ hk => hk.2) (.int .i64 (wrap64 (((rd_T25 l0 x9_1).f0) + a1)))) (fun _ hk => hk.2) (.bool (x11_2 == 1))) (fun _ hk => hk.1.2)⟩
        have n1_ : Aside0 (((w34.setCell ⟨gb429, 0, none⟩ (.int .i64 (wrap64 (((rd_T25 l0 x9_1).f0) + a1)))).setCell ⟨gb429, 1, none⟩ (.bool (x11_2 == 1))).heap[gb429]? = some (.cells #[.int .i64 (wrap64 (((rd_T25 l0 x9_1).f0) + a1)), .bool (x11_2 == 1)] 25 (0, 0))) := ⟨by (with_reducible repeat (first | refine blk_drewN ?_ _ | refine blk_drew ?_ | refine blk_alloc ?_ _)); refine blk_put (cs := #[.int .i64 (wrap64 (((rd_T25 l0 x9_1).f0) + a1)), .bool false]) ?_ 1 _ rfl; (with_reducible repeat (first | refine blk_drewN ?_ _ | refine blk_drew ?_ | refine blk_alloc ?_ _)); refine blk_put (cs := #[.int .i64 0, .bool false]) ?_ 0 _ rfl; (with_reducible repeat (first | refine blk_drewN ?_ _ | refine blk_drew ?_ | refine blk_alloc ?_ _)); exact BK429.out⟩
        have n2_ : Aside0 (Below w.heap.size w ((w34.setCell ⟨gb429, 0, none⟩ (.int .i64 (wrap64 (((rd_T25 l0 x9_1).f0) + a1)))).setCell ⟨gb429, 1, none⟩ (.bool (x11_2 == 1)))) := ⟨by repeat (first | (with_reducible first | exact HB.out | apply below_alloc | apply pw_below_drewN | apply below_drew1 | refine below_set ?_ GE429.out) | exact HB.out)⟩
        (try clear HO_8)
        (try clear BK429)
        (try clear HB)
        generalize ((w34.setCell ⟨gb429, 0, none⟩ (.int .i64 (wrap64 (((rd_T25 l0 x9_1).f0) + a1)))).setCell ⟨gb429, 1, none⟩ (.bool (x11_2 == 1))) = w36 at n0_ n1_ n2_ ⊢
        have HO_8 := n0_
        have BK429 := n1_
        have HB := n2_
        clear n0_ n1_ n2_
        have n0_ := Aside0.mk (Kd.R_drew HO_8.out)
        have n1_ := Aside0.mk (blk_drew BK429.out)
        have n2_ := Aside0.mk (below_drew1 HB.out)
        clear HO_8
        clear BK429
        clear HB
        have HO_8 := n0_
        have BK429 := n1_
        have HB := n2_
        clear n0_ n1_ n2_
        refine start_ (n := 14) (S := fun w' => w'.cell? ⟨gb429, 0, none⟩ = some (.int .i64 (wrap64 (((rd_T25 l0 x9_1).f0) + a1))) ∧ w'.cell? ⟨gb429, 1, none⟩ = some (.bool (x11_2 == 1))) (ds := []) #[false, false, false, false, false, false, false, false, false, false, false, false, false, false] (by kernel_rfl) rfl rfl ⟨(blk_cell BK429.out 0).trans rfl, (blk_cell BK429.out 1).trans rfl⟩ (fun hHeld => ?_); refine with_tabW spec_l2Moved.tab10 spec_l2Moved.bits10 (fun HT_ HW_ => ?_)
        generalize w36.drew = w37 at HO_8 BK429 HB hHeld ⊢
        refine take_ (i := 0) (N := some 38) (v := ?_) (a' := ?_) #[true, false, false, false, false, false, false, false, false, false, false, false, false, false] rfl rfl (take_ofW HT_.out HW_.out (by kernel_rfl)) (fun _ _ _ h => h) (Or.inl ⟨by rfl, ?_⟩) hHeld ?_ ?_
        rotate_left
        ·rintro w' ⟨s0, s1⟩
         go_simp
         with_reducible rfl
        rotate_left
        ·simp only [Act.put, List.setIfInBounds_toArray, List.set_cons_zero, List.set_cons_succ, i64_w, i32_w]
         rfl
        refine one_ (i := 1) (N := some 39) #[true, true, false, false, false, false, false, false, false, false, false, false, false, false] rfl rfl (one_of HT_.out (by kernel_rfl)) (by decide) (fun K hK => ?_)
        refine goes_ Tryd.func37 (by kernel_rfl) rfl #[.agg #[.int .i64 (wrap64 (((rd_T25 l0 x9_1).f0) + a1)), .bool (x11_2 == 1)]] (by rfl) rfl rfl (by (try simp only [List.map_toArray, List.map_cons, List.map_nil]); first | done | rfl | (simp only [List.length_drop, List.length_take]; rfl)) ?_
        with_reducible refine (spec_ToneValid.calls (wrap64 (((rd_T25 l0 x9_1).f0) + a1)) (x11_2 == 1) false _ A12.out).mono ?_
        rintro e w38 ⟨rfl, hb⟩
        refine ⟨_, rfl, ?_⟩
        have n0_ := Aside0.mk (Kd.R_below (by (with_reducible repeat (first | apply Kd.R_alloc | apply Kd.R_drewN | apply Kd.R_drew)); exact HO_8.out) hb)
        have n1_ := Aside0.mk (blk_below (g := gb429) (o := .cells #[.int .i64 (wrap64 (((rd_T25 l0 x9_1).f0) + a1)), .bool (x11_2 == 1)] 25 (0, 0)) (by (with_reducible repeat (first | refine blk_drewN ?_ _ | refine blk_drew ?_ | refine blk_alloc ?_ _)); exact BK429.out) hb)
        have n2_ := Aside0.mk (below_step (by repeat (first | (with_reducible first | exact HB.out | apply below_alloc | apply pw_below_drewN | apply below_drew1 | refine below_set ?_ GE429.out) | exact HB.out)) hb)
        clear HO_8
        clear BK429
        clear HB
        have HO_8 := n0_
        have BK429 := n1_
        have HB := n2_
        clear n0_ n1_ n2_
        (try clear hb)
        (try clear hb2)
        (try clear hk)
        (try clear hi)
        refine hK.out _ _ ⟨(blk_cell BK429.out 0).trans rfl, (blk_cell BK429.out 1).trans rfl⟩ (fun hHeld => ?_)
        clear hK K
        refine norm_ (a' := ?_) ?_ ?_
        rotate_left
        ·show Act.put _ (some 39) _ = _
         simp only [Act.put, List.setIfInBounds_toArray, List.set_cons_zero, List.set_cons_succ, i64_w, i32_w]
         rfl
        refine pure_ (i := 2) (N := some 40) (v := ?_) (a' := ?_) #[true, true, true, false, false, false, false, false, false, false, false, false, false, false] rfl rfl (any_of HT_.out (by kernel_rfl)) (fun _ _ _ h => h) (Or.inl ⟨by rfl, ?_⟩) ?_ ?_
        rotate_left
        ·intro w'
         go_simp
         with_reducible rfl
        rotate_left
        ·simp only [Act.put, List.setIfInBounds_toArray, List.set_cons_zero, List.set_cons_succ, i64_w, i32_w]
         rfl
        refine pure_ (i := 3) (N := some 41) (v := undef) (a' := ?_) #[true, true, true, true, false, false, false, false, false, false, false, false, false, false] rfl rfl (any_of HT_.out (by kernel_rfl)) (fun _ _ _ h => h) (Or.inr ⟨by rfl, rfl⟩) ?_ ?_
        rotate_left
        ·simp only [Act.put, List.setIfInBounds_toArray, List.set_cons_zero, List.set_cons_succ, i64_w, i32_w]
         rfl
        refine pure_ (i := 4) (N := some 42) (v := undef) (a' := ?_) #[true, true, true, true, true, false, false, false, false, false, false, false, false, false] rfl rfl (any_of HT_.out (by kernel_rfl)) (fun _ _ _ h => h) (Or.inr ⟨by rfl, rfl⟩) ?_ ?_
        rotate_left
        ·simp only [Act.put, List.setIfInBounds_toArray, List.set_cons_zero, List.set_cons_succ, i64_w, i32_w]
         rfl
        refine pure_ (i := 5) (N := some 43) (v := undef) (a' := ?_) #[true, true, true, true, true, true, false, false, false, false, false, false, false, false] rfl rfl (any_of HT_.out (by kernel_rfl)) (fun _ _ _ h => h) (Or.inr ⟨by rfl, rfl⟩) ?_ ?_
        rotate_left
        ·simp only [Act.put, List.setIfInBounds_toArray, List.set_cons_zero, List.set_cons_succ, i64_w, i32_w]
         rfl
        refine pure_ (i := 6) (N := some 44) (v := undef) (a' := ?_) #[true, true, true, true, true, true, true, false, false, false, false, false, false, false] rfl rfl (any_of HT_.out (by kernel_rfl)) (fun _ _ _ h => h) (Or.inr ⟨by rfl, rfl⟩) ?_ ?_
        rotate_left
        ·simp only [Act.put, List.setIfInBounds_toArray, List.set_cons_zero, List.set_cons_succ, i64_w, i32_w]
         rfl
        refine pure_ (i := 7) (N := some 45) (v := undef) (a' := ?_) #[true, true, true, true, true, true, true, true, false, false, false, false, false, false] rfl rfl (any_of HT_.out (by kernel_rfl)) (fun _ _ _ h => h) (Or.inr ⟨by rfl, rfl⟩) ?_ ?_
        rotate_left
        ·simp only [Act.put, List.setIfInBounds_toArray, List.set_cons_zero, List.set_cons_succ, i64_w, i32_w]
         rfl
        refine pure_ (i := 8) (N := some 46) (v := undef) (a' := ?_) #[true, true, true, true, true, true, true, true, true, false, false, false, false, false] rfl rfl (any_of HT_.out (by kernel_rfl)) (fun _ _ _ h => h) (Or.inr ⟨by rfl, rfl⟩) ?_ ?_
        rotate_left
        ·simp only [Act.put, List.setIfInBounds_toArray, List.set_cons_zero, List.set_cons_succ, i64_w, i32_w]
         rfl
        refine pure_ (i := 9) (N := some 47) (v := undef) (a' := ?_) #[true, true, true, true, true, true, true, true, true, true, false, false, false, false] rfl rfl (any_of HT_.out (by kernel_rfl)) (fun _ _ _ h => h) (Or.inr ⟨by rfl, rfl⟩) ?_ ?_
        rotate_left
        ·simp only [Act.put, List.setIfInBounds_toArray, List.set_cons_zero, List.set_cons_succ, i64_w, i32_w]
         rfl
        refine pure_ (i := 10) (N := some 48) (v := undef) (a' := ?_) #[true, true, true, true, true, true, true, true, true, true, true, false, false, false] rfl rfl (any_of HT_.out (by kernel_rfl)) (fun _ _ _ h => h) (Or.inr ⟨by rfl, rfl⟩) ?_ ?_
        rotate_left
        ·simp only [Act.put, List.setIfInBounds_toArray, List.set_cons_zero, List.set_cons_succ, i64_w, i32_w]
         rfl
        refine pure_ (i := 11) (N := some 49) (v := undef) (a' := ?_) #[true, true, true, true, true, true, true, true, true, true, true, true, false, false] rfl rfl (any_of HT_.out (by kernel_rfl)) (fun _ _ _ h => h) (Or.inr ⟨by rfl, rfl⟩) ?_ ?_
        rotate_left
        ·simp only [Act.put, List.setIfInBounds_toArray, List.set_cons_zero, List.set_cons_succ, i64_w, i32_w]
         rfl
        refine pure_ (i := 12) (N := some 50) (v := undef) (a' := ?_) #[true, true, true, true, true, true, true, true, true, true, true, true, true, false] rfl rfl (any_of HT_.out (by kernel_rfl)) (fun _ _ _ h => h) (Or.inr ⟨by rfl, rfl⟩) ?_ ?_
        rotate_left
        ·simp only [Act.put, List.setIfInBounds_toArray, List.set_cons_zero, List.set_cons_succ, i64_w, i32_w]
         rfl
        refine pure_ (i := 13) (N := some 51) (v := ?_) (a' := ?_) #[true, true, true, true, true, true, true, true, true, true, true, true, true, true] rfl rfl (any_of HT_.out (by kernel_rfl)) (fun _ _ _ h => h) (Or.inl ⟨by rfl, ?_⟩) ?_ ?_
        rotate_left
        ·intro w'
         go_simp
         with_reducible rfl
        rotate_left
        ·simp only [Act.put, List.setIfInBounds_toArray, List.set_cons_zero, List.set_cons_succ, i64_w, i32_w]
         rfl
        refine done_ (done_of HT_.out (by kernel_rfl)) ?_
        try go_wp2
        go_roundg kj6
        case measure => have := HK1.out; have := HK2.out; have := HJ6.out; omega
        case rel => exact ⟨(x8_2), (x10_2), (wrap64 (x11_2 + 1)), (by first | rfl | (simp; done) | (simp [*]; done)), (by first | rfl | (simp; done) | (simp [*]; done)), H', ⟨by have := HK1.out; have := HK2.out; have := HJ6.out; omega⟩, ⟨by (with_reducible repeat (first | apply Kd.R_alloc | apply Kd.R_drewN | apply Kd.R_drew)); exact Kd.R_mono HO_8.out (fun _ hk => trivial)⟩, ⟨by repeat (first | (with_reducible first | exact HB.out | apply below_alloc | apply pw_below_drewN | apply below_drew1 | refine below_set ?_ GE429.out) | exact HB.out)⟩⟩
       subst c13
       have H1 : ((spec_l1Height.f (wrap64 (((rd_T25 l0 x9_1).f0) + a1)) (x11_2 == 1)).bind fun t431 => ((spec_l1Height.f ((rd_T25 l0 x9_1).f0) ((rd_T25 l0 x9_1).f1)).bind fun t433 => (if (wrap64 (t431 - t433)) = a2 then (if x8_2.length < 8796093022208 then (spec_l2Moved.l1 kj6 l0 a1 a2 (x8_2 ++ [(⟨wrap64 (((rd_T25 l0 x9_1).f0) + a1), (x11_2 == 1)⟩ : S25)]) x9_1 true (wrap64 (x11_2 + 1))) else (none)) else (spec_l2Moved.l1 kj6 l0 a1 a2 x8_2 x9_1 x10_2 (wrap64 (x11_2 + 1)))))) = some (r1, r2) := by rw [if_pos rfl] at H; exact H
       clear H
       have H := H1
       clear H1
       replace H := Option.bind_eq_some_iff.mp H
       obtain ⟨t431, A140, H⟩ := H
       replace H : ((spec_l1Height.f ((rd_T25 l0 x9_1).f0) ((rd_T25 l0 x9_1).f1)).bind fun t433 => (if (wrap64 (t431 - t433)) = a2 then (if x8_2.length < 8796093022208 then (spec_l2Moved.l1 kj6 l0 a1 a2 (x8_2 ++ [(⟨wrap64 (((rd_T25 l0 x9_1).f0) + a1), (x11_2 == 1)⟩ : S25)]) x9_1 true (wrap64 (x11_2 + 1))) else (none)) else (spec_l2Moved.l1 kj6 l0 a1 a2 x8_2 x9_1 x10_2 (wrap64 (x11_2 + 1))))) = some (r1, r2) := H
       have A14 := Aside0.mk A140
       clear A140
       replace H := Option.bind_eq_some_iff.mp H
       obtain ⟨t433, A150, H⟩ := H
       replace H : (if (wrap64 (t431 - t433)) = a2 then (if x8_2.length < 8796093022208 then (spec_l2Moved.l1 kj6 l0 a1 a2 (x8_2 ++ [(⟨wrap64 (((rd_T25 l0 x9_1).f0) + a1), (x11_2 == 1)⟩ : S25)]) x9_1 true (wrap64 (x11_2 + 1))) else (none)) else (spec_l2Moved.l1 kj6 l0 a1 a2 x8_2 x9_1 x10_2 (wrap64 (x11_2 + 1)))) = some (r1, r2) := H
       have A15 := Aside0.mk A150
       clear A150
       by_cases c16 : (wrap64 (t431 - t433)) = a2
       rotate_left
       ·rw [if_neg c16] at H
        have c16b0 : ((wrap64 (t431 - t433)) == a2) = false := beq_eq_false_iff_ne.mpr c16
        have c16b1 : ((wrap64 (t431 - t433)) != a2) = true := bne_iff_ne.mpr c16
        have H' := Aside0.mk H
        clear H
        have p428 : 0 ≤ (x9_1 : Int) := of_decide_eq_true (by first | (with_reducible assumption) | assumption)
        have q428 : x9_1 < (l0.length : Int) := of_decide_eq_true (by first | (with_reducible assumption) | assumption)
        obtain ⟨ad428, e428, hx428_0, hx428_1⟩ := at_T25 HR0.out x9_1 p428 q428
        cases e428
        replace hx428_0 := (HB.out.cell (World.block_lt_of_cell? w _ hx428_0)).trans hx428_0
        replace hx428_1 := (HB.out.cell (World.block_lt_of_cell? w _ hx428_1)).trans hx428_1
        replace p428 := eq_true p428
        replace q428 := eq_true q428
        try go_wp2_with (first | ((with_reducible refine gate_dst (N := 12) rfl ?_); refine box_event ?hg (N := 12) ?hd (cs := #[.int .i64 0, .bool false]) (t := 25) ?hr ?_; (case hd => rfl); (case hg => rfl); (case hr => first | (go_simp; done) | (go_simp; rfl)); intro gb429 hg w27 hbox hb; have n0_ := Aside0.mk (Kd.R_below (Kd.R_elderB (by (with_reducible repeat (first | apply Kd.R_alloc | apply Kd.R_drewN | apply Kd.R_drew)); exact HO_8.out) gb429 (Nat.le_of_eq hg.symm)) hb); have n1_ := Aside0.mk (below_step (by repeat (first | (with_reducible first | exact HB.out | apply below_alloc | apply pw_below_drewN | apply below_drew1) | exact HB.out)) hb); have n2_ := Aside0.mk (hbox); have n3_ := Aside0.mk ((by rw [hg]; exact (below_size (by repeat (first | (with_reducible first | exact HB.out | apply below_alloc | apply pw_below_drewN | apply below_drew1) | exact HB.out))) : w.heap.size ≤ gb429)); have n4_ := Aside0.mk ((by rw [hg]; exact (below_size (by repeat (first | (with_reducible first | exact HB.out | apply below_alloc | apply pw_below_drewN | apply below_drew1) | exact HB.out))) : w.heap.size ≤ gb429)); clear HO_8; clear HB; have HO_8 := n0_; have HB := n1_; have BK429 := n2_; have GW429 := n3_; have GE429 := n4_; clear n0_ n1_ n2_ n3_ n4_; clear hb hbox hg; have hcz28_0 : w27.cell? ⟨gb429, 0, none⟩ = some (.int .i64 0) := (blk_cell BK429.out 0).trans rfl; have hcz28_1 : w27.cell? ⟨gb429, 1, none⟩ = some (.bool false) := (blk_cell BK429.out 1).trans rfl; have hfz28_0 := blk_frozen BK429.out 0; have hfz28_1 := blk_frozen BK429.out 1))
        have n0_ : Aside0 (Kd.R k25 25 ((w27.setCell ⟨gb429, 0, none⟩ (.int .i64 (wrap64 (((rd_T25 l0 x9_1).f0) + a1)))).setCell ⟨gb429, 1, none⟩ (.bool (x11_2 == 1))) w.heap.size (fun k_ => k_ ≠ gb429) u8 x8_2) := ⟨by (with_reducible repeat (first | apply Kd.R_alloc | apply Kd.R_drewN | apply Kd.R_drew)); exact Kd.R_mono (Kd.R_far (p := ⟨gb429, 1, none⟩) (Kd.R_far (p := ⟨gb429, 0, none⟩) (Kd.R_mono HO_8.out (fun k_ hk => (⟨hk, hk.2⟩ : _ ∧ k_ ≠ gb429))) (fun _ hk => hk.2) (.int .i64 (wrap64 (((rd_T25 l0 x9_1).f0) + a1)))) (fun _ hk => hk.2) (.bool (x11_2 == 1))) (fun _ hk => hk.1.2)⟩
        have n1_ : Aside0 (((w27.setCell ⟨gb429, 0, none⟩ (.int .i64 (wrap64 (((rd_T25 l0 x9_1).f0) + a1)))).setCell ⟨gb429, 1, none⟩ (.bool (x11_2 == 1))).heap[gb429]? = some (.cells #[.int .i64 (wrap64 (((rd_T25 l0 x9_1).f0) + a1)), .bool (x11_2 == 1)] 25 (0, 0))) := ⟨by (with_reducible repeat (first | refine blk_drewN ?_ _ | refine blk_drew ?_ | refine blk_alloc ?_ _)); refine blk_put (cs := #[.int .i64 (wrap64 (((rd_T25 l0 x9_1).f0) + a1)), .bool false]) ?_ 1 _ rfl; (with_reducible repeat (first | refine blk_drewN ?_ _ | refine blk_drew ?_ | refine blk_alloc ?_ _)); refine blk_put (cs := #[.int .i64 0, .bool false]) ?_ 0 _ rfl; (with_reducible repeat (first | refine blk_drewN ?_ _ | refine blk_drew ?_ | refine blk_alloc ?_ _)); exact BK429.out⟩
        have n2_ : Aside0 (Below w.heap.size w ((w27.setCell ⟨gb429, 0, none⟩ (.int .i64 (wrap64 (((rd_T25 l0 x9_1).f0) + a1)))).setCell ⟨gb429, 1, none⟩ (.bool (x11_2 == 1)))) := ⟨by repeat (first | (with_reducible first | exact HB.out | apply below_alloc | apply pw_below_drewN | apply below_drew1 | refine below_set ?_ GE429.out) | exact HB.out)⟩
        (try clear HO_8)
        (try clear BK429)
        (try clear HB)
        generalize ((w27.setCell ⟨gb429, 0, none⟩ (.int .i64 (wrap64 (((rd_T25 l0 x9_1).f0) + a1)))).setCell ⟨gb429, 1, none⟩ (.bool (x11_2 == 1))) = w29 at n0_ n1_ n2_ ⊢
        have HO_8 := n0_
        have BK429 := n1_
        have HB := n2_
        clear n0_ n1_ n2_
        have n0_ := Aside0.mk (Kd.R_drew HO_8.out)
        have n1_ := Aside0.mk (blk_drew BK429.out)
        have n2_ := Aside0.mk (below_drew1 HB.out)
        clear HO_8
        clear BK429
        clear HB
        have HO_8 := n0_
        have BK429 := n1_
        have HB := n2_
        clear n0_ n1_ n2_
        have p432 : 0 ≤ (x9_1 : Int) := of_decide_eq_true (by first | (with_reducible assumption) | assumption)
        have q432 : x9_1 < (l0.length : Int) := of_decide_eq_true (by first | (with_reducible assumption) | assumption)
        obtain ⟨ad432, e432, hx432_0, hx432_1⟩ := at_T25 HR0.out x9_1 p432 q432
        have hw432_1 := hx432_1
        have hw432_0 := hx432_0
        obtain rfl : ad428 = ad432 := (by injection e432)
        replace hx432_0 := (HB.out.cell (World.block_lt_of_cell? w _ hx432_0)).trans hx432_0
        replace hx432_1 := (HB.out.cell (World.block_lt_of_cell? w _ hx432_1)).trans hx432_1
        replace p432 := eq_true p432
        replace q432 := eq_true q432
        refine start_ (n := 14) (S := fun w' => w'.cell? ⟨gb429, 0, none⟩ = some (.int .i64 (wrap64 (((rd_T25 l0 x9_1).f0) + a1))) ∧ w'.cell? ⟨gb429, 1, none⟩ = some (.bool (x11_2 == 1)) ∧ w'.cell? (ad428.add ((x9_1).toNat * 2)) = some (.int .i64 ((rd_T25 l0 x9_1).f0)) ∧ w'.cell? ⟨(ad428.add ((x9_1).toNat * 2)).block, (ad428.add ((x9_1).toNat * 2)).off + 1, none⟩ = some (.bool ((rd_T25 l0 x9_1).f1))) (ds := []) #[false, false, false, false, false, false, false, false, false, false, false, false, false, false] (by kernel_rfl) rfl rfl ⟨(blk_cell BK429.out 0).trans rfl, (blk_cell BK429.out 1).trans rfl, ((HB.out.cell (World.block_lt_of_cell? w _ hw432_0)).trans hw432_0), ((HB.out.cell (World.block_lt_of_cell? w _ hw432_1)).trans hw432_1)⟩ (fun hHeld => ?_); refine with_tabW spec_l2Moved.tab10 spec_l2Moved.bits10 (fun HT_ HW_ => ?_)
        generalize w29.drew = w30 at HO_8 BK429 HB hx432_0 hx432_1 hHeld ⊢
        refine take_ (i := 0) (N := some 38) (v := ?_) (a' := ?_) #[true, false, false, false, false, false, false, false, false, false, false, false, false, false] rfl rfl (take_ofW HT_.out HW_.out (by kernel_rfl)) (fun _ _ _ h => h) (Or.inl ⟨by rfl, ?_⟩) hHeld ?_ ?_
        rotate_left
        ·rintro w' ⟨s0, s1, s2, s3⟩
         go_simp
         with_reducible rfl
        rotate_left
        ·simp only [Act.put, List.setIfInBounds_toArray, List.set_cons_zero, List.set_cons_succ, i64_w, i32_w]
         rfl
        refine one_ (i := 1) (N := some 39) #[true, true, false, false, false, false, false, false, false, false, false, false, false, false] rfl rfl (one_of HT_.out (by kernel_rfl)) (by decide) (fun K hK => ?_)
        refine goes_ Tryd.func37 (by kernel_rfl) rfl #[.agg #[.int .i64 (wrap64 (((rd_T25 l0 x9_1).f0) + a1)), .bool (x11_2 == 1)]] (by rfl) rfl rfl (by (try simp only [List.map_toArray, List.map_cons, List.map_nil]); first | done | rfl | (simp only [List.length_drop, List.length_take]; rfl)) ?_
        with_reducible refine (spec_ToneValid.calls (wrap64 (((rd_T25 l0 x9_1).f0) + a1)) (x11_2 == 1) true _ A12.out).mono ?_
        rintro e w31 ⟨rfl, hb⟩
        refine ⟨_, rfl, ?_⟩
        have n0_ := Aside0.mk (Kd.R_below (by (with_reducible repeat (first | apply Kd.R_alloc | apply Kd.R_drewN | apply Kd.R_drew)); exact HO_8.out) hb)
        have n1_ := Aside0.mk (blk_below (g := gb429) (o := .cells #[.int .i64 (wrap64 (((rd_T25 l0 x9_1).f0) + a1)), .bool (x11_2 == 1)] 25 (0, 0)) (by (with_reducible repeat (first | refine blk_drewN ?_ _ | refine blk_drew ?_ | refine blk_alloc ?_ _)); exact BK429.out) hb)
        have n2_ := Aside0.mk (below_step (by repeat (first | (with_reducible first | exact HB.out | apply below_alloc | apply pw_below_drewN | apply below_drew1 | refine below_set ?_ GE429.out) | exact HB.out)) hb)
        clear HO_8
        clear BK429
        clear HB
        have HO_8 := n0_
        have BK429 := n1_
        have HB := n2_
        clear n0_ n1_ n2_
        (try clear hb)
        (try clear hb2)
        (try clear hk)
        (try clear hi)
        refine hK.out _ _ ⟨(blk_cell BK429.out 0).trans rfl, (blk_cell BK429.out 1).trans rfl, ((HB.out.cell (World.block_lt_of_cell? w _ hw432_0)).trans hw432_0), ((HB.out.cell (World.block_lt_of_cell? w _ hw432_1)).trans hw432_1)⟩ (fun hHeld => ?_)
        clear hK K
        refine norm_ (a' := ?_) ?_ ?_
        rotate_left
        ·show Act.put _ (some 39) _ = _
         simp only [Act.put, List.setIfInBounds_toArray, List.set_cons_zero, List.set_cons_succ, i64_w, i32_w]
         rfl
        refine pure_ (i := 2) (N := some 40) (v := ?_) (a' := ?_) #[true, true, true, false, false, false, false, false, false, false, false, false, false, false] rfl rfl (any_of HT_.out (by kernel_rfl)) (fun _ _ _ h => h) (Or.inl ⟨by rfl, ?_⟩) ?_ ?_
        rotate_left
        ·intro w'
         go_simp
         with_reducible rfl
        rotate_left
        ·simp only [Act.put, List.setIfInBounds_toArray, List.set_cons_zero, List.set_cons_succ, i64_w, i32_w]
         rfl
        refine pure_ (i := 5) (N := some 43) (v := ?_) (a' := ?_) #[true, true, true, false, false, true, false, false, false, false, false, false, false, false] rfl rfl (any_of HT_.out (by kernel_rfl)) (fun _ _ _ h => h) (Or.inl ⟨by rfl, ?_⟩) ?_ ?_
        rotate_left
        ·intro w'
         go_simp
         with_reducible rfl
        rotate_left
        ·simp only [Act.put, List.setIfInBounds_toArray, List.set_cons_zero, List.set_cons_succ, i64_w, i32_w]
         rfl
        refine pure_ (i := 6) (N := some 44) (v := ?_) (a' := ?_) #[true, true, true, false, false, true, true, false, false, false, false, false, false, false] rfl rfl (any_of HT_.out (by kernel_rfl)) (fun _ _ _ h => h) (Or.inl ⟨by rfl, ?_⟩) ?_ ?_
        rotate_left
        ·intro w'
         go_simp
         with_reducible rfl
        rotate_left
        ·simp only [Act.put, List.setIfInBounds_toArray, List.set_cons_zero, List.set_cons_succ, i64_w, i32_w]
         rfl
        refine pure_ (i := 7) (N := some 45) (v := ?_) (a' := ?_) #[true, true, true, false, false, true, true, true, false, false, false, false, false, false] rfl rfl (any_of HT_.out (by kernel_rfl)) (fun _ _ _ h => h) (Or.inl ⟨by rfl, ?_⟩) ?_ ?_
        rotate_left
        ·intro w'
         go_simp
         with_reducible rfl
        rotate_left
        ·simp only [Act.put, List.setIfInBounds_toArray, List.set_cons_zero, List.set_cons_succ, i64_w, i32_w]
         rfl
        refine pure_ (i := 11) (N := some 49) (v := ?_) (a' := ?_) #[true, true, true, false, false, true, true, true, false, false, false, true, false, false] rfl rfl (any_of HT_.out (by kernel_rfl)) (fun _ _ _ h => h) (Or.inl ⟨by rfl, ?_⟩) ?_ ?_
        rotate_left
        ·intro w'
         go_simp
         with_reducible rfl
        rotate_left
        ·simp only [Act.put, List.setIfInBounds_toArray, List.set_cons_zero, List.set_cons_succ, i64_w, i32_w]
         rfl
        refine take_ (i := 3) (N := some 41) (v := ?_) (a' := ?_) #[true, true, true, true, false, true, true, true, false, false, false, true, false, false] rfl rfl (take_ofW HT_.out HW_.out (by kernel_rfl)) (fun _ _ _ h => h) (Or.inl ⟨by rfl, ?_⟩) hHeld ?_ ?_
        rotate_left
        ·rintro w' ⟨s0, s1, s2, s3⟩
         go_simp
         with_reducible rfl
        rotate_left
        ·simp only [Act.put, List.setIfInBounds_toArray, List.set_cons_zero, List.set_cons_succ, i64_w, i32_w]
         rfl
        refine take_ (i := 8) (N := some 46) (v := ?_) (a' := ?_) #[true, true, true, true, false, true, true, true, true, false, false, true, false, false] rfl rfl (take_ofW HT_.out HW_.out (by kernel_rfl)) (fun _ _ _ h => h) (Or.inl ⟨by rfl, ?_⟩) hHeld ?_ ?_
        rotate_left
        ·rintro w' ⟨s0, s1, s2, s3⟩
         go_simp
         with_reducible rfl
        rotate_left
        ·simp only [Act.put, List.setIfInBounds_toArray, List.set_cons_zero, List.set_cons_succ, i64_w, i32_w]
         rfl
        refine one_ (i := 4) (N := some 42) #[true, true, true, true, true, true, true, true, true, false, false, true, false, false] rfl rfl (one_of HT_.out (by kernel_rfl)) (by decide) (fun K hK => ?_)
        refine goes_ Tryd.func59 (by kernel_rfl) rfl #[.agg #[.int .i64 (wrap64 (((rd_T25 l0 x9_1).f0) + a1)), .bool (x11_2 == 1)]] (by rfl) rfl rfl (by (try simp only [List.map_toArray, List.map_cons, List.map_nil]); first | done | rfl | (simp only [List.length_drop, List.length_take]; rfl)) ?_
        with_reducible refine (spec_l1Height.calls (wrap64 (((rd_T25 l0 x9_1).f0) + a1)) (x11_2 == 1) t431 _ A14.out).mono ?_
        rintro e w32 ⟨rfl, hb⟩
        refine ⟨_, rfl, ?_⟩
        have n0_ := Aside0.mk (Kd.R_below (by (with_reducible repeat (first | apply Kd.R_alloc | apply Kd.R_drewN | apply Kd.R_drew)); exact HO_8.out) hb)
        have n1_ := Aside0.mk (blk_below (g := gb429) (o := .cells #[.int .i64 (wrap64 (((rd_T25 l0 x9_1).f0) + a1)), .bool (x11_2 == 1)] 25 (0, 0)) (by (with_reducible repeat (first | refine blk_drewN ?_ _ | refine blk_drew ?_ | refine blk_alloc ?_ _)); exact BK429.out) hb)
        have n2_ := Aside0.mk (below_step (by repeat (first | (with_reducible first | exact HB.out | apply below_alloc | apply pw_below_drewN | apply below_drew1 | refine below_set ?_ GE429.out) | exact HB.out)) hb)
        clear HO_8
        clear BK429
        clear HB
        have HO_8 := n0_
        have BK429 := n1_
        have HB := n2_
        clear n0_ n1_ n2_
        (try clear hb)
        (try clear hb2)
        (try clear hk)
        (try clear hi)
        refine hK.out _ _ ⟨(blk_cell BK429.out 0).trans rfl, (blk_cell BK429.out 1).trans rfl, ((HB.out.cell (World.block_lt_of_cell? w _ hw432_0)).trans hw432_0), ((HB.out.cell (World.block_lt_of_cell? w _ hw432_1)).trans hw432_1)⟩ (fun hHeld => ?_)
        clear hK K
        refine norm_ (a' := ?_) ?_ ?_
        rotate_left
        ·show Act.put _ (some 42) _ = _
         simp only [Act.put, List.setIfInBounds_toArray, List.set_cons_zero, List.set_cons_succ, i64_w, i32_w]
         rfl
        refine one_ (i := 9) (N := some 47) #[true, true, true, true, true, true, true, true, true, true, false, true, false, false] rfl rfl (one_of HT_.out (by kernel_rfl)) (by decide) (fun K hK => ?_)
        refine goes_ Tryd.func59 (by kernel_rfl) rfl #[.agg #[.int .i64 ((rd_T25 l0 x9_1).f0), .bool ((rd_T25 l0 x9_1).f1)]] (by rfl) rfl rfl (by (try simp only [List.map_toArray, List.map_cons, List.map_nil]); first | done | rfl | (simp only [List.length_drop, List.length_take]; rfl)) ?_
        with_reducible refine (spec_l1Height.calls ((rd_T25 l0 x9_1).f0) ((rd_T25 l0 x9_1).f1) t433 _ A15.out).mono ?_
        rintro e w33 ⟨rfl, hb⟩
        refine ⟨_, rfl, ?_⟩
        have n0_ := Aside0.mk (Kd.R_below (by (with_reducible repeat (first | apply Kd.R_alloc | apply Kd.R_drewN | apply Kd.R_drew)); exact HO_8.out) hb)
        have n1_ := Aside0.mk (blk_below (g := gb429) (o := .cells #[.int .i64 (wrap64 (((rd_T25 l0 x9_1).f0) + a1)), .bool (x11_2 == 1)] 25 (0, 0)) (by (with_reducible repeat (first | refine blk_drewN ?_ _ | refine blk_drew ?_ | refine blk_alloc ?_ _)); exact BK429.out) hb)
        have n2_ := Aside0.mk (below_step (by repeat (first | (with_reducible first | exact HB.out | apply below_alloc | apply pw_below_drewN | apply below_drew1 | refine below_set ?_ GE429.out) | exact HB.out)) hb)
        clear HO_8
        clear BK429
        clear HB
        have HO_8 := n0_
        have BK429 := n1_
        have HB := n2_
        clear n0_ n1_ n2_
        (try clear hb)
        (try clear hb2)
        (try clear hk)
        (try clear hi)
        refine hK.out _ _ ⟨(blk_cell BK429.out 0).trans rfl, (blk_cell BK429.out 1).trans rfl, ((HB.out.cell (World.block_lt_of_cell? w _ hw432_0)).trans hw432_0), ((HB.out.cell (World.block_lt_of_cell? w _ hw432_1)).trans hw432_1)⟩ (fun hHeld => ?_)
        clear hK K
        refine norm_ (a' := ?_) ?_ ?_
        rotate_left
        ·show Act.put _ (some 47) _ = _
         simp only [Act.put, List.setIfInBounds_toArray, List.set_cons_zero, List.set_cons_succ, i64_w, i32_w]
         rfl
        refine pure_ (i := 10) (N := some 48) (v := ?_) (a' := ?_) #[true, true, true, true, true, true, true, true, true, true, true, true, false, false] rfl rfl (any_of HT_.out (by kernel_rfl)) (fun _ _ _ h => h) (Or.inl ⟨by rfl, ?_⟩) ?_ ?_
        rotate_left
        ·intro w'
         go_simp
         with_reducible rfl
        rotate_left
        ·simp only [Act.put, List.setIfInBounds_toArray, List.set_cons_zero, List.set_cons_succ, i64_w, i32_w]
         rfl
        refine pure_ (i := 12) (N := some 50) (v := ?_) (a' := ?_) #[true, true, true, true, true, true, true, true, true, true, true, true, true, false] rfl rfl (any_of HT_.out (by kernel_rfl)) (fun _ _ _ h => h) (Or.inl ⟨by rfl, ?_⟩) ?_ ?_
        rotate_left
        ·intro w'
         go_simp
         with_reducible rfl
        rotate_left
        ·simp only [Act.put, List.setIfInBounds_toArray, List.set_cons_zero, List.set_cons_succ, i64_w, i32_w]
         rfl
        refine pure_ (i := 13) (N := some 51) (v := ?_) (a' := ?_) #[true, true, true, true, true, true, true, true, true, true, true, true, true, true] rfl rfl (any_of HT_.out (by kernel_rfl)) (fun _ _ _ h => h) (Or.inl ⟨by rfl, ?_⟩) ?_ ?_
        rotate_left
        ·intro w'
         go_simp
         with_reducible rfl
        rotate_left
        ·simp only [Act.put, List.setIfInBounds_toArray, List.set_cons_zero, List.set_cons_succ, i64_w, i32_w]
         rfl
        refine done_ (done_of HT_.out (by kernel_rfl)) ?_
        try go_wp2
        go_roundg kj6
        case measure => have := HK1.out; have := HK2.out; have := HJ6.out; omega
        case rel => exact ⟨(x8_2), (x10_2), (wrap64 (x11_2 + 1)), (by first | rfl | (simp; done) | (simp [*]; done)), (by first | rfl | (simp; done) | (simp [*]; done)), H', ⟨by have := HK1.out; have := HK2.out; have := HJ6.out; omega⟩, ⟨by (with_reducible repeat (first | apply Kd.R_alloc | apply Kd.R_drewN | apply Kd.R_drew)); exact Kd.R_mono HO_8.out (fun _ hk => trivial)⟩, ⟨by repeat (first | (with_reducible first | exact HB.out | apply below_alloc | apply pw_below_drewN | apply below_drew1 | refine below_set ?_ GE429.out) | exact HB.out)⟩⟩
       rw [if_pos c16] at H
       have c16b0 : ((wrap64 (t431 - t433)) == a2) = true := beq_iff_eq.mpr c16
       have c16b1 : ((wrap64 (t431 - t433)) != a2) = false := bne_eq_false_iff_eq.mpr c16
       clear c16
       by_cases c17 : x8_2.length < 8796093022208
       rotate_left
       ·rw [if_neg c17] at H
        exact absurd H (by simp)
       rw [if_pos c17] at H
       have LMc17 := Aside0.mk c17
       clear c17
       obtain ⟨y434, hy434⟩ : ∃ y_ : List (S25), y_ = (x8_2 ++ [(⟨wrap64 (((rd_T25 l0 x9_1).f0) + a1), (x11_2 == 1)⟩ : S25)]) := ⟨_, rfl⟩
       replace H : (spec_l2Moved.l1 kj6 l0 a1 a2 y434 x9_1 true (wrap64 (x11_2 + 1))) = some (r1, r2) := by first | (rw [hy434]; with_reducible exact H) | (have H2_ := (Option.bind_some _ _).symm.trans H; rw [hy434]; with_reducible exact H2_) | (have H2_ := (Option.bind_some _ _).symm.trans H; with_reducible exact H2_) | with_reducible exact H | (rw [hy434]; exact H) | exact H
       have Ny434 := Aside0.mk hy434
       clear hy434
       have H' := Aside0.mk H
       clear H
       have p428 : 0 ≤ (x9_1 : Int) := of_decide_eq_true (by first | (with_reducible assumption) | assumption)
       have q428 : x9_1 < (l0.length : Int) := of_decide_eq_true (by first | (with_reducible assumption) | assumption)
       obtain ⟨ad428, e428, hx428_0, hx428_1⟩ := at_T25 HR0.out x9_1 p428 q428
       cases e428
       replace hx428_0 := (HB.out.cell (World.block_lt_of_cell? w _ hx428_0)).trans hx428_0
       replace hx428_1 := (HB.out.cell (World.block_lt_of_cell? w _ hx428_1)).trans hx428_1
       replace p428 := eq_true p428
       replace q428 := eq_true q428
       try go_wp2_with (first | ((with_reducible refine gate_dst (N := 12) rfl ?_); refine box_event ?hg (N := 12) ?hd (cs := #[.int .i64 0, .bool false]) (t := 25) ?hr ?_; (case hd => rfl); (case hg => rfl); (case hr => first | (go_simp; done) | (go_simp; rfl)); intro gb429 hg w18 hbox hb; have n0_ := Aside0.mk (Kd.R_below (Kd.R_elderB (by (with_reducible repeat (first | apply Kd.R_alloc | apply Kd.R_drewN | apply Kd.R_drew)); exact HO_8.out) gb429 (Nat.le_of_eq hg.symm)) hb); have n1_ := Aside0.mk (below_step (by repeat (first | (with_reducible first | exact HB.out | apply below_alloc | apply pw_below_drewN | apply below_drew1) | exact HB.out)) hb); have n2_ := Aside0.mk (hbox); have n3_ := Aside0.mk ((by rw [hg]; exact (below_size (by repeat (first | (with_reducible first | exact HB.out | apply below_alloc | apply pw_below_drewN | apply below_drew1) | exact HB.out))) : w.heap.size ≤ gb429)); have n4_ := Aside0.mk ((by rw [hg]; exact (below_size (by repeat (first | (with_reducible first | exact HB.out | apply below_alloc | apply pw_below_drewN | apply below_drew1) | exact HB.out))) : w.heap.size ≤ gb429)); clear HO_8; clear HB; have HO_8 := n0_; have HB := n1_; have BK429 := n2_; have GW429 := n3_; have GE429 := n4_; clear n0_ n1_ n2_ n3_ n4_; clear hb hbox hg; have hcz19_0 : w18.cell? ⟨gb429, 0, none⟩ = some (.int .i64 0) := (blk_cell BK429.out 0).trans rfl; have hcz19_1 : w18.cell? ⟨gb429, 1, none⟩ = some (.bool false) := (blk_cell BK429.out 1).trans rfl; have hfz19_0 := blk_frozen BK429.out 0; have hfz19_1 := blk_frozen BK429.out 1))
       have n0_ : Aside0 (Kd.R k25 25 ((w18.setCell ⟨gb429, 0, none⟩ (.int .i64 (wrap64 (((rd_T25 l0 x9_1).f0) + a1)))).setCell ⟨gb429, 1, none⟩ (.bool (x11_2 == 1))) w.heap.size (fun k_ => k_ ≠ gb429) u8 x8_2) := ⟨by (with_reducible repeat (first | apply Kd.R_alloc | apply Kd.R_drewN | apply Kd.R_drew)); exact Kd.R_mono (Kd.R_far (p := ⟨gb429, 1, none⟩) (Kd.R_far (p := ⟨gb429, 0, none⟩) (Kd.R_mono HO_8.out (fun k_ hk => (⟨hk, hk.2⟩ : _ ∧ k_ ≠ gb429))) (fun _ hk => hk.2) (.int .i64 (wrap64 (((rd_T25 l0 x9_1).f0) + a1)))) (fun _ hk => hk.2) (.bool (x11_2 == 1))) (fun _ hk => hk.1.2)⟩
       have n1_ : Aside0 (((w18.setCell ⟨gb429, 0, none⟩ (.int .i64 (wrap64 (((rd_T25 l0 x9_1).f0) + a1)))).setCell ⟨gb429, 1, none⟩ (.bool (x11_2 == 1))).heap[gb429]? = some (.cells #[.int .i64 (wrap64 (((rd_T25 l0 x9_1).f0) + a1)), .bool (x11_2 == 1)] 25 (0, 0))) := ⟨by (with_reducible repeat (first | refine blk_drewN ?_ _ | refine blk_drew ?_ | refine blk_alloc ?_ _)); refine blk_put (cs := #[.int .i64 (wrap64 (((rd_T25 l0 x9_1).f0) + a1)), .bool false]) ?_ 1 _ rfl; (with_reducible repeat (first | refine blk_drewN ?_ _ | refine blk_drew ?_ | refine blk_alloc ?_ _)); refine blk_put (cs := #[.int .i64 0, .bool false]) ?_ 0 _ rfl; (with_reducible repeat (first | refine blk_drewN ?_ _ | refine blk_drew ?_ | refine blk_alloc ?_ _)); exact BK429.out⟩
       have n2_ : Aside0 (Below w.heap.size w ((w18.setCell ⟨gb429, 0, none⟩ (.int .i64 (wrap64 (((rd_T25 l0 x9_1).f0) + a1)))).setCell ⟨gb429, 1, none⟩ (.bool (x11_2 == 1)))) := ⟨by repeat (first | (with_reducible first | exact HB.out | apply below_alloc | apply pw_below_drewN | apply below_drew1 | refine below_set ?_ GE429.out) | exact HB.out)⟩
       (try clear HO_8)
       (try clear BK429)
       (try clear HB)
       generalize ((w18.setCell ⟨gb429, 0, none⟩ (.int .i64 (wrap64 (((rd_T25 l0 x9_1).f0) + a1)))).setCell ⟨gb429, 1, none⟩ (.bool (x11_2 == 1))) = w20 at n0_ n1_ n2_ ⊢
       have HO_8 := n0_
       have BK429 := n1_
       have HB := n2_
       clear n0_ n1_ n2_
       have n0_ := Aside0.mk (Kd.R_drew HO_8.out)
       have n1_ := Aside0.mk (blk_drew BK429.out)
       have n2_ := Aside0.mk (below_drew1 HB.out)
       clear HO_8
       clear BK429
       clear HB
       have HO_8 := n0_
       have BK429 := n1_
       have HB := n2_
       clear n0_ n1_ n2_
       have p432 : 0 ≤ (x9_1 : Int) := of_decide_eq_true (by first | (with_reducible assumption) | assumption)
       have q432 : x9_1 < (l0.length : Int) := of_decide_eq_true (by first | (with_reducible assumption) | assumption)
       obtain ⟨ad432, e432, hx432_0, hx432_1⟩ := at_T25 HR0.out x9_1 p432 q432
       have hw432_1 := hx432_1
       have hw432_0 := hx432_0
       obtain rfl : ad428 = ad432 := (by injection e432)
       replace hx432_0 := (HB.out.cell (World.block_lt_of_cell? w _ hx432_0)).trans hx432_0
       replace hx432_1 := (HB.out.cell (World.block_lt_of_cell? w _ hx432_1)).trans hx432_1
       replace p432 := eq_true p432
       replace q432 := eq_true q432
       refine start_ (n := 14) (S := fun w' => w'.cell? ⟨gb429, 0, none⟩ = some (.int .i64 (wrap64 (((rd_T25 l0 x9_1).f0) + a1))) ∧ w'.cell? ⟨gb429, 1, none⟩ = some (.bool (x11_2 == 1)) ∧ w'.cell? (ad428.add ((x9_1).toNat * 2)) = some (.int .i64 ((rd_T25 l0 x9_1).f0)) ∧ w'.cell? ⟨(ad428.add ((x9_1).toNat * 2)).block, (ad428.add ((x9_1).toNat * 2)).off + 1, none⟩ = some (.bool ((rd_T25 l0 x9_1).f1))) (ds := []) #[false, false, false, false, false, false, false, false, false, false, false, false, false, false] (by kernel_rfl) rfl rfl ⟨(blk_cell BK429.out 0).trans rfl, (blk_cell BK429.out 1).trans rfl, ((HB.out.cell (World.block_lt_of_cell? w _ hw432_0)).trans hw432_0), ((HB.out.cell (World.block_lt_of_cell? w _ hw432_1)).trans hw432_1)⟩ (fun hHeld => ?_); refine with_tabW spec_l2Moved.tab10 spec_l2Moved.bits10 (fun HT_ HW_ => ?_)
       generalize w20.drew = w21 at HO_8 BK429 HB hx432_0 hx432_1 hHeld ⊢
       refine take_ (i := 0) (N := some 38) (v := ?_) (a' := ?_) #[true, false, false, false, false, false, false, false, false, false, false, false, false, false] rfl rfl (take_ofW HT_.out HW_.out (by kernel_rfl)) (fun _ _ _ h => h) (Or.inl ⟨by rfl, ?_⟩) hHeld ?_ ?_
       rotate_left
       ·rintro w' ⟨s0, s1, s2, s3⟩
        go_simp
        with_reducible rfl
       rotate_left
       ·simp only [Act.put, List.setIfInBounds_toArray, List.set_cons_zero, List.set_cons_succ, i64_w, i32_w]
        rfl
       refine one_ (i := 1) (N := some 39) #[true, true, false, false, false, false, false, false, false, false, false, false, false, false] rfl rfl (one_of HT_.out (by kernel_rfl)) (by decide) (fun K hK => ?_)
       refine goes_ Tryd.func37 (by kernel_rfl) rfl #[.agg #[.int .i64 (wrap64 (((rd_T25 l0 x9_1).f0) + a1)), .bool (x11_2 == 1)]] (by rfl) rfl rfl (by (try simp only [List.map_toArray, List.map_cons, List.map_nil]); first | done | rfl | (simp only [List.length_drop, List.length_take]; rfl)) ?_
       with_reducible refine (spec_ToneValid.calls (wrap64 (((rd_T25 l0 x9_1).f0) + a1)) (x11_2 == 1) true _ A12.out).mono ?_
       rintro e w22 ⟨rfl, hb⟩
       refine ⟨_, rfl, ?_⟩
       have n0_ := Aside0.mk (Kd.R_below (by (with_reducible repeat (first | apply Kd.R_alloc | apply Kd.R_drewN | apply Kd.R_drew)); exact HO_8.out) hb)
       have n1_ := Aside0.mk (blk_below (g := gb429) (o := .cells #[.int .i64 (wrap64 (((rd_T25 l0 x9_1).f0) + a1)), .bool (x11_2 == 1)] 25 (0, 0)) (by (with_reducible repeat (first | refine blk_drewN ?_ _ | refine blk_drew ?_ | refine blk_alloc ?_ _)); exact BK429.out) hb)
       have n2_ := Aside0.mk (below_step (by repeat (first | (with_reducible first | exact HB.out | apply below_alloc | apply pw_below_drewN | apply below_drew1 | refine below_set ?_ GE429.out) | exact HB.out)) hb)
       clear HO_8
       clear BK429
       clear HB
       have HO_8 := n0_
       have BK429 := n1_
       have HB := n2_
       clear n0_ n1_ n2_
       (try clear hb)
       (try clear hb2)
       (try clear hk)
       (try clear hi)
       refine hK.out _ _ ⟨(blk_cell BK429.out 0).trans rfl, (blk_cell BK429.out 1).trans rfl, ((HB.out.cell (World.block_lt_of_cell? w _ hw432_0)).trans hw432_0), ((HB.out.cell (World.block_lt_of_cell? w _ hw432_1)).trans hw432_1)⟩ (fun hHeld => ?_)
       clear hK K
       refine norm_ (a' := ?_) ?_ ?_
       rotate_left
       ·show Act.put _ (some 39) _ = _
        simp only [Act.put, List.setIfInBounds_toArray, List.set_cons_zero, List.set_cons_succ, i64_w, i32_w]
        rfl
       refine pure_ (i := 2) (N := some 40) (v := ?_) (a' := ?_) #[true, true, true, false, false, false, false, false, false, false, false, false, false, false] rfl rfl (any_of HT_.out (by kernel_rfl)) (fun _ _ _ h => h) (Or.inl ⟨by rfl, ?_⟩) ?_ ?_
       rotate_left
       ·intro w'
        go_simp
        with_reducible rfl
       rotate_left
       ·simp only [Act.put, List.setIfInBounds_toArray, List.set_cons_zero, List.set_cons_succ, i64_w, i32_w]
        rfl
       refine pure_ (i := 5) (N := some 43) (v := ?_) (a' := ?_) #[true, true, true, false, false, true, false, false, false, false, false, false, false, false] rfl rfl (any_of HT_.out (by kernel_rfl)) (fun _ _ _ h => h) (Or.inl ⟨by rfl, ?_⟩) ?_ ?_
       rotate_left
       ·intro w'
        go_simp
        with_reducible rfl
       rotate_left
       ·simp only [Act.put, List.setIfInBounds_toArray, List.set_cons_zero, List.set_cons_succ, i64_w, i32_w]
        rfl
       refine pure_ (i := 6) (N := some 44) (v := ?_) (a' := ?_) #[true, true, true, false, false, true, true, false, false, false, false, false, false, false] rfl rfl (any_of HT_.out (by kernel_rfl)) (fun _ _ _ h => h) (Or.inl ⟨by rfl, ?_⟩) ?_ ?_
       rotate_left
       ·intro w'
        go_simp
        with_reducible rfl
       rotate_left
       ·simp only [Act.put, List.setIfInBounds_toArray, List.set_cons_zero, List.set_cons_succ, i64_w, i32_w]
        rfl
       refine pure_ (i := 7) (N := some 45) (v := ?_) (a' := ?_) #[true, true, true, false, false, true, true, true, false, false, false, false, false, false] rfl rfl (any_of HT_.out (by kernel_rfl)) (fun _ _ _ h => h) (Or.inl ⟨by rfl, ?_⟩) ?_ ?_
       rotate_left
       ·intro w'
        go_simp
        with_reducible rfl
       rotate_left
       ·simp only [Act.put, List.setIfInBounds_toArray, List.set_cons_zero, List.set_cons_succ, i64_w, i32_w]
        rfl
       refine pure_ (i := 11) (N := some 49) (v := ?_) (a' := ?_) #[true, true, true, false, false, true, true, true, false, false, false, true, false, false] rfl rfl (any_of HT_.out (by kernel_rfl)) (fun _ _ _ h => h) (Or.inl ⟨by rfl, ?_⟩) ?_ ?_
       rotate_left
       ·intro w'
        go_simp
        with_reducible rfl
       rotate_left
       ·simp only [Act.put, List.setIfInBounds_toArray, List.set_cons_zero, List.set_cons_succ, i64_w, i32_w]
        rfl
       refine take_ (i := 3) (N := some 41) (v := ?_) (a' := ?_) #[true, true, true, true, false, true, true, true, false, false, false, true, false, false] rfl rfl (take_ofW HT_.out HW_.out (by kernel_rfl)) (fun _ _ _ h => h) (Or.inl ⟨by rfl, ?_⟩) hHeld ?_ ?_
       rotate_left
       ·rintro w' ⟨s0, s1, s2, s3⟩
        go_simp
        with_reducible rfl
       rotate_left
       ·simp only [Act.put, List.setIfInBounds_toArray, List.set_cons_zero, List.set_cons_succ, i64_w, i32_w]
        rfl
       refine take_ (i := 8) (N := some 46) (v := ?_) (a' := ?_) #[true, true, true, true, false, true, true, true, true, false, false, true, false, false] rfl rfl (take_ofW HT_.out HW_.out (by kernel_rfl)) (fun _ _ _ h => h) (Or.inl ⟨by rfl, ?_⟩) hHeld ?_ ?_
       rotate_left
       ·rintro w' ⟨s0, s1, s2, s3⟩
        go_simp
        with_reducible rfl
       rotate_left
       ·simp only [Act.put, List.setIfInBounds_toArray, List.set_cons_zero, List.set_cons_succ, i64_w, i32_w]
        rfl
       refine one_ (i := 4) (N := some 42) #[true, true, true, true, true, true, true, true, true, false, false, true, false, false] rfl rfl (one_of HT_.out (by kernel_rfl)) (by decide) (fun K hK => ?_)
       refine goes_ Tryd.func59 (by kernel_rfl) rfl #[.agg #[.int .i64 (wrap64 (((rd_T25 l0 x9_1).f0) + a1)), .bool (x11_2 == 1)]] (by rfl) rfl rfl (by (try simp only [List.map_toArray, List.map_cons, List.map_nil]); first | done | rfl | (simp only [List.length_drop, List.length_take]; rfl)) ?_
       with_reducible refine (spec_l1Height.calls (wrap64 (((rd_T25 l0 x9_1).f0) + a1)) (x11_2 == 1) t431 _ A14.out).mono ?_
       rintro e w23 ⟨rfl, hb⟩
       refine ⟨_, rfl, ?_⟩
       have n0_ := Aside0.mk (Kd.R_below (by (with_reducible repeat (first | apply Kd.R_alloc | apply Kd.R_drewN | apply Kd.R_drew)); exact HO_8.out) hb)
       have n1_ := Aside0.mk (blk_below (g := gb429) (o := .cells #[.int .i64 (wrap64 (((rd_T25 l0 x9_1).f0) + a1)), .bool (x11_2 == 1)] 25 (0, 0)) (by (with_reducible repeat (first | refine blk_drewN ?_ _ | refine blk_drew ?_ | refine blk_alloc ?_ _)); exact BK429.out) hb)
       have n2_ := Aside0.mk (below_step (by repeat (first | (with_reducible first | exact HB.out | apply below_alloc | apply pw_below_drewN | apply below_drew1 | refine below_set ?_ GE429.out) | exact HB.out)) hb)
       clear HO_8
       clear BK429
       clear HB
       have HO_8 := n0_
       have BK429 := n1_
       have HB := n2_
       clear n0_ n1_ n2_
       (try clear hb)
       (try clear hb2)
       (try clear hk)
       (try clear hi)
       refine hK.out _ _ ⟨(blk_cell BK429.out 0).trans rfl, (blk_cell BK429.out 1).trans rfl, ((HB.out.cell (World.block_lt_of_cell? w _ hw432_0)).trans hw432_0), ((HB.out.cell (World.block_lt_of_cell? w _ hw432_1)).trans hw432_1)⟩ (fun hHeld => ?_)
       clear hK K
       refine norm_ (a' := ?_) ?_ ?_
       rotate_left
       ·show Act.put _ (some 42) _ = _
        simp only [Act.put, List.setIfInBounds_toArray, List.set_cons_zero, List.set_cons_succ, i64_w, i32_w]
        rfl
       refine one_ (i := 9) (N := some 47) #[true, true, true, true, true, true, true, true, true, true, false, true, false, false] rfl rfl (one_of HT_.out (by kernel_rfl)) (by decide) (fun K hK => ?_)
       refine goes_ Tryd.func59 (by kernel_rfl) rfl #[.agg #[.int .i64 ((rd_T25 l0 x9_1).f0), .bool ((rd_T25 l0 x9_1).f1)]] (by rfl) rfl rfl (by (try simp only [List.map_toArray, List.map_cons, List.map_nil]); first | done | rfl | (simp only [List.length_drop, List.length_take]; rfl)) ?_
       with_reducible refine (spec_l1Height.calls ((rd_T25 l0 x9_1).f0) ((rd_T25 l0 x9_1).f1) t433 _ A15.out).mono ?_
       rintro e w24 ⟨rfl, hb⟩
       refine ⟨_, rfl, ?_⟩
       have n0_ := Aside0.mk (Kd.R_below (by (with_reducible repeat (first | apply Kd.R_alloc | apply Kd.R_drewN | apply Kd.R_drew)); exact HO_8.out) hb)
       have n1_ := Aside0.mk (blk_below (g := gb429) (o := .cells #[.int .i64 (wrap64 (((rd_T25 l0 x9_1).f0) + a1)), .bool (x11_2 == 1)] 25 (0, 0)) (by (with_reducible repeat (first | refine blk_drewN ?_ _ | refine blk_drew ?_ | refine blk_alloc ?_ _)); exact BK429.out) hb)
       have n2_ := Aside0.mk (below_step (by repeat (first | (with_reducible first | exact HB.out | apply below_alloc | apply pw_below_drewN | apply below_drew1 | refine below_set ?_ GE429.out) | exact HB.out)) hb)
       clear HO_8
       clear BK429
       clear HB
       have HO_8 := n0_
       have BK429 := n1_
       have HB := n2_
       clear n0_ n1_ n2_
       (try clear hb)
       (try clear hb2)
       (try clear hk)
       (try clear hi)
       refine hK.out _ _ ⟨(blk_cell BK429.out 0).trans rfl, (blk_cell BK429.out 1).trans rfl, ((HB.out.cell (World.block_lt_of_cell? w _ hw432_0)).trans hw432_0), ((HB.out.cell (World.block_lt_of_cell? w _ hw432_1)).trans hw432_1)⟩ (fun hHeld => ?_)
       clear hK K
       refine norm_ (a' := ?_) ?_ ?_
       rotate_left
       ·show Act.put _ (some 47) _ = _
        simp only [Act.put, List.setIfInBounds_toArray, List.set_cons_zero, List.set_cons_succ, i64_w, i32_w]
        rfl
       refine pure_ (i := 10) (N := some 48) (v := ?_) (a' := ?_) #[true, true, true, true, true, true, true, true, true, true, true, true, false, false] rfl rfl (any_of HT_.out (by kernel_rfl)) (fun _ _ _ h => h) (Or.inl ⟨by rfl, ?_⟩) ?_ ?_
       rotate_left
       ·intro w'
        go_simp
        with_reducible rfl
       rotate_left
       ·simp only [Act.put, List.setIfInBounds_toArray, List.set_cons_zero, List.set_cons_succ, i64_w, i32_w]
        rfl
       refine pure_ (i := 12) (N := some 50) (v := ?_) (a' := ?_) #[true, true, true, true, true, true, true, true, true, true, true, true, true, false] rfl rfl (any_of HT_.out (by kernel_rfl)) (fun _ _ _ h => h) (Or.inl ⟨by rfl, ?_⟩) ?_ ?_
       rotate_left
       ·intro w'
        go_simp
        with_reducible rfl
       rotate_left
       ·simp only [Act.put, List.setIfInBounds_toArray, List.set_cons_zero, List.set_cons_succ, i64_w, i32_w]
        rfl
       refine pure_ (i := 13) (N := some 51) (v := ?_) (a' := ?_) #[true, true, true, true, true, true, true, true, true, true, true, true, true, true] rfl rfl (any_of HT_.out (by kernel_rfl)) (fun _ _ _ h => h) (Or.inl ⟨by rfl, ?_⟩) ?_ ?_
       rotate_left
       ·intro w'
        go_simp
        with_reducible rfl
       rotate_left
       ·simp only [Act.put, List.setIfInBounds_toArray, List.set_cons_zero, List.set_cons_succ, i64_w, i32_w]
        rfl
       refine done_ (done_of HT_.out (by kernel_rfl)) ?_
       have hcz25_0 : w24.cell? ⟨gb429, 0, none⟩ = some (.int .i64 (wrap64 (((rd_T25 l0 x9_1).f0) + a1))) := (blk_cell BK429.out 0).trans rfl
       have hcz25_1 : w24.cell? ⟨gb429, 1, none⟩ = some (.bool (x11_2 == 1)) := (blk_cell BK429.out 1).trans rfl
       have hfz25_0 := blk_frozen BK429.out 0
       have hfz25_1 := blk_frozen BK429.out 1
       try go_wp2_with (first | ((with_reducible refine gate_builtin (b := .append) (xs := #[.tmp 52, .tmp 54]) rfl ?_); at_builtin; refine Kd.R_append k25 (w0 := w) w.heap.size rfl (.tmp 52) (.tmp 54) 41 25 (.agg #[(.int .i64 0), (.bool false)]) 16 rfl Tryd.underlying41 info25 rfl (by decide) (by omega) u8 x8_2 (⟨wrap64 (((rd_T25 l0 x9_1).f0) + a1), (x11_2 == 1)⟩ : S25) [.int .i64 (wrap64 (((rd_T25 l0 x9_1).f0) + a1)), .bool (x11_2 == 1)] (fun k_ => k_ ≠ gb429) (fun _ => False) rfl rfl ?aP (fun _ hk => hk.elim) ?aF ?aO ?aB ?aS ?aL ?_; (case aP => exact k25_mkM _ _ _ (⟨wrap64 (((rd_T25 l0 x9_1).f0) + a1), (x11_2 == 1)⟩ : S25)); (case aB => exact (by repeat (first | (with_reducible first | exact HB.out | apply below_alloc | apply pw_below_drewN | apply below_drew1 | refine below_set ?_ GE429.out) | exact HB.out))); (case aF => exact (fun k_ hk => Kd.freshB (g := gb429) (o := .cells #[.int .i64 (wrap64 (((rd_T25 l0 x9_1).f0) + a1)), .bool (x11_2 == 1)] 25 (0, 0)) (by (with_reducible repeat (first | refine blk_drewN ?_ _ | refine blk_drew ?_ | refine blk_alloc ?_ _)); exact BK429.out) k_ hk)); (case aO => exact (by (with_reducible repeat (first | apply Kd.R_alloc | apply Kd.R_drewN | apply Kd.R_drew)); exact HO_8.out)); (case aS => exact (below_size (by repeat (first | (with_reducible first | exact HB.out | apply below_alloc | apply pw_below_drewN | apply below_drew1 | refine below_set ?_ GE429.out) | exact HB.out)))); (case aL => have := LMc17.out; omega); intro v435 w26 ho hb hg hat; rw [← Ny434.out] at ho; have n0_ := Aside0.mk (blk_grown (g := gb429) (o := .cells #[.int .i64 (wrap64 (((rd_T25 l0 x9_1).f0) + a1)), .bool (x11_2 == 1)] 25 (0, 0)) (by (with_reducible repeat (first | refine blk_drewN ?_ _ | refine blk_drew ?_ | refine blk_alloc ?_ _)); exact BK429.out) hg (Kd.R_away HO_8.out (fun _ hk => hk))); have n1_ := Aside0.mk (hb); have n2_ := Aside0.mk (ho); clear BK429; clear HB; clear HO_8; have BK429 := n0_; have HB := n1_; have HO436 := n2_; clear n0_ n1_ n2_; clear ho hb hg hat))
       go_roundg kj6
       case measure => have := HK1.out; have := HK2.out; have := HJ6.out; omega
       case rel => exact ⟨(y434), (true), (wrap64 (x11_2 + 1)), (by first | rfl | (simp; done) | (simp [*]; done)), (by first | rfl | (simp; done) | (simp [*]; done)), H', ⟨by have := HK1.out; have := HK2.out; have := HJ6.out; omega⟩, ⟨by (with_reducible repeat (first | apply Kd.R_alloc | apply Kd.R_drewN | apply Kd.R_drew)); exact Kd.R_mono HO436.out (fun _ hk => trivial)⟩, ⟨by repeat (first | (with_reducible first | exact HB.out | apply below_alloc | apply pw_below_drewN | apply below_drew1 | refine below_set ?_ GE429.out) | exact HB.out)⟩⟩
end Go.Proofs.YtlinjleahnccgaaDoor.E
end
section
namespace Go.Proofs.YtlinjleahnccgaaDoor.E
open Go.RowKit Go.Proofs.YtlinjleahnccgaaDoorW.PrintWords Go.Proofs.YtlinjleahnccgaaDoorW.PrintLast Go.Proofs.YtlinjleahnccgaaDoorW.PrintMore
attribute [local go_sem] max2_int min2_int max_two min_two max_three min_three max_four min_four
set_option linter.unusedVariables false
set_option linter.unusedSimpArgs false
attribute [local go_sem] str_leq_ str_gtr_ str_geq_
mutual
def spec_MelodyMove.j0 : Nat → List (S25) → Int → Bool → Option ((List (S25)) × Bool)
 | 0, _, _, _ => none
 | k + 1, x0, x1, x21 => if x21 = true then (some ((([] : List (S25))), false)) else (spec_MelodyMove.l0 k x0 x1 0)
def spec_MelodyMove.l0 : Nat → List (S25) → Int → Int → Option ((List (S25)) × Bool)
 | 0, _, _, _ => none
 | k + 1, x0, x1, x6 => if x6 < 2 then (if 0 < (x0.length : Int) then ((spec_ToneValid.f (wrap64 (((rd_T25 x0 0).f0) + x1)) (x6 == 1)).bind fun t450 => (if t450 = true then ((spec_l1Height.f (wrap64 (((rd_T25 x0 0).f0) + x1)) (x6 == 1)).bind fun t451 => ((spec_l1Height.f ((rd_T25 x0 0).f0) ((rd_T25 x0 0).f1)).bind fun t453 => ((spec_l2Moved.f k x0 x1 (wrap64 (t451 - t453))).bind fun bt454 => (if bt454.2 = true then (some (bt454.1, true)) else (spec_MelodyMove.l0 k x0 x1 (wrap64 (x6 + 1))))))) else (spec_MelodyMove.l0 k x0 x1 (wrap64 (x6 + 1))))) else (none)) else (some ((([] : List (S25))), false))
end
def spec_MelodyMove.f (k : Nat) (l0 : List (S25)) (a1 : Int) : Option ((List (S25)) × Bool) := if (l0.length : Int) = 0 then (some ((([] : List (S25))), true)) else ((spec_MelodyValid.f k l0).bind fun t440 => (if t440 = true then ((spec_l6In.f a1 (-20) 20).bind fun t441 => (spec_MelodyMove.j0 k l0 a1 (!t441))) else (spec_MelodyMove.j0 k l0 a1 true)))
def spec_MelodyMove.T10 : Bool × List (List Nat × List Nat) := (true, [([], []), ([], []), ([], []), ([2], [2]), ([], []), ([4], [4]), ([5], [5]), ([6, 3], [6]), ([3, 7], [3, 7]), ([0, 1, 8, 7], [0, 1, 8]), ([9], [9]), ([10], [10]), ([10], [10]), ([11, 9, 0, 1, 2, 3, 4, 5, 6, 7, 8, 9, 10, 11], [11]), ([12, 13, 0, 1, 2, 3, 4, 5, 6, 7, 8, 9, 10, 11, 12, 13], [12])])
def spec_MelodyMove.B10 : List Nat := [0, 0, 0, 4, 0, 16, 48, 124, 252, 511, 1023, 2047, 2047, 4095, 16383]
theorem spec_MelodyMove.tab10 : rtab .any (opsOf Tryd.f34 10) = spec_MelodyMove.T10 := by kernel_rfl
theorem spec_MelodyMove.bits10 : waitsOk spec_MelodyMove.T10.2 spec_MelodyMove.B10 = true := by kernel_rfl
set_option maxHeartbeats 8000000 in
set_option maxRecDepth 100000 in
theorem spec_MelodyMove.calls (k : Nat) (A0 : Option Addr) (c0 : Nat) (l0 : List (S25)) (a1 : Int) (r1 : List (S25)) (r2 : Bool) (w : World) (hr0 : Kd.C k25 w A0 l0.length l0) (hc0 : l0.length ≤ c0) (h : spec_MelodyMove.f k l0 a1 = some (r1, r2)) :
  Calls Tryd.prog 34 #[.slice A0 l0.length c0, .int .i64 a1] w fun e w' => ∃ v0_ : Value, e = .returned (.tuple #[v0_, .bool r2]) ∧ Kd.R k25 25 w' w.heap.size (fun _ => True) v0_ r1 ∧ Below w.heap.size w w' := by
 have hu25 := Tryd.underlying25
 have HR0 := Aside0.mk hr0
 have HC0 := Aside0.mk hc0
 clear hr0 hc0
 have HB := Aside0.mk (Below.refl w.heap.size w)
 have H : (if (l0.length : Int) = 0 then (some ((([] : List (S25))), true)) else ((spec_MelodyValid.f k l0).bind fun t440 => (if t440 = true then ((spec_l6In.f a1 (-20) 20).bind fun t441 => (spec_MelodyMove.j0 k l0 a1 (!t441))) else (spec_MelodyMove.j0 k l0 a1 true)))) = some (r1, r2) := h
 clear h
 by_cases c3 : (l0.length : Int) = 0
 ·rw [if_pos c3] at H
  have c3b0 : ((l0.length : Int) == 0) = true := beq_iff_eq.mpr c3
  have c3b1 : ((l0.length : Int) != 0) = false := bne_eq_false_iff_eq.mpr c3
  clear c3
  obtain ⟨y437, hy437⟩ : ∃ y_ : List (S25), y_ = (([] : List (S25))) := ⟨_, rfl⟩
  replace H : (some (y437, true)) = some (r1, r2) := by first | (rw [hy437]; with_reducible exact H) | (have H2_ := (Option.bind_some _ _).symm.trans H; rw [hy437]; with_reducible exact H2_) | (have H2_ := (Option.bind_some _ _).symm.trans H; with_reducible exact H2_) | with_reducible exact H | (rw [hy437]; exact H) | exact H
  have Ny437 := Aside0.mk hy437
  clear hy437
  simp only [Option.some.injEq, Prod.mk.injEq] at H
  obtain ⟨rfl, rfl⟩ := H
  go_enter Tryd.func34, Tryd.ntmps34
  go_wp2_with (first | ((with_reducible refine gate_dst (N := 13) rfl ?_); refine Kd.R_lit k25 _ 25 ?hg (N := 13) ?hd (xs := ([] : List (S25))) (inner := []) (ok := fun _ => True) (okp := fun _ => True) ?hr ?hp (fun _ hk => hk) trivial (Below.refl _ _) (Nat.le_refl _) (by simp) ?_; (case hd => rfl); (case hg => rfl); (case hr => first | (go_simp; done) | (go_simp; rfl)); (case hp => exact (Reps.none _ _)); intro v438 w4 ho5 hb hg_ hnew_; clear hg_ hnew_; (first | rw [← Ny437.out] at ho5 | (simp only [Int.reduceToNat] at ho5; rw [← Ny437.out] at ho5)); have n0_ := Aside0.mk (Kd.R_lower ho5 (below_size (by repeat (first | (with_reducible first | exact HB.out | apply below_alloc | apply pw_below_drewN | apply below_drew1) | exact HB.out)))); have n1_ := Aside0.mk (below_step (by repeat (first | (with_reducible first | exact HB.out | apply below_alloc | apply pw_below_drewN | apply below_drew1) | exact HB.out)) hb); clear HB; have HO439 := n0_; have HB := n1_; clear n0_ n1_; clear hb ho5))
  go_ret2
  exact ⟨_, by first | rfl | (simp [errW_none, errW_some] <;> rfl) | (simp [*, errW_none, errW_some] <;> rfl), by (with_reducible repeat (first | apply Kd.R_alloc | apply Kd.R_drewN | apply Kd.R_drew)); exact HO439.out, by repeat (first | (with_reducible first | exact HB.out | apply below_alloc | apply pw_below_drewN | apply below_drew1) | exact HB.out)⟩
 rw [if_neg c3] at H
 have c3b0 : ((l0.length : Int) == 0) = false := beq_eq_false_iff_ne.mpr c3
 have c3b1 : ((l0.length : Int) != 0) = true := bne_iff_ne.mpr c3
 have c3b2 : ¬ (l0 = []) := fun h_ => c3 (by rw [h_]; rfl)
 have HC6 := Aside0.mk H
 clear H
 go_enter Tryd.func34, Tryd.ntmps34
 go_upto_region 3 with (fail)
 go_cut [21] (fun v21 wc => ∃ (kq : Nat) (x21_5 : Bool), v21 = .bool x21_5 ∧ Aside0 (spec_MelodyMove.j0 kq l0 a1 x21_5 = some (r1, r2)) ∧ Aside0 (kq ≤ k) ∧ Aside0 (Below w.heap.size w wc))
 case first =>
  have H := HC6.out
  clear HC6
  replace H := Option.bind_eq_some_iff.mp H
  obtain ⟨t440, A70, H⟩ := H
  replace H : (if t440 = true then ((spec_l6In.f a1 (-20) 20).bind fun t441 => (spec_MelodyMove.j0 k l0 a1 (!t441))) else (spec_MelodyMove.j0 k l0 a1 true)) = some (r1, r2) := H
  have A7 := Aside0.mk A70
  clear A70
  by_cases c8 : t440 = true
  rotate_left
  ·replace c8 := Bool.eq_false_iff.mpr c8
   subst c8
   have H1 : (spec_MelodyMove.j0 k l0 a1 true) = some (r1, r2) := by rw [if_neg (show ¬ (false = true) by decide)] at H; exact H
   clear H
   have H := H1
   clear H1
   have H' := Aside0.mk H
   clear H
   go_wp2_with (first | ((with_reducible refine gate_callee (f := 48) rfl ?_); refine goesL_ (some 15) rfl rfl Tryd.func48 (by kernel_rfl) rfl #[.slice A0 l0.length c0] rfl (by (try simp only [List.map_toArray, List.map_cons, List.map_nil]); first | done | rfl | (simp only [List.length_drop, List.length_take]; rfl)) ?_; (with_reducible refine (spec_MelodyValid.calls k _ _ l0 false _ ?side1 ?side2 A7.out).mono ?_); (case side1 => repeat (first | exact (Kd.C_below HR0.out HB.out) | (with_reducible refine Kd.C_alloc ?_ _) | (with_reducible refine Kd.C_drewN ?_ _) | (with_reducible refine Kd.C_drew ?_))); (case side2 => exact HC0.out); rintro e w11 ⟨rfl, hb⟩; refine ⟨_, rfl, ?_⟩; have n0_ := Aside0.mk (below_step (by repeat (first | (with_reducible first | exact HB.out | apply below_alloc | apply pw_below_drewN | apply below_drew1) | exact HB.out)) hb); clear HB; have HB := n0_; clear n0_; (try clear hb); (try clear hb2); (try clear hk); (try clear hi)))
   go_meet
   case rel => exact ⟨_, (true), (by first | rfl | (simp; done) | (simp [*]; done)), H', ⟨by first | omega | exact Nat.le_refl _⟩, ⟨by repeat (first | (with_reducible first | exact HB.out | apply below_alloc | apply pw_below_drewN | apply below_drew1) | exact HB.out)⟩⟩
  subst c8
  have H1 : ((spec_l6In.f a1 (-20) 20).bind fun t441 => (spec_MelodyMove.j0 k l0 a1 (!t441))) = some (r1, r2) := by rw [if_pos rfl] at H; exact H
  clear H
  have H := H1
  clear H1
  replace H := Option.bind_eq_some_iff.mp H
  obtain ⟨t441, A90, H⟩ := H
  replace H : (spec_MelodyMove.j0 k l0 a1 (!t441)) = some (r1, r2) := H
  have A9 := Aside0.mk A90
  clear A90
  have H' := Aside0.mk H
  clear H
  go_wp2_with (first | ((with_reducible refine gate_callee (f := 48) rfl ?_); refine goesL_ (some 15) rfl rfl Tryd.func48 (by kernel_rfl) rfl #[.slice A0 l0.length c0] rfl (by (try simp only [List.map_toArray, List.map_cons, List.map_nil]); first | done | rfl | (simp only [List.length_drop, List.length_take]; rfl)) ?_; (with_reducible refine (spec_MelodyValid.calls k _ _ l0 true _ ?side1 ?side2 A7.out).mono ?_); (case side1 => repeat (first | exact (Kd.C_below HR0.out HB.out) | (with_reducible refine Kd.C_alloc ?_ _) | (with_reducible refine Kd.C_drewN ?_ _) | (with_reducible refine Kd.C_drew ?_))); (case side2 => exact HC0.out); rintro e w10 ⟨rfl, hb⟩; refine ⟨_, rfl, ?_⟩; have n0_ := Aside0.mk (below_step (by repeat (first | (with_reducible first | exact HB.out | apply below_alloc | apply pw_below_drewN | apply below_drew1) | exact HB.out)) hb); clear HB; have HB := n0_; clear n0_; (try clear hb); (try clear hb2); (try clear hk); (try clear hi)) | (go_at_call 57; (with_reducible refine (spec_l6In.calls a1 (-20) 20 t441 _ A9.out).mono ?_); rintro e w' ⟨rfl, ⟨nd, rfl⟩⟩))
  go_meet
  case rel => exact ⟨_, (!t441), (by first | rfl | (simp; done) | (simp [*]; done)), H', ⟨by first | omega | exact Nat.le_refl _⟩, ⟨by repeat (first | (with_reducible first | exact HB.out | apply below_alloc | apply pw_below_drewN | apply below_drew1) | exact HB.out)⟩⟩
 case rest =>
  clear HC6
  try clear p2
  try clear c3
  try clear c3b0
  try clear c3b1
  try clear c3b2
  try clear c4
  try clear c8
  obtain ⟨kq, x21_5, rfl, HA, HJ5, HB⟩ := hcut
  cases kq with
  | zero => exact absurd HA.out (by simp [spec_MelodyMove.j0])
  | succ kj5 =>
   have H := HA.out
   clear HA
   simp only [spec_MelodyMove.j0] at H
   by_cases c12 : x21_5 = true
   ·subst c12
    have H1 : (some ((([] : List (S25))), false)) = some (r1, r2) := by rw [if_pos rfl] at H; exact H
    clear H
    have H := H1
    clear H1
    obtain ⟨y442, hy442⟩ : ∃ y_ : List (S25), y_ = (([] : List (S25))) := ⟨_, rfl⟩
    replace H : (some (y442, false)) = some (r1, r2) := by first | (rw [hy442]; with_reducible exact H) | (have H2_ := (Option.bind_some _ _).symm.trans H; rw [hy442]; with_reducible exact H2_) | (have H2_ := (Option.bind_some _ _).symm.trans H; with_reducible exact H2_) | with_reducible exact H | (rw [hy442]; exact H) | exact H
    have Ny442 := Aside0.mk hy442
    clear hy442
    simp only [Option.some.injEq, Prod.mk.injEq] at H
    obtain ⟨rfl, rfl⟩ := H
    go_wp2_with (first | ((with_reducible refine gate_dst (N := 22) rfl ?_); refine Kd.R_lit k25 _ 25 ?hg (N := 22) ?hd (xs := ([] : List (S25))) (inner := []) (ok := fun _ => True) (okp := fun _ => True) ?hr ?hp (fun _ hk => hk) trivial (Below.refl _ _) (Nat.le_refl _) (by simp) ?_; (case hd => rfl); (case hg => rfl); (case hr => first | (go_simp; done) | (go_simp; rfl)); (case hp => exact (Reps.none _ _)); intro v443 w13 ho14 hb hg_ hnew_; clear hg_ hnew_; (first | rw [← Ny442.out] at ho14 | (simp only [Int.reduceToNat] at ho14; rw [← Ny442.out] at ho14)); have n0_ := Aside0.mk (Kd.R_lower ho14 (below_size (by repeat (first | (with_reducible first | exact HB.out | apply below_alloc | apply pw_below_drewN | apply below_drew1) | exact HB.out)))); have n1_ := Aside0.mk (below_step (by repeat (first | (with_reducible first | exact HB.out | apply below_alloc | apply pw_below_drewN | apply below_drew1) | exact HB.out)) hb); clear HB; have HO444 := n0_; have HB := n1_; clear n0_ n1_; clear hb ho14))
    go_ret2
    exact ⟨_, by first | rfl | (simp [errW_none, errW_some] <;> rfl) | (simp [*, errW_none, errW_some] <;> rfl), by (with_reducible repeat (first | apply Kd.R_alloc | apply Kd.R_drewN | apply Kd.R_drew)); exact HO444.out, by repeat (first | (with_reducible first | exact HB.out | apply below_alloc | apply pw_below_drewN | apply below_drew1) | exact HB.out)⟩
   replace c12 := Bool.eq_false_iff.mpr c12
   subst c12
   have H1 : (spec_MelodyMove.l0 kj5 l0 a1 0) = some (r1, r2) := by rw [if_neg (show ¬ (false = true) by decide)] at H; exact H
   clear H
   have H := H1
   clear H1
   have H' := Aside0.mk H
   clear H
   go_wp2
   go_loopg [6] kj5 (fun kq v6 w' => ∃ (x6_2 : Int), v6 = .int .i64 x6_2 ∧ Aside0 (spec_MelodyMove.l0 kq l0 a1 x6_2 = some (r1, r2)) ∧ Aside0 (kq ≤ kj5) ∧ Aside0 (Below w.heap.size w w'))
   case atStart => exact ⟨(0), (by first | rfl | (simp; done) | (simp [*]; done)), H', ⟨Nat.le_refl _⟩, ⟨by repeat (first | (with_reducible first | exact HB.out | apply below_alloc | apply pw_below_drewN | apply below_drew1) | exact HB.out)⟩⟩
   case round =>
    clear H'
    try clear c1
    try clear p2
    try clear c3
    try clear c3b0
    try clear c3b1
    try clear c3b2
    try clear c4
    try clear c8
    try clear c12
    try clear p2
    obtain ⟨x6_2, rfl, HA, HK2, HB⟩ := hrel
    cases gk with
    | zero => exact absurd HA.out (by simp [spec_MelodyMove.l0])
    | succ k2 =>
     have H := HA.out
     clear HA
     simp only [spec_MelodyMove.l0] at H
     by_cases c15 : x6_2 < 2
     rotate_left
     ·rw [if_neg c15] at H
      have c15b0 : decide (x6_2 < 2) = false := decide_eq_false c15
      clear c15
      obtain ⟨y445, hy445⟩ : ∃ y_ : List (S25), y_ = (([] : List (S25))) := ⟨_, rfl⟩
      replace H : (some (y445, false)) = some (r1, r2) := by first | (rw [hy445]; with_reducible exact H) | (have H2_ := (Option.bind_some _ _).symm.trans H; rw [hy445]; with_reducible exact H2_) | (have H2_ := (Option.bind_some _ _).symm.trans H; with_reducible exact H2_) | with_reducible exact H | (rw [hy445]; exact H) | exact H
      have Ny445 := Aside0.mk hy445
      clear hy445
      simp only [Option.some.injEq, Prod.mk.injEq] at H
      obtain ⟨rfl, rfl⟩ := H
      go_wp2_with (first | ((with_reducible refine gate_dst (N := 54) rfl ?_); refine Kd.R_lit k25 _ 25 ?hg (N := 54) ?hd (xs := ([] : List (S25))) (inner := []) (ok := fun _ => True) (okp := fun _ => True) ?hr ?hp (fun _ hk => hk) trivial (Below.refl _ _) (Nat.le_refl _) (by simp) ?_; (case hd => rfl); (case hg => rfl); (case hr => first | (go_simp; done) | (go_simp; rfl)); (case hp => exact (Reps.none _ _)); intro v446 w40 ho41 hb hg_ hnew_; clear hg_ hnew_; (first | rw [← Ny445.out] at ho41 | (simp only [Int.reduceToNat] at ho41; rw [← Ny445.out] at ho41)); have n0_ := Aside0.mk (Kd.R_lower ho41 (below_size (by repeat (first | (with_reducible first | exact HB.out | apply below_alloc | apply pw_below_drewN | apply below_drew1) | exact HB.out)))); have n1_ := Aside0.mk (below_step (by repeat (first | (with_reducible first | exact HB.out | apply below_alloc | apply pw_below_drewN | apply below_drew1) | exact HB.out)) hb); clear HB; have HO447 := n0_; have HB := n1_; clear n0_ n1_; clear hb ho41))
      go_ret2
      exact ⟨_, by first | rfl | (simp [errW_none, errW_some] <;> rfl) | (simp [*, errW_none, errW_some] <;> rfl), by (with_reducible repeat (first | apply Kd.R_alloc | apply Kd.R_drewN | apply Kd.R_drew)); exact HO447.out, by repeat (first | (with_reducible first | exact HB.out | apply below_alloc | apply pw_below_drewN | apply below_drew1) | exact HB.out)⟩
     rw [if_pos c15] at H
     have c15b0 : decide (x6_2 < 2) = true := decide_eq_true c15
     clear c15
     by_cases c16 : 0 < (l0.length : Int)
     rotate_left
     ·rw [if_neg c16] at H
      exact absurd H (by simp)
     rw [if_pos c16] at H
     have c16b0 : decide (0 < (l0.length : Int)) = true := decide_eq_true c16
     have c16b1 : decide (0 < l0.length) = true := decide_eq_true (by omega)
     clear c16
     replace H := Option.bind_eq_some_iff.mp H
     obtain ⟨t450, A170, H⟩ := H
     replace H : (if t450 = true then ((spec_l1Height.f (wrap64 (((rd_T25 l0 0).f0) + a1)) (x6_2 == 1)).bind fun t451 => ((spec_l1Height.f ((rd_T25 l0 0).f0) ((rd_T25 l0 0).f1)).bind fun t453 => ((spec_l2Moved.f k2 l0 a1 (wrap64 (t451 - t453))).bind fun bt454 => (if bt454.2 = true then (some (bt454.1, true)) else (spec_MelodyMove.l0 k2 l0 a1 (wrap64 (x6_2 + 1))))))) else (spec_MelodyMove.l0 k2 l0 a1 (wrap64 (x6_2 + 1)))) = some (r1, r2) := H
     have A17 := Aside0.mk A170
     clear A170
     by_cases c18 : t450 = true
     rotate_left
     ·replace c18 := Bool.eq_false_iff.mpr c18
      subst c18
      have H1 : (spec_MelodyMove.l0 k2 l0 a1 (wrap64 (x6_2 + 1))) = some (r1, r2) := by rw [if_neg (show ¬ (false = true) by decide)] at H; exact H
      clear H
      have H := H1
      clear H1
      have H' := Aside0.mk H
      clear H
      have p448 : 0 ≤ (0 : Int) := (by omega)
      have q448 : 0 < (l0.length : Int) := of_decide_eq_true (by first | (with_reducible assumption) | assumption)
      obtain ⟨ad448, e448, hx448_0, hx448_1⟩ := at_T25 HR0.out 0 p448 q448
      cases e448
      have qi448 : (0 < l0.length) = True := eq_true (by omega)
      (try rw [show ((0 : Int)).toNat = 0 from rfl] at hx448_0)
      (try rw [show 0 * 2 = 0 from rfl] at hx448_0)
      (try rw [Addr.add_zero'] at hx448_0)
      (try rw [show ((0 : Int)).toNat = 0 from rfl] at hx448_1)
      (try rw [show 0 * 2 = 0 from rfl] at hx448_1)
      (try rw [Addr.add_zero'] at hx448_1)
      replace hx448_0 := (HB.out.cell (World.block_lt_of_cell? w _ hx448_0)).trans hx448_0
      replace hx448_1 := (HB.out.cell (World.block_lt_of_cell? w _ hx448_1)).trans hx448_1
      replace p448 := eq_true p448
      replace q448 := eq_true q448
      go_wp2_with (first | ((with_reducible refine gate_dst (N := 7) rfl ?_); refine box_event ?hg (N := 7) ?hd (cs := #[.int .i64 0, .bool false]) (t := 25) ?hr ?_; (case hd => rfl); (case hg => rfl); (case hr => first | (go_simp; done) | (go_simp; rfl)); intro gb449 hg w37 hbox hb; have n0_ := Aside0.mk (below_step (by repeat (first | (with_reducible first | exact HB.out | apply below_alloc | apply pw_below_drewN | apply below_drew1) | exact HB.out)) hb); have n1_ := Aside0.mk (hbox); have n2_ := Aside0.mk ((by rw [hg]; exact (below_size (by repeat (first | (with_reducible first | exact HB.out | apply below_alloc | apply pw_below_drewN | apply below_drew1) | exact HB.out))) : w.heap.size ≤ gb449)); have n3_ := Aside0.mk ((by rw [hg]; exact (below_size (by repeat (first | (with_reducible first | exact HB.out | apply below_alloc | apply pw_below_drewN | apply below_drew1) | exact HB.out))) : w.heap.size ≤ gb449)); clear HB; have HB := n0_; have BK449 := n1_; have GW449 := n2_; have GE449 := n3_; clear n0_ n1_ n2_ n3_; clear hb hbox hg; have hcz38_0 : w37.cell? ⟨gb449, 0, none⟩ = some (.int .i64 0) := (blk_cell BK449.out 0).trans rfl; have hcz38_1 : w37.cell? ⟨gb449, 1, none⟩ = some (.bool false) := (blk_cell BK449.out 1).trans rfl; have hfz38_0 := blk_frozen BK449.out 0; have hfz38_1 := blk_frozen BK449.out 1) | ((with_reducible refine gate_callee (f := 37) rfl ?_); refine goesL_ (some 37) rfl rfl Tryd.func37 (by kernel_rfl) rfl #[.agg #[.int .i64 (wrap64 (((rd_T25 l0 0).f0) + a1)), .bool (x6_2 == 1)]] rfl (by (try simp only [List.map_toArray, List.map_cons, List.map_nil]); first | done | rfl | (simp only [List.length_drop, List.length_take]; rfl)) ?_; (with_reducible refine (spec_ToneValid.calls (wrap64 (((rd_T25 l0 0).f0) + a1)) (x6_2 == 1) false _ A17.out).mono ?_); rintro e w39 ⟨rfl, hb⟩; refine ⟨_, rfl, ?_⟩; have n0_ := Aside0.mk (blk_below (g := gb449) (o := .cells #[.int .i64 (wrap64 (((rd_T25 l0 0).f0) + a1)), .bool (x6_2 == 1)] 25 (0, 0)) (by (with_reducible repeat (first | refine blk_drewN ?_ _ | refine blk_drew ?_ | refine blk_alloc ?_ _)); refine blk_put (cs := #[.int .i64 (wrap64 (((rd_T25 l0 0).f0) + a1)), .bool false]) ?_ 1 _ rfl; (with_reducible repeat (first | refine blk_drewN ?_ _ | refine blk_drew ?_ | refine blk_alloc ?_ _)); refine blk_put (cs := #[.int .i64 0, .bool false]) ?_ 0 _ rfl; (with_reducible repeat (first | refine blk_drewN ?_ _ | refine blk_drew ?_ | refine blk_alloc ?_ _)); exact BK449.out) hb); have n1_ := Aside0.mk (below_step (by repeat (first | (with_reducible first | exact HB.out | apply below_alloc | apply pw_below_drewN | apply below_drew1 | refine below_set ?_ GE449.out) | exact HB.out)) hb); clear BK449; clear HB; have BK449 := n0_; have HB := n1_; clear n0_ n1_; (try clear hb); (try clear hb2); (try clear hk); (try clear hi)))
      go_roundg k2
      case measure => have := HJ5.out; have := HK2.out; omega
      case rel => exact ⟨(wrap64 (x6_2 + 1)), (by first | rfl | (simp; done) | (simp [*]; done)), H', ⟨by have := HJ5.out; have := HK2.out; omega⟩, ⟨by repeat (first | (with_reducible first | exact HB.out | apply below_alloc | apply pw_below_drewN | apply below_drew1 | refine below_set ?_ GE449.out) | exact HB.out)⟩⟩
     subst c18
     have H1 : ((spec_l1Height.f (wrap64 (((rd_T25 l0 0).f0) + a1)) (x6_2 == 1)).bind fun t451 => ((spec_l1Height.f ((rd_T25 l0 0).f0) ((rd_T25 l0 0).f1)).bind fun t453 => ((spec_l2Moved.f k2 l0 a1 (wrap64 (t451 - t453))).bind fun bt454 => (if bt454.2 = true then (some (bt454.1, true)) else (spec_MelodyMove.l0 k2 l0 a1 (wrap64 (x6_2 + 1))))))) = some (r1, r2) := by rw [if_pos rfl] at H; exact H
     clear H
     have H := H1
     clear H1
     replace H := Option.bind_eq_some_iff.mp H
     obtain ⟨t451, A190, H⟩ := H
     replace H : ((spec_l1Height.f ((rd_T25 l0 0).f0) ((rd_T25 l0 0).f1)).bind fun t453 => ((spec_l2Moved.f k2 l0 a1 (wrap64 (t451 - t453))).bind fun bt454 => (if bt454.2 = true then (some (bt454.1, true)) else (spec_MelodyMove.l0 k2 l0 a1 (wrap64 (x6_2 + 1)))))) = some (r1, r2) := H
     have A19 := Aside0.mk A190
     clear A190
     replace H := Option.bind_eq_some_iff.mp H
     obtain ⟨t453, A200, H⟩ := H
     replace H : ((spec_l2Moved.f k2 l0 a1 (wrap64 (t451 - t453))).bind fun bt454 => (if bt454.2 = true then (some (bt454.1, true)) else (spec_MelodyMove.l0 k2 l0 a1 (wrap64 (x6_2 + 1))))) = some (r1, r2) := H
     have A20 := Aside0.mk A200
     clear A200
     replace H := Option.bind_eq_some_iff.mp H
     obtain ⟨⟨t454, t455⟩, A210, H⟩ := H
     replace H : (if t455 = true then (some (t454, true)) else (spec_MelodyMove.l0 k2 l0 a1 (wrap64 (x6_2 + 1)))) = some (r1, r2) := H
     have A21 := Aside0.mk A210
     clear A210
     by_cases c22 : t455 = true
     ·subst c22
      have H1 : (some (t454, true)) = some (r1, r2) := by rw [if_pos rfl] at H; exact H
      clear H
      have H := H1
      clear H1
      simp only [Option.some.injEq, Prod.mk.injEq] at H
      obtain ⟨rfl, rfl⟩ := H
      have p448 : 0 ≤ (0 : Int) := (by omega)
      have q448 : 0 < (l0.length : Int) := of_decide_eq_true (by first | (with_reducible assumption) | assumption)
      obtain ⟨ad448, e448, hx448_0, hx448_1⟩ := at_T25 HR0.out 0 p448 q448
      cases e448
      have qi448 : (0 < l0.length) = True := eq_true (by omega)
      (try rw [show ((0 : Int)).toNat = 0 from rfl] at hx448_0)
      (try rw [show 0 * 2 = 0 from rfl] at hx448_0)
      (try rw [Addr.add_zero'] at hx448_0)
      (try rw [show ((0 : Int)).toNat = 0 from rfl] at hx448_1)
      (try rw [show 0 * 2 = 0 from rfl] at hx448_1)
      (try rw [Addr.add_zero'] at hx448_1)
      replace hx448_0 := (HB.out.cell (World.block_lt_of_cell? w _ hx448_0)).trans hx448_0
      replace hx448_1 := (HB.out.cell (World.block_lt_of_cell? w _ hx448_1)).trans hx448_1
      replace p448 := eq_true p448
      replace q448 := eq_true q448
      try go_wp2_with (first | ((with_reducible refine gate_dst (N := 7) rfl ?_); refine box_event ?hg (N := 7) ?hd (cs := #[.int .i64 0, .bool false]) (t := 25) ?hr ?_; (case hd => rfl); (case hg => rfl); (case hr => first | (go_simp; done) | (go_simp; rfl)); intro gb449 hg w23 hbox hb; have n0_ := Aside0.mk (below_step (by repeat (first | (with_reducible first | exact HB.out | apply below_alloc | apply pw_below_drewN | apply below_drew1) | exact HB.out)) hb); have n1_ := Aside0.mk (hbox); have n2_ := Aside0.mk ((by rw [hg]; exact (below_size (by repeat (first | (with_reducible first | exact HB.out | apply below_alloc | apply pw_below_drewN | apply below_drew1) | exact HB.out))) : w.heap.size ≤ gb449)); have n3_ := Aside0.mk ((by rw [hg]; exact (below_size (by repeat (first | (with_reducible first | exact HB.out | apply below_alloc | apply pw_below_drewN | apply below_drew1) | exact HB.out))) : w.heap.size ≤ gb449)); clear HB; have HB := n0_; have BK449 := n1_; have GW449 := n2_; have GE449 := n3_; clear n0_ n1_ n2_ n3_; clear hb hbox hg; have hcz24_0 : w23.cell? ⟨gb449, 0, none⟩ = some (.int .i64 0) := (blk_cell BK449.out 0).trans rfl; have hcz24_1 : w23.cell? ⟨gb449, 1, none⟩ = some (.bool false) := (blk_cell BK449.out 1).trans rfl; have hfz24_0 := blk_frozen BK449.out 0; have hfz24_1 := blk_frozen BK449.out 1) | ((with_reducible refine gate_callee (f := 37) rfl ?_); refine goesL_ (some 37) rfl rfl Tryd.func37 (by kernel_rfl) rfl #[.agg #[.int .i64 (wrap64 (((rd_T25 l0 0).f0) + a1)), .bool (x6_2 == 1)]] rfl (by (try simp only [List.map_toArray, List.map_cons, List.map_nil]); first | done | rfl | (simp only [List.length_drop, List.length_take]; rfl)) ?_; (with_reducible refine (spec_ToneValid.calls (wrap64 (((rd_T25 l0 0).f0) + a1)) (x6_2 == 1) true _ A17.out).mono ?_); rintro e w25 ⟨rfl, hb⟩; refine ⟨_, rfl, ?_⟩; have n0_ := Aside0.mk (blk_below (g := gb449) (o := .cells #[.int .i64 (wrap64 (((rd_T25 l0 0).f0) + a1)), .bool (x6_2 == 1)] 25 (0, 0)) (by (with_reducible repeat (first | refine blk_drewN ?_ _ | refine blk_drew ?_ | refine blk_alloc ?_ _)); refine blk_put (cs := #[.int .i64 (wrap64 (((rd_T25 l0 0).f0) + a1)), .bool false]) ?_ 1 _ rfl; (with_reducible repeat (first | refine blk_drewN ?_ _ | refine blk_drew ?_ | refine blk_alloc ?_ _)); refine blk_put (cs := #[.int .i64 0, .bool false]) ?_ 0 _ rfl; (with_reducible repeat (first | refine blk_drewN ?_ _ | refine blk_drew ?_ | refine blk_alloc ?_ _)); exact BK449.out) hb); have n1_ := Aside0.mk (below_step (by repeat (first | (with_reducible first | exact HB.out | apply below_alloc | apply pw_below_drewN | apply below_drew1 | refine below_set ?_ GE449.out) | exact HB.out)) hb); clear BK449; clear HB; have BK449 := n0_; have HB := n1_; clear n0_ n1_; (try clear hb); (try clear hb2); (try clear hk); (try clear hi)))
      have n0_ := Aside0.mk (blk_drew BK449.out)
      have n1_ := Aside0.mk (below_drew1 HB.out)
      clear BK449
      clear HB
      have BK449 := n0_
      have HB := n1_
      clear n0_ n1_
      have p452 : 0 ≤ (0 : Int) := (by omega)
      have q452 : 0 < (l0.length : Int) := of_decide_eq_true (by first | (with_reducible assumption) | assumption)
      obtain ⟨ad452, e452, hx452_0, hx452_1⟩ := at_T25 HR0.out 0 p452 q452
      have hw452_1 := hx452_1
      (try rw [show ((0 : Int)).toNat = 0 from rfl] at hw452_1)
      (try rw [show 0 * 2 = 0 from rfl] at hw452_1)
      (try rw [Addr.add_zero'] at hw452_1)
      have hw452_0 := hx452_0
      (try rw [show ((0 : Int)).toNat = 0 from rfl] at hw452_0)
      (try rw [show 0 * 2 = 0 from rfl] at hw452_0)
      (try rw [Addr.add_zero'] at hw452_0)
      obtain rfl : ad448 = ad452 := (by injection e452)
      have qi452 : (0 < l0.length) = True := eq_true (by omega)
      (try rw [show ((0 : Int)).toNat = 0 from rfl] at hx452_0)
      (try rw [show 0 * 2 = 0 from rfl] at hx452_0)
      (try rw [Addr.add_zero'] at hx452_0)
      (try rw [show ((0 : Int)).toNat = 0 from rfl] at hx452_1)
      (try rw [show 0 * 2 = 0 from rfl] at hx452_1)
      (try rw [Addr.add_zero'] at hx452_1)
      replace hx452_0 := (HB.out.cell (World.block_lt_of_cell? w _ hx452_0)).trans hx452_0
      replace hx452_1 := (HB.out.cell (World.block_lt_of_cell? w _ hx452_1)).trans hx452_1
      replace p452 := eq_true p452
      replace q452 := eq_true q452
      refine start_ (n := 15) (S := fun w' => w'.cell? ⟨gb449, 0, none⟩ = some (.int .i64 (wrap64 (((rd_T25 l0 0).f0) + a1))) ∧ w'.cell? ⟨gb449, 1, none⟩ = some (.bool (x6_2 == 1)) ∧ w'.cell? ad448 = some (.int .i64 ((rd_T25 l0 0).f0)) ∧ w'.cell? ⟨ad448.block, ad448.off + 1, none⟩ = some (.bool ((rd_T25 l0 0).f1))) (ds := []) #[false, false, false, false, false, false, false, false, false, false, false, false, false, false, false] (by kernel_rfl) rfl rfl ⟨(blk_cell BK449.out 0).trans rfl, (blk_cell BK449.out 1).trans rfl, ((HB.out.cell (World.block_lt_of_cell? w _ hw452_0)).trans hw452_0), ((HB.out.cell (World.block_lt_of_cell? w _ hw452_1)).trans hw452_1)⟩ (fun hHeld => ?_); refine with_tabW spec_MelodyMove.tab10 spec_MelodyMove.bits10 (fun HT_ HW_ => ?_)
      generalize w25.drew = w26 at BK449 HB hx452_0 hx452_1 hHeld ⊢
      refine pure_ (i := 0) (N := some 40) (v := ?_) (a' := ?_) #[true, false, false, false, false, false, false, false, false, false, false, false, false, false, false] rfl rfl (any_of HT_.out (by kernel_rfl)) (fun _ _ _ h => h) (Or.inl ⟨by rfl, ?_⟩) ?_ ?_
      rotate_left
      ·intro w'
       go_simp
       with_reducible rfl
      rotate_left
      ·simp only [Act.put, List.setIfInBounds_toArray, List.set_cons_zero, List.set_cons_succ, i64_w, i32_w]
       rfl
      refine pure_ (i := 1) (N := some 41) (v := ?_) (a' := ?_) #[true, true, false, false, false, false, false, false, false, false, false, false, false, false, false] rfl rfl (any_of HT_.out (by kernel_rfl)) (fun _ _ _ h => h) (Or.inl ⟨by rfl, ?_⟩) ?_ ?_
      rotate_left
      ·intro w'
       go_simp
       with_reducible rfl
      rotate_left
      ·simp only [Act.put, List.setIfInBounds_toArray, List.set_cons_zero, List.set_cons_succ, i64_w, i32_w]
       rfl
      refine pure_ (i := 4) (N := some 44) (v := ?_) (a' := ?_) #[true, true, false, false, true, false, false, false, false, false, false, false, false, false, false] rfl rfl (any_of HT_.out (by kernel_rfl)) (fun _ _ _ h => h) (Or.inl ⟨by rfl, ?_⟩) ?_ ?_
      rotate_left
      ·intro w'
       go_simp
       with_reducible rfl
      rotate_left
      ·simp only [Act.put, List.setIfInBounds_toArray, List.set_cons_zero, List.set_cons_succ, i64_w, i32_w]
       rfl
      refine pure_ (i := 5) (N := some 45) (v := ?_) (a' := ?_) #[true, true, false, false, true, true, false, false, false, false, false, false, false, false, false] rfl rfl (any_of HT_.out (by kernel_rfl)) (fun _ _ _ h => h) (Or.inl ⟨by rfl, ?_⟩) ?_ ?_
      rotate_left
      ·intro w'
       go_simp
       with_reducible rfl
      rotate_left
      ·simp only [Act.put, List.setIfInBounds_toArray, List.set_cons_zero, List.set_cons_succ, i64_w, i32_w]
       rfl
      refine take_ (i := 2) (N := some 42) (v := ?_) (a' := ?_) #[true, true, true, false, true, true, false, false, false, false, false, false, false, false, false] rfl rfl (take_ofW HT_.out HW_.out (by kernel_rfl)) (fun _ _ _ h => h) (Or.inl ⟨by rfl, ?_⟩) hHeld ?_ ?_
      rotate_left
      ·rintro w' ⟨s0, s1, s2, s3⟩
       go_simp
       with_reducible rfl
      rotate_left
      ·simp only [Act.put, List.setIfInBounds_toArray, List.set_cons_zero, List.set_cons_succ, i64_w, i32_w]
       rfl
      refine take_ (i := 6) (N := some 46) (v := ?_) (a' := ?_) #[true, true, true, false, true, true, true, false, false, false, false, false, false, false, false] rfl rfl (take_ofW HT_.out HW_.out (by kernel_rfl)) (fun _ _ _ h => h) (Or.inl ⟨by rfl, ?_⟩) hHeld ?_ ?_
      rotate_left
      ·rintro w' ⟨s0, s1, s2, s3⟩
       go_simp
       with_reducible rfl
      rotate_left
      ·simp only [Act.put, List.setIfInBounds_toArray, List.set_cons_zero, List.set_cons_succ, i64_w, i32_w]
       rfl
      refine one_ (i := 3) (N := some 43) #[true, true, true, true, true, true, true, false, false, false, false, false, false, false, false] rfl rfl (one_of HT_.out (by kernel_rfl)) (by decide) (fun K hK => ?_)
      refine goes_ Tryd.func59 (by kernel_rfl) rfl #[.agg #[.int .i64 (wrap64 (((rd_T25 l0 0).f0) + a1)), .bool (x6_2 == 1)]] (by rfl) rfl rfl (by (try simp only [List.map_toArray, List.map_cons, List.map_nil]); first | done | rfl | (simp only [List.length_drop, List.length_take]; rfl)) ?_
      with_reducible refine (spec_l1Height.calls (wrap64 (((rd_T25 l0 0).f0) + a1)) (x6_2 == 1) t451 _ A19.out).mono ?_
      rintro e w27 ⟨rfl, hb⟩
      refine ⟨_, rfl, ?_⟩
      have n0_ := Aside0.mk (blk_below (g := gb449) (o := .cells #[.int .i64 (wrap64 (((rd_T25 l0 0).f0) + a1)), .bool (x6_2 == 1)] 25 (0, 0)) (by (with_reducible repeat (first | refine blk_drewN ?_ _ | refine blk_drew ?_ | refine blk_alloc ?_ _)); exact BK449.out) hb)
      have n1_ := Aside0.mk (below_step (by repeat (first | (with_reducible first | exact HB.out | apply below_alloc | apply pw_below_drewN | apply below_drew1 | refine below_set ?_ GE449.out) | exact HB.out)) hb)
      clear BK449
      clear HB
      have BK449 := n0_
      have HB := n1_
      clear n0_ n1_
      (try clear hb)
      (try clear hb2)
      (try clear hk)
      (try clear hi)
      refine hK.out _ _ ⟨(blk_cell BK449.out 0).trans rfl, (blk_cell BK449.out 1).trans rfl, ((HB.out.cell (World.block_lt_of_cell? w _ hw452_0)).trans hw452_0), ((HB.out.cell (World.block_lt_of_cell? w _ hw452_1)).trans hw452_1)⟩ (fun hHeld => ?_)
      clear hK K
      refine norm_ (a' := ?_) ?_ ?_
      rotate_left
      ·show Act.put _ (some 43) _ = _
       simp only [Act.put, List.setIfInBounds_toArray, List.set_cons_zero, List.set_cons_succ, i64_w, i32_w]
       rfl
      refine one_ (i := 7) (N := some 47) #[true, true, true, true, true, true, true, true, false, false, false, false, false, false, false] rfl rfl (one_of HT_.out (by kernel_rfl)) (by decide) (fun K hK => ?_)
      refine goes_ Tryd.func59 (by kernel_rfl) rfl #[.agg #[.int .i64 ((rd_T25 l0 0).f0), .bool ((rd_T25 l0 0).f1)]] (by rfl) rfl rfl (by (try simp only [List.map_toArray, List.map_cons, List.map_nil]); first | done | rfl | (simp only [List.length_drop, List.length_take]; rfl)) ?_
      with_reducible refine (spec_l1Height.calls ((rd_T25 l0 0).f0) ((rd_T25 l0 0).f1) t453 _ A20.out).mono ?_
      rintro e w28 ⟨rfl, hb⟩
      refine ⟨_, rfl, ?_⟩
      have n0_ := Aside0.mk (blk_below (g := gb449) (o := .cells #[.int .i64 (wrap64 (((rd_T25 l0 0).f0) + a1)), .bool (x6_2 == 1)] 25 (0, 0)) (by (with_reducible repeat (first | refine blk_drewN ?_ _ | refine blk_drew ?_ | refine blk_alloc ?_ _)); exact BK449.out) hb)
      have n1_ := Aside0.mk (below_step (by repeat (first | (with_reducible first | exact HB.out | apply below_alloc | apply pw_below_drewN | apply below_drew1 | refine below_set ?_ GE449.out) | exact HB.out)) hb)
      clear BK449
      clear HB
      have BK449 := n0_
      have HB := n1_
      clear n0_ n1_
      (try clear hb)
      (try clear hb2)
      (try clear hk)
      (try clear hi)
      refine hK.out _ _ ⟨(blk_cell BK449.out 0).trans rfl, (blk_cell BK449.out 1).trans rfl, ((HB.out.cell (World.block_lt_of_cell? w _ hw452_0)).trans hw452_0), ((HB.out.cell (World.block_lt_of_cell? w _ hw452_1)).trans hw452_1)⟩ (fun hHeld => ?_)
      clear hK K
      refine norm_ (a' := ?_) ?_ ?_
      rotate_left
      ·show Act.put _ (some 47) _ = _
       simp only [Act.put, List.setIfInBounds_toArray, List.set_cons_zero, List.set_cons_succ, i64_w, i32_w]
       rfl
      refine pure_ (i := 8) (N := some 48) (v := ?_) (a' := ?_) #[true, true, true, true, true, true, true, true, true, false, false, false, false, false, false] rfl rfl (any_of HT_.out (by kernel_rfl)) (fun _ _ _ h => h) (Or.inl ⟨by rfl, ?_⟩) ?_ ?_
      rotate_left
      ·intro w'
       go_simp
       with_reducible rfl
      rotate_left
      ·simp only [Act.put, List.setIfInBounds_toArray, List.set_cons_zero, List.set_cons_succ, i64_w, i32_w]
       rfl
      refine one_ (i := 9) (N := some 49) #[true, true, true, true, true, true, true, true, true, true, false, false, false, false, false] rfl rfl (one_of HT_.out (by kernel_rfl)) (by decide) (fun K hK => ?_)
      refine goes_ Tryd.func58 (by kernel_rfl) rfl #[.slice (some ad448) l0.length c0, .int .i64 a1, .int .i64 (wrap64 (t451 - t453))] (by rfl) rfl rfl (by (try simp only [List.map_toArray, List.map_cons, List.map_nil]); first | done | rfl | (simp only [List.length_drop, List.length_take]; rfl)) ?_
      with_reducible refine (spec_l2Moved.calls k2 _ _ l0 a1 (wrap64 (t451 - t453)) t454 true _ ?side1 ?side2 A21.out).mono ?_
      (case side1 => repeat (first | exact (Kd.C_below HR0.out HB.out) | (with_reducible refine Kd.C_alloc ?_ _) | (with_reducible refine Kd.C_drewN ?_ _) | (with_reducible refine Kd.C_drew ?_)))
      (case side2 => exact HC0.out)
      rintro e w29 ⟨v456, rfl, ho0, hb⟩
      refine ⟨_, rfl, ?_⟩
      have n0_ := Aside0.mk (Kd.R_lower (Kd.R_newB ho0 (g := gb449) (o := .cells #[.int .i64 (wrap64 (((rd_T25 l0 0).f0) + a1)), .bool (x6_2 == 1)] 25 (0, 0)) (by (with_reducible repeat (first | refine blk_drewN ?_ _ | refine blk_drew ?_ | refine blk_alloc ?_ _)); exact BK449.out)) (below_size (by repeat (first | (with_reducible first | exact HB.out | apply below_alloc | apply pw_below_drewN | apply below_drew1 | refine below_set ?_ GE449.out) | exact HB.out))))
      have n1_ := Aside0.mk (blk_below (g := gb449) (o := .cells #[.int .i64 (wrap64 (((rd_T25 l0 0).f0) + a1)), .bool (x6_2 == 1)] 25 (0, 0)) (by (with_reducible repeat (first | refine blk_drewN ?_ _ | refine blk_drew ?_ | refine blk_alloc ?_ _)); exact BK449.out) hb)
      have n2_ := Aside0.mk (below_step (by repeat (first | (with_reducible first | exact HB.out | apply below_alloc | apply pw_below_drewN | apply below_drew1 | refine below_set ?_ GE449.out) | exact HB.out)) hb)
      clear BK449
      clear HB
      have HO457 := n0_
      have BK449 := n1_
      have HB := n2_
      clear n0_ n1_ n2_
      (try clear hb)
      (try clear hb2)
      (try clear hk)
      (try clear hi)
      (try clear ho0)
      refine hK.out _ _ ⟨(blk_cell BK449.out 0).trans rfl, (blk_cell BK449.out 1).trans rfl, ((HB.out.cell (World.block_lt_of_cell? w _ hw452_0)).trans hw452_0), ((HB.out.cell (World.block_lt_of_cell? w _ hw452_1)).trans hw452_1)⟩ (fun hHeld => ?_)
      clear hK K
      refine norm_ (a' := ?_) ?_ ?_
      rotate_left
      ·show Act.put _ (some 49) _ = _
       simp only [Act.put, List.setIfInBounds_toArray, List.set_cons_zero, List.set_cons_succ, i64_w, i32_w]
       rfl
      refine pure_ (i := 10) (N := some 39) (v := ?_) (a' := ?_) #[true, true, true, true, true, true, true, true, true, true, true, false, false, false, false] rfl rfl (any_of HT_.out (by kernel_rfl)) (fun _ _ _ h => h) (Or.inl ⟨by rfl, ?_⟩) ?_ ?_
      rotate_left
      ·intro w'
       go_simp
       with_reducible rfl
      rotate_left
      ·simp only [Act.put, List.setIfInBounds_toArray, List.set_cons_zero, List.set_cons_succ, i64_w, i32_w]
       rfl
      refine pure_ (i := 11) (N := some 50) (v := ?_) (a' := ?_) #[true, true, true, true, true, true, true, true, true, true, true, true, false, false, false] rfl rfl (any_of HT_.out (by kernel_rfl)) (fun _ _ _ h => h) (Or.inl ⟨by rfl, ?_⟩) ?_ ?_
      rotate_left
      ·intro w'
       go_simp
       with_reducible rfl
      rotate_left
      ·simp only [Act.put, List.setIfInBounds_toArray, List.set_cons_zero, List.set_cons_succ, i64_w, i32_w]
       rfl
      refine pure_ (i := 12) (N := some 51) (v := ?_) (a' := ?_) #[true, true, true, true, true, true, true, true, true, true, true, true, true, false, false] rfl rfl (any_of HT_.out (by kernel_rfl)) (fun _ _ _ h => h) (Or.inl ⟨by rfl, ?_⟩) ?_ ?_
      rotate_left
      ·intro w'
       go_simp
       with_reducible rfl
      rotate_left
      ·simp only [Act.put, List.setIfInBounds_toArray, List.set_cons_zero, List.set_cons_succ, i64_w, i32_w]
       rfl
      refine pure_ (i := 13) (N := some 8) (v := ?_) (a' := ?_) #[true, true, true, true, true, true, true, true, true, true, true, true, true, true, false] rfl rfl (any_of HT_.out (by kernel_rfl)) (fun _ _ _ h => h) (Or.inl ⟨by rfl, ?_⟩) ?_ ?_
      rotate_left
      ·intro w'
       go_simp
       with_reducible rfl
      rotate_left
      ·simp only [Act.put, List.setIfInBounds_toArray, List.set_cons_zero, List.set_cons_succ, i64_w, i32_w]
       rfl
      refine pure_ (i := 14) (N := some 9) (v := ?_) (a' := ?_) #[true, true, true, true, true, true, true, true, true, true, true, true, true, true, true] rfl rfl (any_of HT_.out (by kernel_rfl)) (fun _ _ _ h => h) (Or.inl ⟨by rfl, ?_⟩) ?_ ?_
      rotate_left
      ·intro w'
       go_simp
       with_reducible rfl
      rotate_left
      ·simp only [Act.put, List.setIfInBounds_toArray, List.set_cons_zero, List.set_cons_succ, i64_w, i32_w]
       rfl
      refine done_ (done_of HT_.out (by kernel_rfl)) ?_
      try go_wp2
      go_ret2
      exact ⟨_, by first | rfl | (simp [errW_none, errW_some] <;> rfl) | (simp [*, errW_none, errW_some] <;> rfl), by (with_reducible repeat (first | apply Kd.R_alloc | apply Kd.R_drewN | apply Kd.R_drew)); exact Kd.R_mono HO457.out (fun _ hk => trivial), by repeat (first | (with_reducible first | exact HB.out | apply below_alloc | apply pw_below_drewN | apply below_drew1 | refine below_set ?_ GE449.out) | exact HB.out)⟩
     replace c22 := Bool.eq_false_iff.mpr c22
     subst c22
     have H1 : (spec_MelodyMove.l0 k2 l0 a1 (wrap64 (x6_2 + 1))) = some (r1, r2) := by rw [if_neg (show ¬ (false = true) by decide)] at H; exact H
     clear H
     have H := H1
     clear H1
     have H' := Aside0.mk H
     clear H
     have p448 : 0 ≤ (0 : Int) := (by omega)
     have q448 : 0 < (l0.length : Int) := of_decide_eq_true (by first | (with_reducible assumption) | assumption)
     obtain ⟨ad448, e448, hx448_0, hx448_1⟩ := at_T25 HR0.out 0 p448 q448
     cases e448
     have qi448 : (0 < l0.length) = True := eq_true (by omega)
     (try rw [show ((0 : Int)).toNat = 0 from rfl] at hx448_0)
     (try rw [show 0 * 2 = 0 from rfl] at hx448_0)
     (try rw [Addr.add_zero'] at hx448_0)
     (try rw [show ((0 : Int)).toNat = 0 from rfl] at hx448_1)
     (try rw [show 0 * 2 = 0 from rfl] at hx448_1)
     (try rw [Addr.add_zero'] at hx448_1)
     replace hx448_0 := (HB.out.cell (World.block_lt_of_cell? w _ hx448_0)).trans hx448_0
     replace hx448_1 := (HB.out.cell (World.block_lt_of_cell? w _ hx448_1)).trans hx448_1
     replace p448 := eq_true p448
     replace q448 := eq_true q448
     try go_wp2_with (first | ((with_reducible refine gate_dst (N := 7) rfl ?_); refine box_event ?hg (N := 7) ?hd (cs := #[.int .i64 0, .bool false]) (t := 25) ?hr ?_; (case hd => rfl); (case hg => rfl); (case hr => first | (go_simp; done) | (go_simp; rfl)); intro gb449 hg w30 hbox hb; have n0_ := Aside0.mk (below_step (by repeat (first | (with_reducible first | exact HB.out | apply below_alloc | apply pw_below_drewN | apply below_drew1) | exact HB.out)) hb); have n1_ := Aside0.mk (hbox); have n2_ := Aside0.mk ((by rw [hg]; exact (below_size (by repeat (first | (with_reducible first | exact HB.out | apply below_alloc | apply pw_below_drewN | apply below_drew1) | exact HB.out))) : w.heap.size ≤ gb449)); have n3_ := Aside0.mk ((by rw [hg]; exact (below_size (by repeat (first | (with_reducible first | exact HB.out | apply below_alloc | apply pw_below_drewN | apply below_drew1) | exact HB.out))) : w.heap.size ≤ gb449)); clear HB; have HB := n0_; have BK449 := n1_; have GW449 := n2_; have GE449 := n3_; clear n0_ n1_ n2_ n3_; clear hb hbox hg; have hcz31_0 : w30.cell? ⟨gb449, 0, none⟩ = some (.int .i64 0) := (blk_cell BK449.out 0).trans rfl; have hcz31_1 : w30.cell? ⟨gb449, 1, none⟩ = some (.bool false) := (blk_cell BK449.out 1).trans rfl; have hfz31_0 := blk_frozen BK449.out 0; have hfz31_1 := blk_frozen BK449.out 1) | ((with_reducible refine gate_callee (f := 37) rfl ?_); refine goesL_ (some 37) rfl rfl Tryd.func37 (by kernel_rfl) rfl #[.agg #[.int .i64 (wrap64 (((rd_T25 l0 0).f0) + a1)), .bool (x6_2 == 1)]] rfl (by (try simp only [List.map_toArray, List.map_cons, List.map_nil]); first | done | rfl | (simp only [List.length_drop, List.length_take]; rfl)) ?_; (with_reducible refine (spec_ToneValid.calls (wrap64 (((rd_T25 l0 0).f0) + a1)) (x6_2 == 1) true _ A17.out).mono ?_); rintro e w32 ⟨rfl, hb⟩; refine ⟨_, rfl, ?_⟩; have n0_ := Aside0.mk (blk_below (g := gb449) (o := .cells #[.int .i64 (wrap64 (((rd_T25 l0 0).f0) + a1)), .bool (x6_2 == 1)] 25 (0, 0)) (by (with_reducible repeat (first | refine blk_drewN ?_ _ | refine blk_drew ?_ | refine blk_alloc ?_ _)); refine blk_put (cs := #[.int .i64 (wrap64 (((rd_T25 l0 0).f0) + a1)), .bool false]) ?_ 1 _ rfl; (with_reducible repeat (first | refine blk_drewN ?_ _ | refine blk_drew ?_ | refine blk_alloc ?_ _)); refine blk_put (cs := #[.int .i64 0, .bool false]) ?_ 0 _ rfl; (with_reducible repeat (first | refine blk_drewN ?_ _ | refine blk_drew ?_ | refine blk_alloc ?_ _)); exact BK449.out) hb); have n1_ := Aside0.mk (below_step (by repeat (first | (with_reducible first | exact HB.out | apply below_alloc | apply pw_below_drewN | apply below_drew1 | refine below_set ?_ GE449.out) | exact HB.out)) hb); clear BK449; clear HB; have BK449 := n0_; have HB := n1_; clear n0_ n1_; (try clear hb); (try clear hb2); (try clear hk); (try clear hi)))
     have n0_ := Aside0.mk (blk_drew BK449.out)
     have n1_ := Aside0.mk (below_drew1 HB.out)
     clear BK449
     clear HB
     have BK449 := n0_
     have HB := n1_
     clear n0_ n1_
     have p452 : 0 ≤ (0 : Int) := (by omega)
     have q452 : 0 < (l0.length : Int) := of_decide_eq_true (by first | (with_reducible assumption) | assumption)
     obtain ⟨ad452, e452, hx452_0, hx452_1⟩ := at_T25 HR0.out 0 p452 q452
     have hw452_1 := hx452_1
     (try rw [show ((0 : Int)).toNat = 0 from rfl] at hw452_1)
     (try rw [show 0 * 2 = 0 from rfl] at hw452_1)
     (try rw [Addr.add_zero'] at hw452_1)
     have hw452_0 := hx452_0
     (try rw [show ((0 : Int)).toNat = 0 from rfl] at hw452_0)
     (try rw [show 0 * 2 = 0 from rfl] at hw452_0)
     (try rw [Addr.add_zero'] at hw452_0)
     obtain rfl : ad448 = ad452 := (by injection e452)
     have qi452 : (0 < l0.length) = True := eq_true (by omega)
     (try rw [show ((0 : Int)).toNat = 0 from rfl] at hx452_0)
     (try rw [show 0 * 2 = 0 from rfl] at hx452_0)
     (try rw [Addr.add_zero'] at hx452_0)
     (try rw [show ((0 : Int)).toNat = 0 from rfl] at hx452_1)
     (try rw [show 0 * 2 = 0 from rfl] at hx452_1)
     (try rw [Addr.add_zero'] at hx452_1)
     replace hx452_0 := (HB.out.cell (World.block_lt_of_cell? w _ hx452_0)).trans hx452_0
     replace hx452_1 := (HB.out.cell (World.block_lt_of_cell? w _ hx452_1)).trans hx452_1
     replace p452 := eq_true p452
     replace q452 := eq_true q452
     refine start_ (n := 15) (S := fun w' => w'.cell? ⟨gb449, 0, none⟩ = some (.int .i64 (wrap64 (((rd_T25 l0 0).f0) + a1))) ∧ w'.cell? ⟨gb449, 1, none⟩ = some (.bool (x6_2 == 1)) ∧ w'.cell? ad448 = some (.int .i64 ((rd_T25 l0 0).f0)) ∧ w'.cell? ⟨ad448.block, ad448.off + 1, none⟩ = some (.bool ((rd_T25 l0 0).f1))) (ds := []) #[false, false, false, false, false, false, false, false, false, false, false, false, false, false, false] (by kernel_rfl) rfl rfl ⟨(blk_cell BK449.out 0).trans rfl, (blk_cell BK449.out 1).trans rfl, ((HB.out.cell (World.block_lt_of_cell? w _ hw452_0)).trans hw452_0), ((HB.out.cell (World.block_lt_of_cell? w _ hw452_1)).trans hw452_1)⟩ (fun hHeld => ?_); refine with_tabW spec_MelodyMove.tab10 spec_MelodyMove.bits10 (fun HT_ HW_ => ?_)
     generalize w32.drew = w33 at BK449 HB hx452_0 hx452_1 hHeld ⊢
     refine pure_ (i := 0) (N := some 40) (v := ?_) (a' := ?_) #[true, false, false, false, false, false, false, false, false, false, false, false, false, false, false] rfl rfl (any_of HT_.out (by kernel_rfl)) (fun _ _ _ h => h) (Or.inl ⟨by rfl, ?_⟩) ?_ ?_
     rotate_left
     ·intro w'
      go_simp
      with_reducible rfl
     rotate_left
     ·simp only [Act.put, List.setIfInBounds_toArray, List.set_cons_zero, List.set_cons_succ, i64_w, i32_w]
      rfl
     refine pure_ (i := 1) (N := some 41) (v := ?_) (a' := ?_) #[true, true, false, false, false, false, false, false, false, false, false, false, false, false, false] rfl rfl (any_of HT_.out (by kernel_rfl)) (fun _ _ _ h => h) (Or.inl ⟨by rfl, ?_⟩) ?_ ?_
     rotate_left
     ·intro w'
      go_simp
      with_reducible rfl
     rotate_left
     ·simp only [Act.put, List.setIfInBounds_toArray, List.set_cons_zero, List.set_cons_succ, i64_w, i32_w]
      rfl
     refine pure_ (i := 4) (N := some 44) (v := ?_) (a' := ?_) #[true, true, false, false, true, false, false, false, false, false, false, false, false, false, false] rfl rfl (any_of HT_.out (by kernel_rfl)) (fun _ _ _ h => h) (Or.inl ⟨by rfl, ?_⟩) ?_ ?_
     rotate_left
     ·intro w'
      go_simp
      with_reducible rfl
     rotate_left
     ·simp only [Act.put, List.setIfInBounds_toArray, List.set_cons_zero, List.set_cons_succ, i64_w, i32_w]
      rfl
     refine pure_ (i := 5) (N := some 45) (v := ?_) (a' := ?_) #[true, true, false, false, true, true, false, false, false, false, false, false, false, false, false] rfl rfl (any_of HT_.out (by kernel_rfl)) (fun _ _ _ h => h) (Or.inl ⟨by rfl, ?_⟩) ?_ ?_
     rotate_left
     ·intro w'
      go_simp
      with_reducible rfl
     rotate_left
     ·simp only [Act.put, List.setIfInBounds_toArray, List.set_cons_zero, List.set_cons_succ, i64_w, i32_w]
      rfl
     refine take_ (i := 2) (N := some 42) (v := ?_) (a' := ?_) #[true, true, true, false, true, true, false, false, false, false, false, false, false, false, false] rfl rfl (take_ofW HT_.out HW_.out (by kernel_rfl)) (fun _ _ _ h => h) (Or.inl ⟨by rfl, ?_⟩) hHeld ?_ ?_
     rotate_left
     ·rintro w' ⟨s0, s1, s2, s3⟩
      go_simp
      with_reducible rfl
     rotate_left
     ·simp only [Act.put, List.setIfInBounds_toArray, List.set_cons_zero, List.set_cons_succ, i64_w, i32_w]
      rfl
     refine take_ (i := 6) (N := some 46) (v := ?_) (a' := ?_) #[true, true, true, false, true, true, true, false, false, false, false, false, false, false, false] rfl rfl (take_ofW HT_.out HW_.out (by kernel_rfl)) (fun _ _ _ h => h) (Or.inl ⟨by rfl, ?_⟩) hHeld ?_ ?_
     rotate_left
     ·rintro w' ⟨s0, s1, s2, s3⟩
      go_simp
      with_reducible rfl
     rotate_left
     ·simp only [Act.put, List.setIfInBounds_toArray, List.set_cons_zero, List.set_cons_succ, i64_w, i32_w]
      rfl
     refine one_ (i := 3) (N := some 43) #[true, true, true, true, true, true, true, false, false, false, false, false, false, false, false] rfl rfl (one_of HT_.out (by kernel_rfl)) (by decide) (fun K hK => ?_)
     refine goes_ Tryd.func59 (by kernel_rfl) rfl #[.agg #[.int .i64 (wrap64 (((rd_T25 l0 0).f0) + a1)), .bool (x6_2 == 1)]] (by rfl) rfl rfl (by (try simp only [List.map_toArray, List.map_cons, List.map_nil]); first | done | rfl | (simp only [List.length_drop, List.length_take]; rfl)) ?_
     with_reducible refine (spec_l1Height.calls (wrap64 (((rd_T25 l0 0).f0) + a1)) (x6_2 == 1) t451 _ A19.out).mono ?_
     rintro e w34 ⟨rfl, hb⟩
     refine ⟨_, rfl, ?_⟩
     have n0_ := Aside0.mk (blk_below (g := gb449) (o := .cells #[.int .i64 (wrap64 (((rd_T25 l0 0).f0) + a1)), .bool (x6_2 == 1)] 25 (0, 0)) (by (with_reducible repeat (first | refine blk_drewN ?_ _ | refine blk_drew ?_ | refine blk_alloc ?_ _)); exact BK449.out) hb)
     have n1_ := Aside0.mk (below_step (by repeat (first | (with_reducible first | exact HB.out | apply below_alloc | apply pw_below_drewN | apply below_drew1 | refine below_set ?_ GE449.out) | exact HB.out)) hb)
     clear BK449
     clear HB
     have BK449 := n0_
     have HB := n1_
     clear n0_ n1_
     (try clear hb)
     (try clear hb2)
     (try clear hk)
     (try clear hi)
     refine hK.out _ _ ⟨(blk_cell BK449.out 0).trans rfl, (blk_cell BK449.out 1).trans rfl, ((HB.out.cell (World.block_lt_of_cell? w _ hw452_0)).trans hw452_0), ((HB.out.cell (World.block_lt_of_cell? w _ hw452_1)).trans hw452_1)⟩ (fun hHeld => ?_)
     clear hK K
     refine norm_ (a' := ?_) ?_ ?_
     rotate_left
     ·show Act.put _ (some 43) _ = _
      simp only [Act.put, List.setIfInBounds_toArray, List.set_cons_zero, List.set_cons_succ, i64_w, i32_w]
      rfl
     refine one_ (i := 7) (N := some 47) #[true, true, true, true, true, true, true, true, false, false, false, false, false, false, false] rfl rfl (one_of HT_.out (by kernel_rfl)) (by decide) (fun K hK => ?_)
     refine goes_ Tryd.func59 (by kernel_rfl) rfl #[.agg #[.int .i64 ((rd_T25 l0 0).f0), .bool ((rd_T25 l0 0).f1)]] (by rfl) rfl rfl (by (try simp only [List.map_toArray, List.map_cons, List.map_nil]); first | done | rfl | (simp only [List.length_drop, List.length_take]; rfl)) ?_
     with_reducible refine (spec_l1Height.calls ((rd_T25 l0 0).f0) ((rd_T25 l0 0).f1) t453 _ A20.out).mono ?_
     rintro e w35 ⟨rfl, hb⟩
     refine ⟨_, rfl, ?_⟩
     have n0_ := Aside0.mk (blk_below (g := gb449) (o := .cells #[.int .i64 (wrap64 (((rd_T25 l0 0).f0) + a1)), .bool (x6_2 == 1)] 25 (0, 0)) (by (with_reducible repeat (first | refine blk_drewN ?_ _ | refine blk_drew ?_ | refine blk_alloc ?_ _)); exact BK449.out) hb)
     have n1_ := Aside0.mk (below_step (by repeat (first | (with_reducible first | exact HB.out | apply below_alloc | apply pw_below_drewN | apply below_drew1 | refine below_set ?_ GE449.out) | exact HB.out)) hb)
     clear BK449
     clear HB
     have BK449 := n0_
     have HB := n1_
     clear n0_ n1_
     (try clear hb)
     (try clear hb2)
     (try clear hk)
     (try clear hi)
     refine hK.out _ _ ⟨(blk_cell BK449.out 0).trans rfl, (blk_cell BK449.out 1).trans rfl, ((HB.out.cell (World.block_lt_of_cell? w _ hw452_0)).trans hw452_0), ((HB.out.cell (World.block_lt_of_cell? w _ hw452_1)).trans hw452_1)⟩ (fun hHeld => ?_)
     clear hK K
     refine norm_ (a' := ?_) ?_ ?_
     rotate_left
     ·show Act.put _ (some 47) _ = _
      simp only [Act.put, List.setIfInBounds_toArray, List.set_cons_zero, List.set_cons_succ, i64_w, i32_w]
      rfl
     refine pure_ (i := 8) (N := some 48) (v := ?_) (a' := ?_) #[true, true, true, true, true, true, true, true, true, false, false, false, false, false, false] rfl rfl (any_of HT_.out (by kernel_rfl)) (fun _ _ _ h => h) (Or.inl ⟨by rfl, ?_⟩) ?_ ?_
     rotate_left
     ·intro w'
      go_simp
      with_reducible rfl
     rotate_left
     ·simp only [Act.put, List.setIfInBounds_toArray, List.set_cons_zero, List.set_cons_succ, i64_w, i32_w]
      rfl
     refine one_ (i := 9) (N := some 49) #[true, true, true, true, true, true, true, true, true, true, false, false, false, false, false] rfl rfl (one_of HT_.out (by kernel_rfl)) (by decide) (fun K hK => ?_)
     refine goes_ Tryd.func58 (by kernel_rfl) rfl #[.slice (some ad448) l0.length c0, .int .i64 a1, .int .i64 (wrap64 (t451 - t453))] (by rfl) rfl rfl (by (try simp only [List.map_toArray, List.map_cons, List.map_nil]); first | done | rfl | (simp only [List.length_drop, List.length_take]; rfl)) ?_
     with_reducible refine (spec_l2Moved.calls k2 _ _ l0 a1 (wrap64 (t451 - t453)) t454 false _ ?side1 ?side2 A21.out).mono ?_
     (case side1 => repeat (first | exact (Kd.C_below HR0.out HB.out) | (with_reducible refine Kd.C_alloc ?_ _) | (with_reducible refine Kd.C_drewN ?_ _) | (with_reducible refine Kd.C_drew ?_)))
     (case side2 => exact HC0.out)
     rintro e w36 ⟨v456, rfl, ho0, hb⟩
     refine ⟨_, rfl, ?_⟩
     have n0_ := Aside0.mk (Kd.R_lower (Kd.R_newB ho0 (g := gb449) (o := .cells #[.int .i64 (wrap64 (((rd_T25 l0 0).f0) + a1)), .bool (x6_2 == 1)] 25 (0, 0)) (by (with_reducible repeat (first | refine blk_drewN ?_ _ | refine blk_drew ?_ | refine blk_alloc ?_ _)); exact BK449.out)) (below_size (by repeat (first | (with_reducible first | exact HB.out | apply below_alloc | apply pw_below_drewN | apply below_drew1 | refine below_set ?_ GE449.out) | exact HB.out))))
     have n1_ := Aside0.mk (blk_below (g := gb449) (o := .cells #[.int .i64 (wrap64 (((rd_T25 l0 0).f0) + a1)), .bool (x6_2 == 1)] 25 (0, 0)) (by (with_reducible repeat (first | refine blk_drewN ?_ _ | refine blk_drew ?_ | refine blk_alloc ?_ _)); exact BK449.out) hb)
     have n2_ := Aside0.mk (below_step (by repeat (first | (with_reducible first | exact HB.out | apply below_alloc | apply pw_below_drewN | apply below_drew1 | refine below_set ?_ GE449.out) | exact HB.out)) hb)
     clear BK449
     clear HB
     have HO457 := n0_
     have BK449 := n1_
     have HB := n2_
     clear n0_ n1_ n2_
     (try clear hb)
     (try clear hb2)
     (try clear hk)
     (try clear hi)
     (try clear ho0)
     refine hK.out _ _ ⟨(blk_cell BK449.out 0).trans rfl, (blk_cell BK449.out 1).trans rfl, ((HB.out.cell (World.block_lt_of_cell? w _ hw452_0)).trans hw452_0), ((HB.out.cell (World.block_lt_of_cell? w _ hw452_1)).trans hw452_1)⟩ (fun hHeld => ?_)
     clear hK K
     refine norm_ (a' := ?_) ?_ ?_
     rotate_left
     ·show Act.put _ (some 49) _ = _
      simp only [Act.put, List.setIfInBounds_toArray, List.set_cons_zero, List.set_cons_succ, i64_w, i32_w]
      rfl
     refine pure_ (i := 10) (N := some 39) (v := ?_) (a' := ?_) #[true, true, true, true, true, true, true, true, true, true, true, false, false, false, false] rfl rfl (any_of HT_.out (by kernel_rfl)) (fun _ _ _ h => h) (Or.inl ⟨by rfl, ?_⟩) ?_ ?_
     rotate_left
     ·intro w'
      go_simp
      with_reducible rfl
     rotate_left
     ·simp only [Act.put, List.setIfInBounds_toArray, List.set_cons_zero, List.set_cons_succ, i64_w, i32_w]
      rfl
     refine pure_ (i := 11) (N := some 50) (v := ?_) (a' := ?_) #[true, true, true, true, true, true, true, true, true, true, true, true, false, false, false] rfl rfl (any_of HT_.out (by kernel_rfl)) (fun _ _ _ h => h) (Or.inl ⟨by rfl, ?_⟩) ?_ ?_
     rotate_left
     ·intro w'
      go_simp
      with_reducible rfl
     rotate_left
     ·simp only [Act.put, List.setIfInBounds_toArray, List.set_cons_zero, List.set_cons_succ, i64_w, i32_w]
      rfl
     refine pure_ (i := 12) (N := some 51) (v := ?_) (a' := ?_) #[true, true, true, true, true, true, true, true, true, true, true, true, true, false, false] rfl rfl (any_of HT_.out (by kernel_rfl)) (fun _ _ _ h => h) (Or.inl ⟨by rfl, ?_⟩) ?_ ?_
     rotate_left
     ·intro w'
      go_simp
      with_reducible rfl
     rotate_left
     ·simp only [Act.put, List.setIfInBounds_toArray, List.set_cons_zero, List.set_cons_succ, i64_w, i32_w]
      rfl
     refine pure_ (i := 13) (N := some 8) (v := ?_) (a' := ?_) #[true, true, true, true, true, true, true, true, true, true, true, true, true, true, false] rfl rfl (any_of HT_.out (by kernel_rfl)) (fun _ _ _ h => h) (Or.inl ⟨by rfl, ?_⟩) ?_ ?_
     rotate_left
     ·intro w'
      go_simp
      with_reducible rfl
     rotate_left
     ·simp only [Act.put, List.setIfInBounds_toArray, List.set_cons_zero, List.set_cons_succ, i64_w, i32_w]
      rfl
     refine pure_ (i := 14) (N := some 9) (v := ?_) (a' := ?_) #[true, true, true, true, true, true, true, true, true, true, true, true, true, true, true] rfl rfl (any_of HT_.out (by kernel_rfl)) (fun _ _ _ h => h) (Or.inl ⟨by rfl, ?_⟩) ?_ ?_
     rotate_left
     ·intro w'
      go_simp
      with_reducible rfl
     rotate_left
     ·simp only [Act.put, List.setIfInBounds_toArray, List.set_cons_zero, List.set_cons_succ, i64_w, i32_w]
      rfl
     refine done_ (done_of HT_.out (by kernel_rfl)) ?_
     try go_wp2
     go_roundg k2
     case measure => have := HJ5.out; have := HK2.out; omega
     case rel => exact ⟨(wrap64 (x6_2 + 1)), (by first | rfl | (simp; done) | (simp [*]; done)), H', ⟨by have := HJ5.out; have := HK2.out; omega⟩, ⟨by repeat (first | (with_reducible first | exact HB.out | apply below_alloc | apply pw_below_drewN | apply below_drew1 | refine below_set ?_ GE449.out) | exact HB.out)⟩⟩
end Go.Proofs.YtlinjleahnccgaaDoor.E
end
section
namespace Go.Proofs.YtlinjleahnccgaaDoor.E
open Go.RowKit Go.Proofs.YtlinjleahnccgaaDoorW.PrintWords Go.Proofs.YtlinjleahnccgaaDoorW.PrintLast Go.Proofs.YtlinjleahnccgaaDoorW.PrintMore
attribute [local go_sem] max2_int min2_int max_two min_two max_three min_three max_four min_four
set_option linter.unusedVariables false
set_option linter.unusedSimpArgs false
attribute [local go_sem] str_leq_ str_gtr_ str_geq_
theorem eqA25 (d : Nat) (w : World) (x0 y0 : Int) (x1 y1 : Bool) :
  (Op.equalIn (d + 2) 25 (.agg #[.int .i64 x0, .bool x1]) (.agg #[.int .i64 y0, .bool y1])).run Tryd.prog w = .ok (x0 == y0 && (x1 == y1)) w := by
 refine eqA_of Tryd.underlying25 (by kernel_rfl) ?_
 refine eqf_cons (by rfl) (by go_simp; rfl) (by go_simp; rfl) (by go_simp) ?_
 exact eqf_last (by rfl) (by go_simp; rfl) (by go_simp; rfl) (by go_simp)
end Go.Proofs.YtlinjleahnccgaaDoor.E
end
section
namespace Go.Proofs.YtlinjleahnccgaaDoor.E
open Go.RowKit Go.Proofs.YtlinjleahnccgaaDoorW.PrintWords Go.Proofs.YtlinjleahnccgaaDoorW.PrintLast Go.Proofs.YtlinjleahnccgaaDoorW.PrintMore
attribute [local go_sem] max2_int min2_int max_two min_two max_three min_three max_four min_four
set_option linter.unusedVariables false
set_option linter.unusedSimpArgs false
attribute [local go_sem high] eqA25
attribute [local go_sem] str_leq_ str_gtr_ str_geq_
def laws_sameTones.l0 : Nat → List (S25) → List (S25) → Int → Option (Bool)
 | 0, _, _, _ => none
 | k + 1, x0, x1, x5 => if x5 < (x0.length : Int) then (if 0 ≤ x5 then (if x5 < (x1.length : Int) then (if (!(((rd_T25 x0 x5).f0) == ((rd_T25 x1 x5).f0)) || (!(((rd_T25 x0 x5).f1) == ((rd_T25 x1 x5).f1)))) = true then (some false) else (laws_sameTones.l0 k x0 x1 (wrap64 (x5 + 1)))) else (none)) else (none)) else (some true)
def laws_sameTones.f (k : Nat) (l0 : List (S25)) (l1 : List (S25)) : Option (Bool) := if (l0.length : Int) = (l1.length : Int) then (laws_sameTones.l0 k l0 l1 0) else (some false)
set_option maxHeartbeats 8000000 in
set_option maxRecDepth 100000 in
theorem laws_sameTones.calls (k : Nat) (A0 : Option Addr) (c0 : Nat) (l0 : List (S25)) (A1 : Option Addr) (c1 : Nat) (l1 : List (S25)) (r : Bool) (w : World) (hr0 : Kd.C k25 w A0 l0.length l0) (hc0 : l0.length ≤ c0) (hr1 : Kd.C k25 w A1 l1.length l1) (hc1 : l1.length ≤ c1) (h : laws_sameTones.f k l0 l1 = some r) :
  Calls Tryd.prog 35 #[.slice A0 l0.length c0, .slice A1 l1.length c1] w fun e w' => e = .returned (.bool r) ∧ Drawn0 w w' := by
 have hu25 := Tryd.underlying25
 have HR0 := Aside0.mk hr0
 have HC0 := Aside0.mk hc0
 clear hr0 hc0
 have HR1 := Aside0.mk hr1
 have HC1 := Aside0.mk hc1
 clear hr1 hc1
 have H : (if (l0.length : Int) = (l1.length : Int) then (laws_sameTones.l0 k l0 l1 0) else (some false)) = some r := h
 clear h
 by_cases c3 : (l0.length : Int) = (l1.length : Int)
 rotate_left
 ·rw [if_neg c3] at H
  have c3b0 : ((l0.length : Int) == (l1.length : Int)) = false := beq_eq_false_iff_ne.mpr c3
  have c3b1 : ((l0.length : Int) != (l1.length : Int)) = true := bne_iff_ne.mpr c3
  have c3b2 : (l0.length == l1.length) = false := by first | simpa using c3 | (simp at c3 ⊢; omega)
  obtain rfl := Option.some.inj H
  go_enter Tryd.func35, Tryd.ntmps35
  go_wp2
  repeat (go_quiet (fail); try go_wp2)
  go_ret
  exact ⟨by first | rfl | (simp; done) | (simp [*]; done), by repeat (first | exact Drawn0.refl _ | apply Drawn0.step)⟩
 rw [if_pos c3] at H
 have c3b0 : ((l0.length : Int) == (l1.length : Int)) = true := beq_iff_eq.mpr c3
 have c3b1 : ((l0.length : Int) != (l1.length : Int)) = false := bne_eq_false_iff_eq.mpr c3
 have c3b2 : (l0.length == l1.length) = true := by first | simpa using c3 | (simp at c3 ⊢; omega)
 clear c3
 have H' := Aside0.mk H
 clear H
 go_enter Tryd.func35, Tryd.ntmps35
 go_wp2
 repeat (go_quiet (fail); try go_wp2)
 go_loopg [5] k (fun kq v5 w' => ∃ (x5_1 : Int), v5 = .int .i64 x5_1 ∧ Aside0 (laws_sameTones.l0 kq l0 l1 x5_1 = some r) ∧ Aside0 (kq ≤ k) ∧ Drawn0 w w')
 case atStart => exact ⟨(0), (by first | rfl | (simp; done) | (simp [*]; done)), H', ⟨Nat.le_refl _⟩, by repeat (first | exact Drawn0.refl _ | apply Drawn0.step)⟩
 case round =>
  clear H'
  try clear c1
  try clear p2
  try clear c3
  try clear c3b0
  try clear c3b1
  try clear c3b2
  obtain ⟨x5_1, rfl, HA, HK1, ⟨m1, rfl⟩⟩ := hrel
  cases gk with
  | zero => exact absurd HA.out (by simp [laws_sameTones.l0])
  | succ k1 =>
   have H := HA.out
   clear HA
   simp only [laws_sameTones.l0] at H
   by_cases c4 : x5_1 < (l0.length : Int)
   rotate_left
   ·rw [if_neg c4] at H
    have c4b0 : decide (x5_1 < (l0.length : Int)) = false := decide_eq_false c4
    clear c4
    obtain rfl := Option.some.inj H
    go_wp2
    repeat (go_quiet (fail); try go_wp2)
    go_ret
    exact ⟨by first | rfl | (simp; done) | (simp [*]; done), by repeat (first | exact Drawn0.refl _ | apply Drawn0.step)⟩
   rw [if_pos c4] at H
   have c4b0 : decide (x5_1 < (l0.length : Int)) = true := decide_eq_true c4
   clear c4
   by_cases c5 : 0 ≤ x5_1
   rotate_left
   ·rw [if_neg c5] at H
    exact absurd H (by simp)
   rw [if_pos c5] at H
   have c5b0 : decide (0 ≤ x5_1) = true := decide_eq_true c5
   clear c5
   by_cases c6 : x5_1 < (l1.length : Int)
   rotate_left
   ·rw [if_neg c6] at H
    exact absurd H (by simp)
   rw [if_pos c6] at H
   have c6b0 : decide (x5_1 < (l1.length : Int)) = true := decide_eq_true c6
   clear c6
   by_cases c7 : (!(((rd_T25 l0 x5_1).f0) == ((rd_T25 l1 x5_1).f0)) || (!(((rd_T25 l0 x5_1).f1) == ((rd_T25 l1 x5_1).f1)))) = true
   ·rw [if_pos c7] at H
    have c7b0 : (!(((rd_T25 l0 x5_1).f0) == ((rd_T25 l1 x5_1).f0)) || (!(((rd_T25 l0 x5_1).f1) == ((rd_T25 l1 x5_1).f1)))) = true := c7
    clear c7
    obtain rfl := Option.some.inj H
    have p458 : 0 ≤ (x5_1 : Int) := of_decide_eq_true (by first | (with_reducible assumption) | assumption)
    have q458 : x5_1 < (l0.length : Int) := of_decide_eq_true (by first | (with_reducible assumption) | assumption)
    obtain ⟨ad458, e458, hx458_0, hx458_1⟩ := at_T25 HR0.out x5_1 p458 q458
    cases e458
    replace p458 := eq_true p458
    replace q458 := eq_true q458
    have p459 : 0 ≤ (x5_1 : Int) := of_decide_eq_true (by first | (with_reducible assumption) | assumption)
    have q459 : x5_1 < (l1.length : Int) := of_decide_eq_true (by first | (with_reducible assumption) | assumption)
    obtain ⟨ad459, e459, hx459_0, hx459_1⟩ := at_T25 HR1.out x5_1 p459 q459
    cases e459
    replace p459 := eq_true p459
    replace q459 := eq_true q459
    go_wp2
    repeat (go_quiet (fail); try go_wp2)
    go_ret
    exact ⟨by first | rfl | (simp; done) | (simp [*]; done), by repeat (first | exact Drawn0.refl _ | apply Drawn0.step)⟩
   rw [if_neg c7] at H
   have c7b0 : (!(((rd_T25 l0 x5_1).f0) == ((rd_T25 l1 x5_1).f0)) || (!(((rd_T25 l0 x5_1).f1) == ((rd_T25 l1 x5_1).f1)))) = false := by simpa using c7
   clear c7
   have H' := Aside0.mk H
   clear H
   have p458 : 0 ≤ (x5_1 : Int) := of_decide_eq_true (by first | (with_reducible assumption) | assumption)
   have q458 : x5_1 < (l0.length : Int) := of_decide_eq_true (by first | (with_reducible assumption) | assumption)
   obtain ⟨ad458, e458, hx458_0, hx458_1⟩ := at_T25 HR0.out x5_1 p458 q458
   cases e458
   replace p458 := eq_true p458
   replace q458 := eq_true q458
   have p459 : 0 ≤ (x5_1 : Int) := of_decide_eq_true (by first | (with_reducible assumption) | assumption)
   have q459 : x5_1 < (l1.length : Int) := of_decide_eq_true (by first | (with_reducible assumption) | assumption)
   obtain ⟨ad459, e459, hx459_0, hx459_1⟩ := at_T25 HR1.out x5_1 p459 q459
   cases e459
   replace p459 := eq_true p459
   replace q459 := eq_true q459
   go_wp2
   repeat (go_quiet (fail); try go_wp2)
   go_roundg k1
   case measure => have := HK1.out; omega
   case rel => exact ⟨(wrap64 (x5_1 + 1)), (by first | rfl | (simp; done) | (simp [*]; done)), H', ⟨by have := HK1.out; omega⟩, by repeat (first | exact Drawn0.refl _ | apply Drawn0.step)⟩
end Go.Proofs.YtlinjleahnccgaaDoor.E
end
section
namespace Go.Proofs.YtlinjleahnccgaaDoor.E
open Go.RowKit Go.Proofs.YtlinjleahnccgaaDoorW.PrintWords Go.Proofs.YtlinjleahnccgaaDoorW.PrintLast Go.Proofs.YtlinjleahnccgaaDoorW.PrintMore
attribute [local go_sem] max2_int min2_int max_two min_two max_three min_three max_four min_four
set_option linter.unusedVariables false
set_option linter.unusedSimpArgs false
attribute [local go_sem] str_leq_ str_gtr_ str_geq_
attribute [local go_sem] max2_int min2_int max_two min_two
def rgLoop : List S25 → Int → Int → Int × Int
 | [], a, b => (a, b)
 | t :: ts, a, b => rgLoop ts (mn a t.f0) (mx b t.f0)
def impl_MelodyRange.f (k : Nat) (l0 : List (S25)) : Option (Int × Int × Bool) := if l0.length ≤ 1000000 then ((impl_MelodyValid.f k l0).bind fun v => (if v = true then (if l0.length = 0 then some (0, 0, false) else some ((rgLoop l0 (rd_T25 l0 0).f0 (rd_T25 l0 0).f0).1, (rgLoop l0 (rd_T25 l0 0).f0 (rd_T25 l0 0).f0).2, true)) else some (0, 0, false))) else none
set_option maxHeartbeats 8000000 in
set_option maxRecDepth 100000 in
theorem impl_MelodyRange.calls (k : Nat) (A0 : Option Addr) (c0 : Nat) (l0 : List (S25)) (r1 : Int) (r2 : Int) (r3 : Bool) (w : World) (hr0 : Kd.C k25 w A0 l0.length l0) (hc0 : l0.length ≤ c0) (h : impl_MelodyRange.f k l0 = some (r1, r2, r3)) :
  Calls Tryd.prog 36 #[.slice A0 l0.length c0] w fun e w' => e = .returned (.tuple #[.int .i64 r1, .int .i64 r2, .bool r3]) ∧ Below w.heap.size w w' := by
 have hu25 := Tryd.underlying25
 have hu68 := Tryd.underlying68
 unfold impl_MelodyRange.f at h
 by_cases hn : l0.length ≤ 1000000
 rotate_left
 ·rw [if_neg hn] at h; cases h
 rw [if_pos hn] at h
 obtain ⟨v, A10, H⟩ := Option.bind_eq_some_iff.mp h
 have A1 := Aside0.mk A10
 have HR0 := Aside0.mk hr0
 have HC0 := Aside0.mk hc0
 have HN := Aside0.mk hn
 clear h A10 hr0 hc0 hn
 by_cases c1 : v = true
 rotate_left
 ·replace c1 := Bool.eq_false_iff.mpr c1
  subst c1
  rw [if_neg (show ¬ (false = true) by decide)] at H
  simp only [Option.some.injEq, Prod.mk.injEq] at H
  obtain ⟨rfl, rfl, rfl⟩ := H
  go_enter Tryd.func36, Tryd.ntmps36
  go_wp2_with (first | (go_at_call 49; ((with_reducible refine (impl_MelodyValid.calls k _ _ l0 false _ HR0.out HC0.out A1.out).mono ?_); rintro e w4 ⟨rfl, hb⟩; have HB := Aside0.mk hb; clear hb)))
  go_ret3
  exact ⟨rfl, HB.out⟩
 subst c1
 rw [if_pos rfl] at H
 by_cases c2 : l0.length = 0
 ·rw [if_pos c2] at H
  simp only [Option.some.injEq, Prod.mk.injEq] at H
  obtain ⟨rfl, rfl, rfl⟩ := H
  have c3 : ((l0.length : Int) == 0) = true := beq_iff_eq.mpr (by omega)
  have c4 := decide_eq_true (show (l0.length : Int) = 0 by omega)
  clear c2
  go_enter Tryd.func36, Tryd.ntmps36
  go_wp2_with (first | (go_at_call 49; ((with_reducible refine (impl_MelodyValid.calls k _ _ l0 true _ HR0.out HC0.out A1.out).mono ?_); rintro e w4 ⟨rfl, hb⟩; have HB := Aside0.mk hb; clear hb)))
  go_ret3
  exact ⟨rfl, HB.out⟩
 rw [if_neg c2] at H
 simp only [Option.some.injEq, Prod.mk.injEq] at H
 obtain ⟨e1, e2, rfl⟩ := H
 have HH : Aside0 (rgLoop l0 (rd_T25 l0 0).f0 (rd_T25 l0 0).f0 = (r1, r2)) := ⟨by rw [← e1, ← e2]⟩
 clear e1 e2
 have c3 : ((l0.length : Int) == 0) = false := beq_eq_false_iff_ne.mpr (by omega)
 have c4 := decide_eq_false (show ¬ (l0.length : Int) = 0 by omega)
 have c5 := eq_true (show (0 : Int) < (l0.length : Int) by omega)
 have c6 := eq_true (show 0 < l0.length by omega)
 obtain ⟨ad, e1, z1, z2⟩ := at_T25 HR0.out 0 (by omega) (by omega)
 cases e1
 simp only [Int.toNat_zero, Nat.zero_mul, Addr.add_zero'] at z1 z2
 have Z1 := Aside0.mk z1
 go_enter Tryd.func36, Tryd.ntmps36
 go_wp2_with (first | (go_at_call 49; ((with_reducible refine (impl_MelodyValid.calls k _ _ l0 true _ HR0.out HC0.out A1.out).mono ?_); rintro e w4 ⟨rfl, hb⟩; have HB := Aside0.mk hb; clear z1 z2; have z1 := cell_keep Z1.out hb; clear hb)))
 go_quiet (fail)
 have HBQ : Aside0 (Below w.heap.size w (w4.drewN nq)) := ⟨pw_below_drewN HB.out _⟩
 go_wp2_with (first | (go_at_call 50; (rw [show (l0.length) = (l0.map pr).length from (List.length_map _).symm]; (with_reducible refine (linked_calls (some ad) c0 (l0.map pr) _ (by rw [List.length_map]; exact HN.out) (chain_cells (Kd.C_below HR0.out HBQ.out))).mono ?_); rintro e w6 ⟨p, rfl, hch, hb⟩; have CH := Aside0.mk hch; have n1_ := Aside0.mk (below_step HBQ.out hb); clear HB HBQ hb hch z1 Z1; have HB := n1_; clear n1_)))
 clear A1 c3 c4 c5 c6 c2
 go_loopg [5, 6, 7] l0.length (fun kq v5 v6 v7 w' => ∃ (x y : Int) (rest : List S25) (p : Option Addr), v5 = .int .i64 x ∧ v6 = .int .i64 y ∧ v7 = .pointer p ∧ rest.length = kq ∧ Aside0 (rgLoop rest x y = (r1, r2)) ∧ Aside0 (Chain w' p (rest.map pr)) ∧ Aside0 (Below w.heap.size w w'))
 case atStart => exact ⟨_, _, l0, _, rfl, rfl, rfl, rfl, HH, CH, HB⟩
 case round =>
  clear HH CH HB
  obtain ⟨x, y, rest, p, rfl, rfl, rfl, HL, HH, CH, HB⟩ := hrel
  cases gk with
  | zero =>
   obtain rfl := List.eq_nil_of_length_eq_zero HL
   have E := HH.out
   clear HH
   simp only [rgLoop, Prod.mk.injEq] at E
   obtain ⟨rfl, rfl⟩ := E
   obtain rfl : p = none := CH.out
   go_wp2
   go_ret3
   exact ⟨rfl, HB.out⟩
  | succ k1 =>
   obtain ⟨t, ts, rfl⟩ : ∃ t ts, rest = t :: ts := by
    cases rest with
    | nil => simp at HL
    | cons t ts => exact ⟨t, ts, rfl⟩
   have HN2 : Aside0 (rgLoop ts (mn x t.f0) (mx y t.f0) = (r1, r2)) := ⟨HH.out⟩
   clear HH
   obtain ⟨g, q, rfl, hbk, hch⟩ := CH.out
   have BK := Aside0.mk hbk
   have CQ := Aside0.mk hch
   clear CH hbk hch
   have z0 : wr.cell? ⟨g, 0, none⟩ = some (.int .i64 t.f0) := (blk_cell BK.out 0).trans rfl
   have z1 : wr.cell? ⟨g, 1, none⟩ = some (.bool t.f1) := (blk_cell BK.out 1).trans rfl
   have z2 : wr.cell? ⟨g, 2, none⟩ = some (.pointer q) := (blk_cell BK.out 2).trans rfl
   go_wp2
   all_goals go_roundg k1
   all_goals first | exact ⟨mn x t.f0, mx y t.f0, ts, q, by unfold mn; split <;> first | rfl | (exfalso; omega), by unfold mx; split <;> first | rfl | (exfalso; omega), rfl, by simpa using HL, HN2, CQ, HB⟩ | omega
end Go.Proofs.YtlinjleahnccgaaDoor.E
end
section
namespace Go.Proofs.YtlinjleahnccgaaDoor.E
open Go.RowKit Go.Proofs.YtlinjleahnccgaaDoorW.PrintWords Go.Proofs.YtlinjleahnccgaaDoorW.PrintLast Go.Proofs.YtlinjleahnccgaaDoorW.PrintMore
attribute [local go_sem] max2_int min2_int max_two min_two max_three min_three max_four min_four
set_option linter.unusedVariables false
set_option linter.unusedSimpArgs false
attribute [local go_sem] str_leq_ str_gtr_ str_geq_
mutual
def laws_FnMelodyMoveOctave.j0 : Nat → List (S25) → List (S25) → Bool → List (S25) → Bool → Bool → Option (Bool)
 | 0, _, _, _, _, _, _ => none
 | k + 1, x3, x5, x6, x7, x8, x49 => if x49 = true then (if (x6 == x8) = true then ((laws_sameTones.f k x5 x7).bind fun t473 => (some t473)) else (none)) else ((impl_MelodyRange.f k x3).bind fun bt474 => (if bt474.2.2 = true then ((impl_MelodyMove.f k x3 7).bind fun bt477 => (if (wrap64 (bt474.2.1 + 7)) > 20 then (some (!bt477.2)) else (laws_FnMelodyMoveOctave.l0 k x3 bt477.1 bt477.2 false 0))) else (if (x3.length : Int) = 0 then (some ((x5.length : Int) == 0)) else (none))))
def laws_FnMelodyMoveOctave.l0 : Nat → List (S25) → List (S25) → Bool → Bool → Int → Option (Bool)
 | 0, _, _, _, _, _ => none
 | k + 1, x3, x12, x13, x14, x15 => if x15 < (x3.length : Int) then (if x14 = true then (laws_FnMelodyMoveOctave.l0 k x3 x12 x13 true (wrap64 (x15 + 1))) else (if 0 ≤ x15 then ((impl_ToneLetter.f ((rd_T25 x3 x15).f0) ((rd_T25 x3 x15).f1)).bind fun t482 => (laws_FnMelodyMoveOctave.l0 k x3 x12 x13 (t482.toList != ([66] : List UInt8)) (wrap64 (x15 + 1)))) else (none))) else (laws_FnMelodyMoveOctave.l1 k x3 x12 x13 x14 0)
def laws_FnMelodyMoveOctave.l1 : Nat → List (S25) → List (S25) → Bool → Bool → Int → Option (Bool)
 | 0, _, _, _, _, _ => none
 | k + 1, x3, x12, x13, x14, x16 => if x16 < (x3.length : Int) then (laws_FnMelodyMoveOctave.j3 k x3 x12 x13 x14 x16 x14) else (laws_FnMelodyMoveOctave.j3 k x3 x12 x13 x14 x16 false)
def laws_FnMelodyMoveOctave.j3 : Nat → List (S25) → List (S25) → Bool → Bool → Int → Bool → Option (Bool)
 | 0, _, _, _, _, _, _ => none
 | k + 1, x3, x12, x13, x14, x16, x105 => if x105 = true then (if (x12.length : Int) = (x3.length : Int) then (if 0 ≤ x16 then (if x16 < (x12.length : Int) then (if x16 < (x3.length : Int) then (if (((rd_T25 x12 x16).f1) != ((rd_T25 x3 x16).f1)) = true then (none) else (laws_FnMelodyMoveOctave.l1 k x3 x12 x13 x14 (wrap64 (x16 + 1)))) else (none)) else (none)) else (none)) else (none)) else (some x13)
end
def laws_FnMelodyMoveOctave.f (k : Nat) (l0 : List Int) : Option (Bool) := if (l0.length : Int) > 1048576 then (some true) else ((spec_DrawMelodyMove.f k l0).bind fun bt460 => ((impl_MelodyMove.f k bt460.1 bt460.2).bind fun bt464 => ((spec_MelodyMove.f k bt460.1 bt460.2).bind fun bt468 => (if (bt464.2 != bt468.2) = true then (laws_FnMelodyMoveOctave.j0 k bt460.1 bt464.1 bt464.2 bt468.1 bt468.2 true) else ((laws_sameTones.f k bt464.1 bt468.1).bind fun t472 => (if t472 = true then (laws_FnMelodyMoveOctave.j0 k bt460.1 bt464.1 bt464.2 bt468.1 bt468.2 (!bt464.2)) else (laws_FnMelodyMoveOctave.j0 k bt460.1 bt464.1 bt464.2 bt468.1 bt468.2 true)))))))
set_option maxHeartbeats 8000000 in
set_option maxRecDepth 100000 in
theorem laws_FnMelodyMoveOctave.calls (k : Nat) (A0 : Option Addr) (c0 : Nat) (l0 : List Int) (r : Bool) (w : World) (hr0 : Kd.C (Kd.int .u8) w A0 l0.length l0) (hc0 : l0.length ≤ c0) (hG : GOk [0, 1] w) (h : laws_FnMelodyMoveOctave.f k l0 = some r) :
  Calls Tryd.prog 10 #[.slice A0 l0.length c0] w fun e w' => e = .returned (.bool r) ∧ Below w.heap.size w w' := by
 have hu25 := Tryd.underlying25
 have HR0 := Aside0.mk hr0
 have HC0 := Aside0.mk hc0
 clear hr0 hc0
 have HB := Aside0.mk (Below.refl w.heap.size w)
 have HG := Aside0.mk hG
 clear hG
 have H : (if (l0.length : Int) > 1048576 then (some true) else ((spec_DrawMelodyMove.f k l0).bind fun bt460 => ((impl_MelodyMove.f k bt460.1 bt460.2).bind fun bt464 => ((spec_MelodyMove.f k bt460.1 bt460.2).bind fun bt468 => (if (bt464.2 != bt468.2) = true then (laws_FnMelodyMoveOctave.j0 k bt460.1 bt464.1 bt464.2 bt468.1 bt468.2 true) else ((laws_sameTones.f k bt464.1 bt468.1).bind fun t472 => (if t472 = true then (laws_FnMelodyMoveOctave.j0 k bt460.1 bt464.1 bt464.2 bt468.1 bt468.2 (!bt464.2)) else (laws_FnMelodyMoveOctave.j0 k bt460.1 bt464.1 bt464.2 bt468.1 bt468.2 true)))))))) = some r := h
 clear h
 by_cases c2 : (l0.length : Int) > 1048576
 ·rw [if_pos c2] at H
  have c2b0 : decide (1048576 < (l0.length : Int)) = true := decide_eq_true c2
  have c2b1 : decide (1048576 < l0.length) = true := decide_eq_true (by omega)
  clear c2
  obtain rfl := Option.some.inj H
  go_enter Tryd.func10, Tryd.ntmps10
  go_wp2
  repeat (go_quiet (fail); try go_wp2)
  go_ret
  exact ⟨by first | rfl | (simp [errW_none, errW_some] <;> rfl) | (simp [*, errW_none, errW_some] <;> rfl), by repeat (first | (with_reducible first | exact HB.out | apply below_alloc | apply pw_below_drewN | apply below_drew1) | exact HB.out)⟩
 rw [if_neg c2] at H
 have c2b0 : decide (1048576 < (l0.length : Int)) = false := decide_eq_false c2
 have c2b1 : decide (1048576 < l0.length) = false := decide_eq_false (by omega)
 clear c2
 replace H := Option.bind_eq_some_iff.mp H
 obtain ⟨⟨t460, t461⟩, A30, H⟩ := H
 replace H : ((impl_MelodyMove.f k t460 t461).bind fun bt464 => ((spec_MelodyMove.f k t460 t461).bind fun bt468 => (if (bt464.2 != bt468.2) = true then (laws_FnMelodyMoveOctave.j0 k t460 bt464.1 bt464.2 bt468.1 bt468.2 true) else ((laws_sameTones.f k bt464.1 bt468.1).bind fun t472 => (if t472 = true then (laws_FnMelodyMoveOctave.j0 k t460 bt464.1 bt464.2 bt468.1 bt468.2 (!bt464.2)) else (laws_FnMelodyMoveOctave.j0 k t460 bt464.1 bt464.2 bt468.1 bt468.2 true)))))) = some r := H
 have A3 := Aside0.mk A30
 clear A30
 replace H := Option.bind_eq_some_iff.mp H
 obtain ⟨⟨t464, t465⟩, A40, H⟩ := H
 replace H : ((spec_MelodyMove.f k t460 t461).bind fun bt468 => (if (t465 != bt468.2) = true then (laws_FnMelodyMoveOctave.j0 k t460 t464 t465 bt468.1 bt468.2 true) else ((laws_sameTones.f k t464 bt468.1).bind fun t472 => (if t472 = true then (laws_FnMelodyMoveOctave.j0 k t460 t464 t465 bt468.1 bt468.2 (!t465)) else (laws_FnMelodyMoveOctave.j0 k t460 t464 t465 bt468.1 bt468.2 true))))) = some r := H
 have A4 := Aside0.mk A40
 clear A40
 replace H := Option.bind_eq_some_iff.mp H
 obtain ⟨⟨t468, t469⟩, A50, H⟩ := H
 replace H : (if (t465 != t469) = true then (laws_FnMelodyMoveOctave.j0 k t460 t464 t465 t468 t469 true) else ((laws_sameTones.f k t464 t468).bind fun t472 => (if t472 = true then (laws_FnMelodyMoveOctave.j0 k t460 t464 t465 t468 t469 (!t465)) else (laws_FnMelodyMoveOctave.j0 k t460 t464 t465 t468 t469 true)))) = some r := H
 have A5 := Aside0.mk A50
 clear A50
 have HC6 := Aside0.mk H
 clear H
 go_enter Tryd.func10, Tryd.ntmps10
 go_upto_region 6 with (first | (go_at_call 32; (with_reducible refine (spec_DrawMelodyMove.calls k _ _ l0 t460 t461 _ ?side1 ?side2 A3.out).mono ?_); (case side1 => repeat (first | exact HR0.out | (with_reducible refine Kd.C_alloc ?_ _) | (with_reducible refine Kd.C_drewN ?_ _) | (with_reducible refine Kd.C_drew ?_))); (case side2 => exact HC0.out); rintro e w7 ⟨v462, rfl, ho0, hb⟩; have n0_ := Aside0.mk (Kd.R_lower ho0 (below_size (by repeat (first | (with_reducible first | exact HB.out | apply below_alloc | apply pw_below_drewN | apply below_drew1) | exact HB.out)))); have n1_ := Aside0.mk (below_step (by repeat (first | (with_reducible first | exact HB.out | apply below_alloc | apply pw_below_drewN | apply below_drew1) | exact HB.out)) hb); clear HB; have HO463 := n0_; have HB := n1_; clear n0_ n1_; (try clear hb); (try clear hb2); (try clear hk); (try clear hi); (try clear ho0); obtain ⟨Ao8, co8, eo8⟩ := Kd.R_slice HO463.out; subst eo8) | (go_at_call 33; (with_reducible refine (impl_MelodyMove.calls k _ _ t460 t461 t464 t465 _ ?side1 ?side2 ?side3 A4.out).mono ?_); (case side1 => repeat (first | exact (Kd.R_reads' HO463.out).2.2 | (with_reducible refine Kd.C_alloc ?_ _) | (with_reducible refine Kd.C_drewN ?_ _) | (with_reducible refine Kd.C_drew ?_))); (case side2 => exact (Kd.R_reads' HO463.out).2.1); (case side3 => exact GOk.sub (GOk.below HG.out (by repeat (first | (with_reducible first | exact HB.out | apply below_alloc | apply pw_below_drewN | apply below_drew1) | exact HB.out))) (by decide)); rintro e w9 ⟨v466, rfl, ho0, hb⟩; have n0_ := Aside0.mk (Kd.R_elder' (by (with_reducible repeat (first | apply Kd.R_alloc | apply Kd.R_drewN | apply Kd.R_drew)); exact HO463.out) (Kd.R_base ho0) hb); have n1_ := Aside0.mk (Kd.R_lower (Kd.R_new' ho0 (Kd.R_lt (by (with_reducible repeat (first | apply Kd.R_alloc | apply Kd.R_drewN | apply Kd.R_drew)); exact HO463.out))) (below_size (by repeat (first | (with_reducible first | exact HB.out | apply below_alloc | apply pw_below_drewN | apply below_drew1) | exact HB.out)))); have n2_ := Aside0.mk (below_step (by repeat (first | (with_reducible first | exact HB.out | apply below_alloc | apply pw_below_drewN | apply below_drew1) | exact HB.out)) hb); clear HO463; clear HB; have HO463 := n0_; have HO467 := n1_; have HB := n2_; clear n0_ n1_ n2_; (try clear hb); (try clear hb2); (try clear hk); (try clear hi); (try clear ho0)) | (go_at_call 34; (with_reducible refine (spec_MelodyMove.calls k _ _ t460 t461 t468 t469 _ ?side1 ?side2 A5.out).mono ?_); (case side1 => repeat (first | exact (Kd.R_reads' HO463.out).2.2 | (with_reducible refine Kd.C_alloc ?_ _) | (with_reducible refine Kd.C_drewN ?_ _) | (with_reducible refine Kd.C_drew ?_))); (case side2 => exact (Kd.R_reads' HO463.out).2.1); rintro e w10 ⟨v470, rfl, ho0, hb⟩; have n0_ := Aside0.mk (Kd.R_elder' (by (with_reducible repeat (first | apply Kd.R_alloc | apply Kd.R_drewN | apply Kd.R_drew)); exact HO463.out) (Kd.R_base ho0) hb); have n1_ := Aside0.mk (Kd.R_elder' (by (with_reducible repeat (first | apply Kd.R_alloc | apply Kd.R_drewN | apply Kd.R_drew)); exact HO467.out) (Kd.R_base ho0) hb); have n2_ := Aside0.mk (Kd.R_lower (Kd.R_new' (Kd.R_new' ho0 (Kd.R_lt (by (with_reducible repeat (first | apply Kd.R_alloc | apply Kd.R_drewN | apply Kd.R_drew)); exact HO463.out))) (Kd.R_lt (by (with_reducible repeat (first | apply Kd.R_alloc | apply Kd.R_drewN | apply Kd.R_drew)); exact HO467.out))) (below_size (by repeat (first | (with_reducible first | exact HB.out | apply below_alloc | apply pw_below_drewN | apply below_drew1) | exact HB.out)))); have n3_ := Aside0.mk (below_step (by repeat (first | (with_reducible first | exact HB.out | apply below_alloc | apply pw_below_drewN | apply below_drew1) | exact HB.out)) hb); clear HO463; clear HO467; clear HB; have HO463 := n0_; have HO467 := n1_; have HO471 := n2_; have HB := n3_; clear n0_ n1_ n2_ n3_; (try clear hb); (try clear hb2); (try clear hk); (try clear hi); (try clear ho0)))
 repeat (go_quiet (first | (go_at_call 32; (with_reducible refine (spec_DrawMelodyMove.calls k _ _ l0 t460 t461 _ ?side1 ?side2 A3.out).mono ?_); (case side1 => repeat (first | exact HR0.out | (with_reducible refine Kd.C_alloc ?_ _) | (with_reducible refine Kd.C_drewN ?_ _) | (with_reducible refine Kd.C_drew ?_))); (case side2 => exact HC0.out); rintro e w7 ⟨v462, rfl, ho0, hb⟩; have n0_ := Aside0.mk (Kd.R_lower ho0 (below_size (by repeat (first | (with_reducible first | exact HB.out | apply below_alloc | apply pw_below_drewN | apply below_drew1) | exact HB.out)))); have n1_ := Aside0.mk (below_step (by repeat (first | (with_reducible first | exact HB.out | apply below_alloc | apply pw_below_drewN | apply below_drew1) | exact HB.out)) hb); clear HB; have HO463 := n0_; have HB := n1_; clear n0_ n1_; (try clear hb); (try clear hb2); (try clear hk); (try clear hi); (try clear ho0); obtain ⟨Ao8, co8, eo8⟩ := Kd.R_slice HO463.out; subst eo8) | (go_at_call 33; (with_reducible refine (impl_MelodyMove.calls k _ _ t460 t461 t464 t465 _ ?side1 ?side2 ?side3 A4.out).mono ?_); (case side1 => repeat (first | exact (Kd.R_reads' HO463.out).2.2 | (with_reducible refine Kd.C_alloc ?_ _) | (with_reducible refine Kd.C_drewN ?_ _) | (with_reducible refine Kd.C_drew ?_))); (case side2 => exact (Kd.R_reads' HO463.out).2.1); (case side3 => exact GOk.sub (GOk.below HG.out (by repeat (first | (with_reducible first | exact HB.out | apply below_alloc | apply pw_below_drewN | apply below_drew1) | exact HB.out))) (by decide)); rintro e w9 ⟨v466, rfl, ho0, hb⟩; have n0_ := Aside0.mk (Kd.R_elder' (by (with_reducible repeat (first | apply Kd.R_alloc | apply Kd.R_drewN | apply Kd.R_drew)); exact HO463.out) (Kd.R_base ho0) hb); have n1_ := Aside0.mk (Kd.R_lower (Kd.R_new' ho0 (Kd.R_lt (by (with_reducible repeat (first | apply Kd.R_alloc | apply Kd.R_drewN | apply Kd.R_drew)); exact HO463.out))) (below_size (by repeat (first | (with_reducible first | exact HB.out | apply below_alloc | apply pw_below_drewN | apply below_drew1) | exact HB.out)))); have n2_ := Aside0.mk (below_step (by repeat (first | (with_reducible first | exact HB.out | apply below_alloc | apply pw_below_drewN | apply below_drew1) | exact HB.out)) hb); clear HO463; clear HB; have HO463 := n0_; have HO467 := n1_; have HB := n2_; clear n0_ n1_ n2_; (try clear hb); (try clear hb2); (try clear hk); (try clear hi); (try clear ho0)) | (go_at_call 34; (with_reducible refine (spec_MelodyMove.calls k _ _ t460 t461 t468 t469 _ ?side1 ?side2 A5.out).mono ?_); (case side1 => repeat (first | exact (Kd.R_reads' HO463.out).2.2 | (with_reducible refine Kd.C_alloc ?_ _) | (with_reducible refine Kd.C_drewN ?_ _) | (with_reducible refine Kd.C_drew ?_))); (case side2 => exact (Kd.R_reads' HO463.out).2.1); rintro e w10 ⟨v470, rfl, ho0, hb⟩; have n0_ := Aside0.mk (Kd.R_elder' (by (with_reducible repeat (first | apply Kd.R_alloc | apply Kd.R_drewN | apply Kd.R_drew)); exact HO463.out) (Kd.R_base ho0) hb); have n1_ := Aside0.mk (Kd.R_elder' (by (with_reducible repeat (first | apply Kd.R_alloc | apply Kd.R_drewN | apply Kd.R_drew)); exact HO467.out) (Kd.R_base ho0) hb); have n2_ := Aside0.mk (Kd.R_lower (Kd.R_new' (Kd.R_new' ho0 (Kd.R_lt (by (with_reducible repeat (first | apply Kd.R_alloc | apply Kd.R_drewN | apply Kd.R_drew)); exact HO463.out))) (Kd.R_lt (by (with_reducible repeat (first | apply Kd.R_alloc | apply Kd.R_drewN | apply Kd.R_drew)); exact HO467.out))) (below_size (by repeat (first | (with_reducible first | exact HB.out | apply below_alloc | apply pw_below_drewN | apply below_drew1) | exact HB.out)))); have n3_ := Aside0.mk (below_step (by repeat (first | (with_reducible first | exact HB.out | apply below_alloc | apply pw_below_drewN | apply below_drew1) | exact HB.out)) hb); clear HO463; clear HO467; clear HB; have HO463 := n0_; have HO467 := n1_; have HO471 := n2_; have HB := n3_; clear n0_ n1_ n2_ n3_; (try clear hb); (try clear hb2); (try clear hk); (try clear hi); (try clear ho0))); go_upto_region 6 with (first | (go_at_call 32; (with_reducible refine (spec_DrawMelodyMove.calls k _ _ l0 t460 t461 _ ?side1 ?side2 A3.out).mono ?_); (case side1 => repeat (first | exact HR0.out | (with_reducible refine Kd.C_alloc ?_ _) | (with_reducible refine Kd.C_drewN ?_ _) | (with_reducible refine Kd.C_drew ?_))); (case side2 => exact HC0.out); rintro e w7 ⟨v462, rfl, ho0, hb⟩; have n0_ := Aside0.mk (Kd.R_lower ho0 (below_size (by repeat (first | (with_reducible first | exact HB.out | apply below_alloc | apply pw_below_drewN | apply below_drew1) | exact HB.out)))); have n1_ := Aside0.mk (below_step (by repeat (first | (with_reducible first | exact HB.out | apply below_alloc | apply pw_below_drewN | apply below_drew1) | exact HB.out)) hb); clear HB; have HO463 := n0_; have HB := n1_; clear n0_ n1_; (try clear hb); (try clear hb2); (try clear hk); (try clear hi); (try clear ho0); obtain ⟨Ao8, co8, eo8⟩ := Kd.R_slice HO463.out; subst eo8) | (go_at_call 33; (with_reducible refine (impl_MelodyMove.calls k _ _ t460 t461 t464 t465 _ ?side1 ?side2 ?side3 A4.out).mono ?_); (case side1 => repeat (first | exact (Kd.R_reads' HO463.out).2.2 | (with_reducible refine Kd.C_alloc ?_ _) | (with_reducible refine Kd.C_drewN ?_ _) | (with_reducible refine Kd.C_drew ?_))); (case side2 => exact (Kd.R_reads' HO463.out).2.1); (case side3 => exact GOk.sub (GOk.below HG.out (by repeat (first | (with_reducible first | exact HB.out | apply below_alloc | apply pw_below_drewN | apply below_drew1) | exact HB.out))) (by decide)); rintro e w9 ⟨v466, rfl, ho0, hb⟩; have n0_ := Aside0.mk (Kd.R_elder' (by (with_reducible repeat (first | apply Kd.R_alloc | apply Kd.R_drewN | apply Kd.R_drew)); exact HO463.out) (Kd.R_base ho0) hb); have n1_ := Aside0.mk (Kd.R_lower (Kd.R_new' ho0 (Kd.R_lt (by (with_reducible repeat (first | apply Kd.R_alloc | apply Kd.R_drewN | apply Kd.R_drew)); exact HO463.out))) (below_size (by repeat (first | (with_reducible first | exact HB.out | apply below_alloc | apply pw_below_drewN | apply below_drew1) | exact HB.out)))); have n2_ := Aside0.mk (below_step (by repeat (first | (with_reducible first | exact HB.out | apply below_alloc | apply pw_below_drewN | apply below_drew1) | exact HB.out)) hb); clear HO463; clear HB; have HO463 := n0_; have HO467 := n1_; have HB := n2_; clear n0_ n1_ n2_; (try clear hb); (try clear hb2); (try clear hk); (try clear hi); (try clear ho0)) | (go_at_call 34; (with_reducible refine (spec_MelodyMove.calls k _ _ t460 t461 t468 t469 _ ?side1 ?side2 A5.out).mono ?_); (case side1 => repeat (first | exact (Kd.R_reads' HO463.out).2.2 | (with_reducible refine Kd.C_alloc ?_ _) | (with_reducible refine Kd.C_drewN ?_ _) | (with_reducible refine Kd.C_drew ?_))); (case side2 => exact (Kd.R_reads' HO463.out).2.1); rintro e w10 ⟨v470, rfl, ho0, hb⟩; have n0_ := Aside0.mk (Kd.R_elder' (by (with_reducible repeat (first | apply Kd.R_alloc | apply Kd.R_drewN | apply Kd.R_drew)); exact HO463.out) (Kd.R_base ho0) hb); have n1_ := Aside0.mk (Kd.R_elder' (by (with_reducible repeat (first | apply Kd.R_alloc | apply Kd.R_drewN | apply Kd.R_drew)); exact HO467.out) (Kd.R_base ho0) hb); have n2_ := Aside0.mk (Kd.R_lower (Kd.R_new' (Kd.R_new' ho0 (Kd.R_lt (by (with_reducible repeat (first | apply Kd.R_alloc | apply Kd.R_drewN | apply Kd.R_drew)); exact HO463.out))) (Kd.R_lt (by (with_reducible repeat (first | apply Kd.R_alloc | apply Kd.R_drewN | apply Kd.R_drew)); exact HO467.out))) (below_size (by repeat (first | (with_reducible first | exact HB.out | apply below_alloc | apply pw_below_drewN | apply below_drew1) | exact HB.out)))); have n3_ := Aside0.mk (below_step (by repeat (first | (with_reducible first | exact HB.out | apply below_alloc | apply pw_below_drewN | apply below_drew1) | exact HB.out)) hb); clear HO463; clear HO467; clear HB; have HO463 := n0_; have HO467 := n1_; have HO471 := n2_; have HB := n3_; clear n0_ n1_ n2_ n3_; (try clear hb); (try clear hb2); (try clear hk); (try clear hi); (try clear ho0))))
 (try simp only [Act.put, List.setIfInBounds_toArray, List.set_cons_zero, List.set_cons_succ])
 go_cut [49] (fun v49 wc => ∃ (kq : Nat) (x49_5 : Bool), v49 = .bool x49_5 ∧ Aside0 (laws_FnMelodyMoveOctave.j0 kq t460 t464 t465 t468 t469 x49_5 = some r) ∧ Aside0 (kq ≤ k) ∧ Aside0 (Kd.R k25 25 wc w.heap.size (fun k_ => some k_ ≠ (v466 : Value).ownBlock ∧ some k_ ≠ (v470 : Value).ownBlock) (.slice Ao8 t460.length co8) t460) ∧ Aside0 (Kd.R k25 25 wc w.heap.size (fun k_ => some k_ ≠ ((.slice Ao8 t460.length co8) : Value).ownBlock ∧ some k_ ≠ (v470 : Value).ownBlock) v466 t464) ∧ Aside0 (Kd.R k25 25 wc w.heap.size (fun k_ => some k_ ≠ ((.slice Ao8 t460.length co8) : Value).ownBlock ∧ some k_ ≠ (v466 : Value).ownBlock) v470 t468) ∧ Aside0 (Below w.heap.size w wc))
 case first =>
  have H := HC6.out
  clear HC6
  by_cases c11 : (t465 != t469) = true
  ·rw [if_pos c11] at H
   have c11b0 : (t465 != t469) = true := c11
   (try (have c11b1 : decide (t465 = t469) = false := by simpa using c11))
   (try (have c11b2 : (t465 == t469) = false := by simpa using c11))
   (try (have c11b3 : ¬ (t465 = t469) := by simpa using c11))
   clear c11
   (first | rw [c11b0] | (simp only [i64_w, i32_w]; rw [c11b0]) | skip)
   have H' := Aside0.mk H
   clear H
   go_wp2
   repeat (go_quiet (fail); try go_wp2)
   go_meet
   case rel => exact ⟨_, (true), (by first | rfl | (simp; done) | (simp [*]; done)), H', ⟨by first | omega | exact Nat.le_refl _⟩, ⟨by (with_reducible repeat (first | apply Kd.R_alloc | apply Kd.R_drewN | apply Kd.R_drew)); exact Kd.R_mono HO463.out (fun _ hk => ⟨hk.1.2, hk.2⟩)⟩, ⟨by (with_reducible repeat (first | apply Kd.R_alloc | apply Kd.R_drewN | apply Kd.R_drew)); exact Kd.R_mono HO467.out (fun _ hk => ⟨hk.1.2, hk.2⟩)⟩, ⟨by (with_reducible repeat (first | apply Kd.R_alloc | apply Kd.R_drewN | apply Kd.R_drew)); exact Kd.R_mono HO471.out (fun _ hk => ⟨hk.1.2, hk.2⟩)⟩, ⟨by repeat (first | (with_reducible first | exact HB.out | apply below_alloc | apply pw_below_drewN | apply below_drew1) | exact HB.out)⟩⟩
  rw [if_neg c11] at H
  have c11b0 : (t465 != t469) = false := by simpa using c11
  (try (have c11b1 : decide (t465 = t469) = true := by simpa using c11))
  (try (have c11b2 : (t465 == t469) = true := by simpa using c11))
  clear c11
  (first | rw [c11b0] | (simp only [i64_w, i32_w]; rw [c11b0]) | skip)
  replace H := Option.bind_eq_some_iff.mp H
  obtain ⟨t472, A120, H⟩ := H
  replace H : (if t472 = true then (laws_FnMelodyMoveOctave.j0 k t460 t464 t465 t468 t469 (!t465)) else (laws_FnMelodyMoveOctave.j0 k t460 t464 t465 t468 t469 true)) = some r := H
  have A12 := Aside0.mk A120
  clear A120
  by_cases c13 : t472 = true
  ·subst c13
   have H1 : (laws_FnMelodyMoveOctave.j0 k t460 t464 t465 t468 t469 (!t465)) = some r := by rw [if_pos rfl] at H; exact H
   clear H
   have H := H1
   clear H1
   have H' := Aside0.mk H
   clear H
   obtain ⟨Ao14, co14, eo14⟩ := Kd.R_slice HO467.out
   subst eo14
   obtain ⟨Ao15, co15, eo15⟩ := Kd.R_slice HO471.out
   subst eo15
   go_wp2_with (first | (go_at_call 35; (with_reducible refine (laws_sameTones.calls k _ _ t464 _ _ t468 true _ ?side1 ?side2 ?side3 ?side4 A12.out).mono ?_); (case side1 => repeat (first | exact (Kd.R_reads' HO467.out).2.2 | (with_reducible refine Kd.C_alloc ?_ _) | (with_reducible refine Kd.C_drewN ?_ _) | (with_reducible refine Kd.C_drew ?_))); (case side2 => exact (Kd.R_reads' HO467.out).2.1); (case side3 => repeat (first | exact (Kd.R_reads' HO471.out).2.2 | (with_reducible refine Kd.C_alloc ?_ _) | (with_reducible refine Kd.C_drewN ?_ _) | (with_reducible refine Kd.C_drew ?_))); (case side4 => exact (Kd.R_reads' HO471.out).2.1); rintro e w' ⟨rfl, ⟨nd, rfl⟩⟩; (try first | exact ⟨rfl, _, World.drewN_drewN _ _ _⟩ | exact ⟨rfl, _, Eq.trans (World.drewN_drewN _ _ _) (congrArg (World.drewN _) (Nat.add_assoc _ _ _))⟩)))
   repeat (go_quiet (first | (go_at_call 35; (with_reducible refine (laws_sameTones.calls k _ _ t464 _ _ t468 true _ ?side1 ?side2 ?side3 ?side4 A12.out).mono ?_); (case side1 => repeat (first | exact (Kd.R_reads' HO467.out).2.2 | (with_reducible refine Kd.C_alloc ?_ _) | (with_reducible refine Kd.C_drewN ?_ _) | (with_reducible refine Kd.C_drew ?_))); (case side2 => exact (Kd.R_reads' HO467.out).2.1); (case side3 => repeat (first | exact (Kd.R_reads' HO471.out).2.2 | (with_reducible refine Kd.C_alloc ?_ _) | (with_reducible refine Kd.C_drewN ?_ _) | (with_reducible refine Kd.C_drew ?_))); (case side4 => exact (Kd.R_reads' HO471.out).2.1); rintro e w' ⟨rfl, ⟨nd, rfl⟩⟩; (try first | exact ⟨rfl, _, World.drewN_drewN _ _ _⟩ | exact ⟨rfl, _, Eq.trans (World.drewN_drewN _ _ _) (congrArg (World.drewN _) (Nat.add_assoc _ _ _))⟩))); try go_wp2_with (first | (go_at_call 35; (with_reducible refine (laws_sameTones.calls k _ _ t464 _ _ t468 true _ ?side1 ?side2 ?side3 ?side4 A12.out).mono ?_); (case side1 => repeat (first | exact (Kd.R_reads' HO467.out).2.2 | (with_reducible refine Kd.C_alloc ?_ _) | (with_reducible refine Kd.C_drewN ?_ _) | (with_reducible refine Kd.C_drew ?_))); (case side2 => exact (Kd.R_reads' HO467.out).2.1); (case side3 => repeat (first | exact (Kd.R_reads' HO471.out).2.2 | (with_reducible refine Kd.C_alloc ?_ _) | (with_reducible refine Kd.C_drewN ?_ _) | (with_reducible refine Kd.C_drew ?_))); (case side4 => exact (Kd.R_reads' HO471.out).2.1); rintro e w' ⟨rfl, ⟨nd, rfl⟩⟩; (try first | exact ⟨rfl, _, World.drewN_drewN _ _ _⟩ | exact ⟨rfl, _, Eq.trans (World.drewN_drewN _ _ _) (congrArg (World.drewN _) (Nat.add_assoc _ _ _))⟩))))
   go_meet
   case rel => exact ⟨_, (!t465), (by first | rfl | (simp; done) | (simp [*]; done)), H', ⟨by first | omega | exact Nat.le_refl _⟩, ⟨by (with_reducible repeat (first | apply Kd.R_alloc | apply Kd.R_drewN | apply Kd.R_drew)); exact Kd.R_mono HO463.out (fun _ hk => ⟨hk.1.2, hk.2⟩)⟩, ⟨by (with_reducible repeat (first | apply Kd.R_alloc | apply Kd.R_drewN | apply Kd.R_drew)); exact Kd.R_mono HO467.out (fun _ hk => ⟨hk.1.2, hk.2⟩)⟩, ⟨by (with_reducible repeat (first | apply Kd.R_alloc | apply Kd.R_drewN | apply Kd.R_drew)); exact Kd.R_mono HO471.out (fun _ hk => ⟨hk.1.2, hk.2⟩)⟩, ⟨by repeat (first | (with_reducible first | exact HB.out | apply below_alloc | apply pw_below_drewN | apply below_drew1) | exact HB.out)⟩⟩
  replace c13 := Bool.eq_false_iff.mpr c13
  subst c13
  have H1 : (laws_FnMelodyMoveOctave.j0 k t460 t464 t465 t468 t469 true) = some r := by rw [if_neg (show ¬ (false = true) by decide)] at H; exact H
  clear H
  have H := H1
  clear H1
  have H' := Aside0.mk H
  clear H
  obtain ⟨Ao16, co16, eo16⟩ := Kd.R_slice HO467.out
  subst eo16
  obtain ⟨Ao17, co17, eo17⟩ := Kd.R_slice HO471.out
  subst eo17
  go_wp2_with (first | (go_at_call 35; (with_reducible refine (laws_sameTones.calls k _ _ t464 _ _ t468 false _ ?side1 ?side2 ?side3 ?side4 A12.out).mono ?_); (case side1 => repeat (first | exact (Kd.R_reads' HO467.out).2.2 | (with_reducible refine Kd.C_alloc ?_ _) | (with_reducible refine Kd.C_drewN ?_ _) | (with_reducible refine Kd.C_drew ?_))); (case side2 => exact (Kd.R_reads' HO467.out).2.1); (case side3 => repeat (first | exact (Kd.R_reads' HO471.out).2.2 | (with_reducible refine Kd.C_alloc ?_ _) | (with_reducible refine Kd.C_drewN ?_ _) | (with_reducible refine Kd.C_drew ?_))); (case side4 => exact (Kd.R_reads' HO471.out).2.1); rintro e w' ⟨rfl, ⟨nd, rfl⟩⟩; (try first | exact ⟨rfl, _, World.drewN_drewN _ _ _⟩ | exact ⟨rfl, _, Eq.trans (World.drewN_drewN _ _ _) (congrArg (World.drewN _) (Nat.add_assoc _ _ _))⟩)))
  repeat (go_quiet (first | (go_at_call 35; (with_reducible refine (laws_sameTones.calls k _ _ t464 _ _ t468 false _ ?side1 ?side2 ?side3 ?side4 A12.out).mono ?_); (case side1 => repeat (first | exact (Kd.R_reads' HO467.out).2.2 | (with_reducible refine Kd.C_alloc ?_ _) | (with_reducible refine Kd.C_drewN ?_ _) | (with_reducible refine Kd.C_drew ?_))); (case side2 => exact (Kd.R_reads' HO467.out).2.1); (case side3 => repeat (first | exact (Kd.R_reads' HO471.out).2.2 | (with_reducible refine Kd.C_alloc ?_ _) | (with_reducible refine Kd.C_drewN ?_ _) | (with_reducible refine Kd.C_drew ?_))); (case side4 => exact (Kd.R_reads' HO471.out).2.1); rintro e w' ⟨rfl, ⟨nd, rfl⟩⟩; (try first | exact ⟨rfl, _, World.drewN_drewN _ _ _⟩ | exact ⟨rfl, _, Eq.trans (World.drewN_drewN _ _ _) (congrArg (World.drewN _) (Nat.add_assoc _ _ _))⟩))); try go_wp2_with (first | (go_at_call 35; (with_reducible refine (laws_sameTones.calls k _ _ t464 _ _ t468 false _ ?side1 ?side2 ?side3 ?side4 A12.out).mono ?_); (case side1 => repeat (first | exact (Kd.R_reads' HO467.out).2.2 | (with_reducible refine Kd.C_alloc ?_ _) | (with_reducible refine Kd.C_drewN ?_ _) | (with_reducible refine Kd.C_drew ?_))); (case side2 => exact (Kd.R_reads' HO467.out).2.1); (case side3 => repeat (first | exact (Kd.R_reads' HO471.out).2.2 | (with_reducible refine Kd.C_alloc ?_ _) | (with_reducible refine Kd.C_drewN ?_ _) | (with_reducible refine Kd.C_drew ?_))); (case side4 => exact (Kd.R_reads' HO471.out).2.1); rintro e w' ⟨rfl, ⟨nd, rfl⟩⟩; (try first | exact ⟨rfl, _, World.drewN_drewN _ _ _⟩ | exact ⟨rfl, _, Eq.trans (World.drewN_drewN _ _ _) (congrArg (World.drewN _) (Nat.add_assoc _ _ _))⟩))))
  go_meet
  case rel => exact ⟨_, (true), (by first | rfl | (simp; done) | (simp [*]; done)), H', ⟨by first | omega | exact Nat.le_refl _⟩, ⟨by (with_reducible repeat (first | apply Kd.R_alloc | apply Kd.R_drewN | apply Kd.R_drew)); exact Kd.R_mono HO463.out (fun _ hk => ⟨hk.1.2, hk.2⟩)⟩, ⟨by (with_reducible repeat (first | apply Kd.R_alloc | apply Kd.R_drewN | apply Kd.R_drew)); exact Kd.R_mono HO467.out (fun _ hk => ⟨hk.1.2, hk.2⟩)⟩, ⟨by (with_reducible repeat (first | apply Kd.R_alloc | apply Kd.R_drewN | apply Kd.R_drew)); exact Kd.R_mono HO471.out (fun _ hk => ⟨hk.1.2, hk.2⟩)⟩, ⟨by repeat (first | (with_reducible first | exact HB.out | apply below_alloc | apply pw_below_drewN | apply below_drew1) | exact HB.out)⟩⟩
 case rest =>
  clear HC6
  try clear c1
  try clear c2
  try clear c2b0
  try clear c2b1
  try clear p2
  try clear c10
  try clear c11
  try clear c11b0
  try clear c11b1
  try clear c11b2
  try clear c13
  obtain ⟨kq, x49_5, rfl, HA, HJ5, HO_3, HO_5, HO_7, HB⟩ := hcut
  cases kq with
  | zero => exact absurd HA.out (by simp [laws_FnMelodyMoveOctave.j0])
  | succ kj5 =>
   have H := HA.out
   clear HA
   simp only [laws_FnMelodyMoveOctave.j0] at H
   by_cases c18 : x49_5 = true
   ·subst c18
    have H1 : (if (t465 == t469) = true then ((laws_sameTones.f kj5 t464 t468).bind fun t473 => (some t473)) else (none)) = some r := by rw [if_pos rfl] at H; exact H
    clear H
    have H := H1
    clear H1
    by_cases c19 : (t465 == t469) = true
    rotate_left
    ·rw [if_neg c19] at H
     exact absurd H (by simp)
    rw [if_pos c19] at H
    have c19b0 : (t465 == t469) = true := c19
    (try (have c19b1 : decide (t465 = t469) = true := by simpa using c19))
    (try (have c19b2 : (t465 == t469) = true := by simpa using c19))
    clear c19
    replace H := Option.bind_eq_some_iff.mp H
    obtain ⟨t473, A200, H⟩ := H
    replace H : (some t473) = some r := H
    have A20 := Aside0.mk A200
    clear A200
    obtain rfl := Option.some.inj H
    obtain ⟨Ao21, co21, eo21⟩ := Kd.R_slice HO_5.out
    subst eo21
    obtain ⟨Ao22, co22, eo22⟩ := Kd.R_slice HO_7.out
    subst eo22
    go_wp2_with (first | (go_at_call 35; (with_reducible refine (laws_sameTones.calls kj5 _ _ t464 _ _ t468 t473 _ ?side1 ?side2 ?side3 ?side4 A20.out).mono ?_); (case side1 => repeat (first | exact (Kd.R_reads' HO_5.out).2.2 | (with_reducible refine Kd.C_alloc ?_ _) | (with_reducible refine Kd.C_drewN ?_ _) | (with_reducible refine Kd.C_drew ?_))); (case side2 => exact (Kd.R_reads' HO_5.out).2.1); (case side3 => repeat (first | exact (Kd.R_reads' HO_7.out).2.2 | (with_reducible refine Kd.C_alloc ?_ _) | (with_reducible refine Kd.C_drewN ?_ _) | (with_reducible refine Kd.C_drew ?_))); (case side4 => exact (Kd.R_reads' HO_7.out).2.1); rintro e w' ⟨rfl, ⟨nd, rfl⟩⟩; (try first | exact ⟨rfl, _, World.drewN_drewN _ _ _⟩ | exact ⟨rfl, _, Eq.trans (World.drewN_drewN _ _ _) (congrArg (World.drewN _) (Nat.add_assoc _ _ _))⟩)))
    repeat (go_quiet (first | (go_at_call 35; (with_reducible refine (laws_sameTones.calls kj5 _ _ t464 _ _ t468 t473 _ ?side1 ?side2 ?side3 ?side4 A20.out).mono ?_); (case side1 => repeat (first | exact (Kd.R_reads' HO_5.out).2.2 | (with_reducible refine Kd.C_alloc ?_ _) | (with_reducible refine Kd.C_drewN ?_ _) | (with_reducible refine Kd.C_drew ?_))); (case side2 => exact (Kd.R_reads' HO_5.out).2.1); (case side3 => repeat (first | exact (Kd.R_reads' HO_7.out).2.2 | (with_reducible refine Kd.C_alloc ?_ _) | (with_reducible refine Kd.C_drewN ?_ _) | (with_reducible refine Kd.C_drew ?_))); (case side4 => exact (Kd.R_reads' HO_7.out).2.1); rintro e w' ⟨rfl, ⟨nd, rfl⟩⟩; (try first | exact ⟨rfl, _, World.drewN_drewN _ _ _⟩ | exact ⟨rfl, _, Eq.trans (World.drewN_drewN _ _ _) (congrArg (World.drewN _) (Nat.add_assoc _ _ _))⟩))); try go_wp2_with (first | (go_at_call 35; (with_reducible refine (laws_sameTones.calls kj5 _ _ t464 _ _ t468 t473 _ ?side1 ?side2 ?side3 ?side4 A20.out).mono ?_); (case side1 => repeat (first | exact (Kd.R_reads' HO_5.out).2.2 | (with_reducible refine Kd.C_alloc ?_ _) | (with_reducible refine Kd.C_drewN ?_ _) | (with_reducible refine Kd.C_drew ?_))); (case side2 => exact (Kd.R_reads' HO_5.out).2.1); (case side3 => repeat (first | exact (Kd.R_reads' HO_7.out).2.2 | (with_reducible refine Kd.C_alloc ?_ _) | (with_reducible refine Kd.C_drewN ?_ _) | (with_reducible refine Kd.C_drew ?_))); (case side4 => exact (Kd.R_reads' HO_7.out).2.1); rintro e w' ⟨rfl, ⟨nd, rfl⟩⟩; (try first | exact ⟨rfl, _, World.drewN_drewN _ _ _⟩ | exact ⟨rfl, _, Eq.trans (World.drewN_drewN _ _ _) (congrArg (World.drewN _) (Nat.add_assoc _ _ _))⟩))))
    go_ret
    exact ⟨by first | rfl | (simp [errW_none, errW_some] <;> rfl) | (simp [*, errW_none, errW_some] <;> rfl), by repeat (first | (with_reducible first | exact HB.out | apply below_alloc | apply pw_below_drewN | apply below_drew1) | exact HB.out)⟩
   replace c18 := Bool.eq_false_iff.mpr c18
   subst c18
   have H1 : ((impl_MelodyRange.f kj5 t460).bind fun bt474 => (if bt474.2.2 = true then ((impl_MelodyMove.f kj5 t460 7).bind fun bt477 => (if (wrap64 (bt474.2.1 + 7)) > 20 then (some (!bt477.2)) else (laws_FnMelodyMoveOctave.l0 kj5 t460 bt477.1 bt477.2 false 0))) else (if (t460.length : Int) = 0 then (some ((t464.length : Int) == 0)) else (none)))) = some r := by rw [if_neg (show ¬ (false = true) by decide)] at H; exact H
   clear H
   have H := H1
   clear H1
   replace H := Option.bind_eq_some_iff.mp H
   obtain ⟨⟨t474, t475, t476⟩, A230, H⟩ := H
   replace H : (if t476 = true then ((impl_MelodyMove.f kj5 t460 7).bind fun bt477 => (if (wrap64 (t475 + 7)) > 20 then (some (!bt477.2)) else (laws_FnMelodyMoveOctave.l0 kj5 t460 bt477.1 bt477.2 false 0))) else (if (t460.length : Int) = 0 then (some ((t464.length : Int) == 0)) else (none))) = some r := H
   have A23 := Aside0.mk A230
   clear A230
   by_cases c24 : t476 = true
   rotate_left
   ·replace c24 := Bool.eq_false_iff.mpr c24
    subst c24
    have H1 : (if (t460.length : Int) = 0 then (some ((t464.length : Int) == 0)) else (none)) = some r := by rw [if_neg (show ¬ (false = true) by decide)] at H; exact H
    clear H
    have H := H1
    clear H1
    by_cases c45 : (t460.length : Int) = 0
    rotate_left
    ·rw [if_neg c45] at H
     exact absurd H (by simp)
    rw [if_pos c45] at H
    have c45b0 : ((t460.length : Int) == 0) = true := beq_iff_eq.mpr c45
    have c45b1 : ((t460.length : Int) != 0) = false := bne_eq_false_iff_eq.mpr c45
    clear c45
    obtain rfl := Option.some.inj H
    go_wp2_with (first | (go_at_call 36; (with_reducible refine (impl_MelodyRange.calls kj5 _ _ t460 t474 t475 false _ ?side1 ?side2 A23.out).mono ?_); (case side1 => repeat (first | exact (Kd.R_reads' HO_3.out).2.2 | (with_reducible refine Kd.C_alloc ?_ _) | (with_reducible refine Kd.C_drewN ?_ _) | (with_reducible refine Kd.C_drew ?_))); (case side2 => exact (Kd.R_reads' HO_3.out).2.1); rintro e w46 ⟨rfl, hb⟩; have n0_ := Aside0.mk (Kd.R_below (by (with_reducible repeat (first | apply Kd.R_alloc | apply Kd.R_drewN | apply Kd.R_drew)); exact HO_3.out) hb); have n1_ := Aside0.mk (Kd.R_below (by (with_reducible repeat (first | apply Kd.R_alloc | apply Kd.R_drewN | apply Kd.R_drew)); exact HO_5.out) hb); have n2_ := Aside0.mk (Kd.R_below (by (with_reducible repeat (first | apply Kd.R_alloc | apply Kd.R_drewN | apply Kd.R_drew)); exact HO_7.out) hb); have n3_ := Aside0.mk (below_step (by repeat (first | (with_reducible first | exact HB.out | apply below_alloc | apply pw_below_drewN | apply below_drew1) | exact HB.out)) hb); clear HO_3; clear HO_5; clear HO_7; clear HB; have HO_3 := n0_; have HO_5 := n1_; have HO_7 := n2_; have HB := n3_; clear n0_ n1_ n2_ n3_; (try clear hb); (try clear hb2); (try clear hk); (try clear hi); obtain ⟨Ao47, co47, eo47⟩ := Kd.R_slice HO_5.out; subst eo47))
    repeat (go_quiet (first | (go_at_call 36; (with_reducible refine (impl_MelodyRange.calls kj5 _ _ t460 t474 t475 false _ ?side1 ?side2 A23.out).mono ?_); (case side1 => repeat (first | exact (Kd.R_reads' HO_3.out).2.2 | (with_reducible refine Kd.C_alloc ?_ _) | (with_reducible refine Kd.C_drewN ?_ _) | (with_reducible refine Kd.C_drew ?_))); (case side2 => exact (Kd.R_reads' HO_3.out).2.1); rintro e w46 ⟨rfl, hb⟩; have n0_ := Aside0.mk (Kd.R_below (by (with_reducible repeat (first | apply Kd.R_alloc | apply Kd.R_drewN | apply Kd.R_drew)); exact HO_3.out) hb); have n1_ := Aside0.mk (Kd.R_below (by (with_reducible repeat (first | apply Kd.R_alloc | apply Kd.R_drewN | apply Kd.R_drew)); exact HO_5.out) hb); have n2_ := Aside0.mk (Kd.R_below (by (with_reducible repeat (first | apply Kd.R_alloc | apply Kd.R_drewN | apply Kd.R_drew)); exact HO_7.out) hb); have n3_ := Aside0.mk (below_step (by repeat (first | (with_reducible first | exact HB.out | apply below_alloc | apply pw_below_drewN | apply below_drew1) | exact HB.out)) hb); clear HO_3; clear HO_5; clear HO_7; clear HB; have HO_3 := n0_; have HO_5 := n1_; have HO_7 := n2_; have HB := n3_; clear n0_ n1_ n2_ n3_; (try clear hb); (try clear hb2); (try clear hk); (try clear hi); obtain ⟨Ao47, co47, eo47⟩ := Kd.R_slice HO_5.out; subst eo47)); try go_wp2_with (first | (go_at_call 36; (with_reducible refine (impl_MelodyRange.calls kj5 _ _ t460 t474 t475 false _ ?side1 ?side2 A23.out).mono ?_); (case side1 => repeat (first | exact (Kd.R_reads' HO_3.out).2.2 | (with_reducible refine Kd.C_alloc ?_ _) | (with_reducible refine Kd.C_drewN ?_ _) | (with_reducible refine Kd.C_drew ?_))); (case side2 => exact (Kd.R_reads' HO_3.out).2.1); rintro e w46 ⟨rfl, hb⟩; have n0_ := Aside0.mk (Kd.R_below (by (with_reducible repeat (first | apply Kd.R_alloc | apply Kd.R_drewN | apply Kd.R_drew)); exact HO_3.out) hb); have n1_ := Aside0.mk (Kd.R_below (by (with_reducible repeat (first | apply Kd.R_alloc | apply Kd.R_drewN | apply Kd.R_drew)); exact HO_5.out) hb); have n2_ := Aside0.mk (Kd.R_below (by (with_reducible repeat (first | apply Kd.R_alloc | apply Kd.R_drewN | apply Kd.R_drew)); exact HO_7.out) hb); have n3_ := Aside0.mk (below_step (by repeat (first | (with_reducible first | exact HB.out | apply below_alloc | apply pw_below_drewN | apply below_drew1) | exact HB.out)) hb); clear HO_3; clear HO_5; clear HO_7; clear HB; have HO_3 := n0_; have HO_5 := n1_; have HO_7 := n2_; have HB := n3_; clear n0_ n1_ n2_ n3_; (try clear hb); (try clear hb2); (try clear hk); (try clear hi); obtain ⟨Ao47, co47, eo47⟩ := Kd.R_slice HO_5.out; subst eo47)))
    go_ret
    exact ⟨by first | rfl | (simp [errW_none, errW_some] <;> rfl) | (simp [*, errW_none, errW_some] <;> rfl), by repeat (first | (with_reducible first | exact HB.out | apply below_alloc | apply pw_below_drewN | apply below_drew1) | exact HB.out)⟩
   subst c24
   have H1 : ((impl_MelodyMove.f kj5 t460 7).bind fun bt477 => (if (wrap64 (t475 + 7)) > 20 then (some (!bt477.2)) else (laws_FnMelodyMoveOctave.l0 kj5 t460 bt477.1 bt477.2 false 0))) = some r := by rw [if_pos rfl] at H; exact H
   clear H
   have H := H1
   clear H1
   replace H := Option.bind_eq_some_iff.mp H
   obtain ⟨⟨t477, t478⟩, A250, H⟩ := H
   replace H : (if (wrap64 (t475 + 7)) > 20 then (some (!t478)) else (laws_FnMelodyMoveOctave.l0 kj5 t460 t477 t478 false 0)) = some r := H
   have A25 := Aside0.mk A250
   clear A250
   by_cases c26 : (wrap64 (t475 + 7)) > 20
   ·rw [if_pos c26] at H
    have c26b0 : decide (20 < (wrap64 (t475 + 7))) = true := decide_eq_true c26
    clear c26
    obtain rfl := Option.some.inj H
    go_wp2_with (first | (go_at_call 36; (with_reducible refine (impl_MelodyRange.calls kj5 _ _ t460 t474 t475 true _ ?side1 ?side2 A23.out).mono ?_); (case side1 => repeat (first | exact (Kd.R_reads' HO_3.out).2.2 | (with_reducible refine Kd.C_alloc ?_ _) | (with_reducible refine Kd.C_drewN ?_ _) | (with_reducible refine Kd.C_drew ?_))); (case side2 => exact (Kd.R_reads' HO_3.out).2.1); rintro e w27 ⟨rfl, hb⟩; have n0_ := Aside0.mk (Kd.R_below (by (with_reducible repeat (first | apply Kd.R_alloc | apply Kd.R_drewN | apply Kd.R_drew)); exact HO_3.out) hb); have n1_ := Aside0.mk (Kd.R_below (by (with_reducible repeat (first | apply Kd.R_alloc | apply Kd.R_drewN | apply Kd.R_drew)); exact HO_5.out) hb); have n2_ := Aside0.mk (Kd.R_below (by (with_reducible repeat (first | apply Kd.R_alloc | apply Kd.R_drewN | apply Kd.R_drew)); exact HO_7.out) hb); have n3_ := Aside0.mk (below_step (by repeat (first | (with_reducible first | exact HB.out | apply below_alloc | apply pw_below_drewN | apply below_drew1) | exact HB.out)) hb); clear HO_3; clear HO_5; clear HO_7; clear HB; have HO_3 := n0_; have HO_5 := n1_; have HO_7 := n2_; have HB := n3_; clear n0_ n1_ n2_ n3_; (try clear hb); (try clear hb2); (try clear hk); (try clear hi)) | (go_at_call 33; (with_reducible refine (impl_MelodyMove.calls kj5 _ _ t460 7 t477 t478 _ ?side1 ?side2 ?side3 A25.out).mono ?_); (case side1 => repeat (first | exact (Kd.R_reads' HO_3.out).2.2 | (with_reducible refine Kd.C_alloc ?_ _) | (with_reducible refine Kd.C_drewN ?_ _) | (with_reducible refine Kd.C_drew ?_))); (case side2 => exact (Kd.R_reads' HO_3.out).2.1); (case side3 => exact GOk.sub (GOk.below HG.out (by repeat (first | (with_reducible first | exact HB.out | apply below_alloc | apply pw_below_drewN | apply below_drew1) | exact HB.out))) (by decide)); rintro e w28 ⟨v479, rfl, ho0, hb⟩; have n0_ := Aside0.mk (Kd.R_elder' (by (with_reducible repeat (first | apply Kd.R_alloc | apply Kd.R_drewN | apply Kd.R_drew)); exact HO_3.out) (Kd.R_base ho0) hb); have n1_ := Aside0.mk (Kd.R_elder' (by (with_reducible repeat (first | apply Kd.R_alloc | apply Kd.R_drewN | apply Kd.R_drew)); exact HO_5.out) (Kd.R_base ho0) hb); have n2_ := Aside0.mk (Kd.R_elder' (by (with_reducible repeat (first | apply Kd.R_alloc | apply Kd.R_drewN | apply Kd.R_drew)); exact HO_7.out) (Kd.R_base ho0) hb); have n3_ := Aside0.mk (Kd.R_lower (Kd.R_new' (Kd.R_new' (Kd.R_new' ho0 (Kd.R_lt (by (with_reducible repeat (first | apply Kd.R_alloc | apply Kd.R_drewN | apply Kd.R_drew)); exact HO_3.out))) (Kd.R_lt (by (with_reducible repeat (first | apply Kd.R_alloc | apply Kd.R_drewN | apply Kd.R_drew)); exact HO_5.out))) (Kd.R_lt (by (with_reducible repeat (first | apply Kd.R_alloc | apply Kd.R_drewN | apply Kd.R_drew)); exact HO_7.out))) (below_size (by repeat (first | (with_reducible first | exact HB.out | apply below_alloc | apply pw_below_drewN | apply below_drew1) | exact HB.out)))); have n4_ := Aside0.mk (below_step (by repeat (first | (with_reducible first | exact HB.out | apply below_alloc | apply pw_below_drewN | apply below_drew1) | exact HB.out)) hb); clear HO_3; clear HO_5; clear HO_7; clear HB; have HO_3 := n0_; have HO_5 := n1_; have HO_7 := n2_; have HO480 := n3_; have HB := n4_; clear n0_ n1_ n2_ n3_ n4_; (try clear hb); (try clear hb2); (try clear hk); (try clear hi); (try clear ho0)))
    repeat (go_quiet (first | (go_at_call 36; (with_reducible refine (impl_MelodyRange.calls kj5 _ _ t460 t474 t475 true _ ?side1 ?side2 A23.out).mono ?_); (case side1 => repeat (first | exact (Kd.R_reads' HO_3.out).2.2 | (with_reducible refine Kd.C_alloc ?_ _) | (with_reducible refine Kd.C_drewN ?_ _) | (with_reducible refine Kd.C_drew ?_))); (case side2 => exact (Kd.R_reads' HO_3.out).2.1); rintro e w27 ⟨rfl, hb⟩; have n0_ := Aside0.mk (Kd.R_below (by (with_reducible repeat (first | apply Kd.R_alloc | apply Kd.R_drewN | apply Kd.R_drew)); exact HO_3.out) hb); have n1_ := Aside0.mk (Kd.R_below (by (with_reducible repeat (first | apply Kd.R_alloc | apply Kd.R_drewN | apply Kd.R_drew)); exact HO_5.out) hb); have n2_ := Aside0.mk (Kd.R_below (by (with_reducible repeat (first | apply Kd.R_alloc | apply Kd.R_drewN | apply Kd.R_drew)); exact HO_7.out) hb); have n3_ := Aside0.mk (below_step (by repeat (first | (with_reducible first | exact HB.out | apply below_alloc | apply pw_below_drewN | apply below_drew1) | exact HB.out)) hb); clear HO_3; clear HO_5; clear HO_7; clear HB; have HO_3 := n0_; have HO_5 := n1_; have HO_7 := n2_; have HB := n3_; clear n0_ n1_ n2_ n3_; (try clear hb); (try clear hb2); (try clear hk); (try clear hi)) | (go_at_call 33; (with_reducible refine (impl_MelodyMove.calls kj5 _ _ t460 7 t477 t478 _ ?side1 ?side2 ?side3 A25.out).mono ?_); (case side1 => repeat (first | exact (Kd.R_reads' HO_3.out).2.2 | (with_reducible refine Kd.C_alloc ?_ _) | (with_reducible refine Kd.C_drewN ?_ _) | (with_reducible refine Kd.C_drew ?_))); (case side2 => exact (Kd.R_reads' HO_3.out).2.1); (case side3 => exact GOk.sub (GOk.below HG.out (by repeat (first | (with_reducible first | exact HB.out | apply below_alloc | apply pw_below_drewN | apply below_drew1) | exact HB.out))) (by decide)); rintro e w28 ⟨v479, rfl, ho0, hb⟩; have n0_ := Aside0.mk (Kd.R_elder' (by (with_reducible repeat (first | apply Kd.R_alloc | apply Kd.R_drewN | apply Kd.R_drew)); exact HO_3.out) (Kd.R_base ho0) hb); have n1_ := Aside0.mk (Kd.R_elder' (by (with_reducible repeat (first | apply Kd.R_alloc | apply Kd.R_drewN | apply Kd.R_drew)); exact HO_5.out) (Kd.R_base ho0) hb); have n2_ := Aside0.mk (Kd.R_elder' (by (with_reducible repeat (first | apply Kd.R_alloc | apply Kd.R_drewN | apply Kd.R_drew)); exact HO_7.out) (Kd.R_base ho0) hb); have n3_ := Aside0.mk (Kd.R_lower (Kd.R_new' (Kd.R_new' (Kd.R_new' ho0 (Kd.R_lt (by (with_reducible repeat (first | apply Kd.R_alloc | apply Kd.R_drewN | apply Kd.R_drew)); exact HO_3.out))) (Kd.R_lt (by (with_reducible repeat (first | apply Kd.R_alloc | apply Kd.R_drewN | apply Kd.R_drew)); exact HO_5.out))) (Kd.R_lt (by (with_reducible repeat (first | apply Kd.R_alloc | apply Kd.R_drewN | apply Kd.R_drew)); exact HO_7.out))) (below_size (by repeat (first | (with_reducible first | exact HB.out | apply below_alloc | apply pw_below_drewN | apply below_drew1) | exact HB.out)))); have n4_ := Aside0.mk (below_step (by repeat (first | (with_reducible first | exact HB.out | apply below_alloc | apply pw_below_drewN | apply below_drew1) | exact HB.out)) hb); clear HO_3; clear HO_5; clear HO_7; clear HB; have HO_3 := n0_; have HO_5 := n1_; have HO_7 := n2_; have HO480 := n3_; have HB := n4_; clear n0_ n1_ n2_ n3_ n4_; (try clear hb); (try clear hb2); (try clear hk); (try clear hi); (try clear ho0))); try go_wp2_with (first | (go_at_call 36; (with_reducible refine (impl_MelodyRange.calls kj5 _ _ t460 t474 t475 true _ ?side1 ?side2 A23.out).mono ?_); (case side1 => repeat (first | exact (Kd.R_reads' HO_3.out).2.2 | (with_reducible refine Kd.C_alloc ?_ _) | (with_reducible refine Kd.C_drewN ?_ _) | (with_reducible refine Kd.C_drew ?_))); (case side2 => exact (Kd.R_reads' HO_3.out).2.1); rintro e w27 ⟨rfl, hb⟩; have n0_ := Aside0.mk (Kd.R_below (by (with_reducible repeat (first | apply Kd.R_alloc | apply Kd.R_drewN | apply Kd.R_drew)); exact HO_3.out) hb); have n1_ := Aside0.mk (Kd.R_below (by (with_reducible repeat (first | apply Kd.R_alloc | apply Kd.R_drewN | apply Kd.R_drew)); exact HO_5.out) hb); have n2_ := Aside0.mk (Kd.R_below (by (with_reducible repeat (first | apply Kd.R_alloc | apply Kd.R_drewN | apply Kd.R_drew)); exact HO_7.out) hb); have n3_ := Aside0.mk (below_step (by repeat (first | (with_reducible first | exact HB.out | apply below_alloc | apply pw_below_drewN | apply below_drew1) | exact HB.out)) hb); clear HO_3; clear HO_5; clear HO_7; clear HB; have HO_3 := n0_; have HO_5 := n1_; have HO_7 := n2_; have HB := n3_; clear n0_ n1_ n2_ n3_; (try clear hb); (try clear hb2); (try clear hk); (try clear hi)) | (go_at_call 33; (with_reducible refine (impl_MelodyMove.calls kj5 _ _ t460 7 t477 t478 _ ?side1 ?side2 ?side3 A25.out).mono ?_); (case side1 => repeat (first | exact (Kd.R_reads' HO_3.out).2.2 | (with_reducible refine Kd.C_alloc ?_ _) | (with_reducible refine Kd.C_drewN ?_ _) | (with_reducible refine Kd.C_drew ?_))); (case side2 => exact (Kd.R_reads' HO_3.out).2.1); (case side3 => exact GOk.sub (GOk.below HG.out (by repeat (first | (with_reducible first | exact HB.out | apply below_alloc | apply pw_below_drewN | apply below_drew1) | exact HB.out))) (by decide)); rintro e w28 ⟨v479, rfl, ho0, hb⟩; have n0_ := Aside0.mk (Kd.R_elder' (by (with_reducible repeat (first | apply Kd.R_alloc | apply Kd.R_drewN | apply Kd.R_drew)); exact HO_3.out) (Kd.R_base ho0) hb); have n1_ := Aside0.mk (Kd.R_elder' (by (with_reducible repeat (first | apply Kd.R_alloc | apply Kd.R_drewN | apply Kd.R_drew)); exact HO_5.out) (Kd.R_base ho0) hb); have n2_ := Aside0.mk (Kd.R_elder' (by (with_reducible repeat (first | apply Kd.R_alloc | apply Kd.R_drewN | apply Kd.R_drew)); exact HO_7.out) (Kd.R_base ho0) hb); have n3_ := Aside0.mk (Kd.R_lower (Kd.R_new' (Kd.R_new' (Kd.R_new' ho0 (Kd.R_lt (by (with_reducible repeat (first | apply Kd.R_alloc | apply Kd.R_drewN | apply Kd.R_drew)); exact HO_3.out))) (Kd.R_lt (by (with_reducible repeat (first | apply Kd.R_alloc | apply Kd.R_drewN | apply Kd.R_drew)); exact HO_5.out))) (Kd.R_lt (by (with_reducible repeat (first | apply Kd.R_alloc | apply Kd.R_drewN | apply Kd.R_drew)); exact HO_7.out))) (below_size (by repeat (first | (with_reducible first | exact HB.out | apply below_alloc | apply pw_below_drewN | apply below_drew1) | exact HB.out)))); have n4_ := Aside0.mk (below_step (by repeat (first | (with_reducible first | exact HB.out | apply below_alloc | apply pw_below_drewN | apply below_drew1) | exact HB.out)) hb); clear HO_3; clear HO_5; clear HO_7; clear HB; have HO_3 := n0_; have HO_5 := n1_; have HO_7 := n2_; have HO480 := n3_; have HB := n4_; clear n0_ n1_ n2_ n3_ n4_; (try clear hb); (try clear hb2); (try clear hk); (try clear hi); (try clear ho0))))
    go_ret
    exact ⟨by first | rfl | (simp [errW_none, errW_some] <;> rfl) | (simp [*, errW_none, errW_some] <;> rfl), by repeat (first | (with_reducible first | exact HB.out | apply below_alloc | apply pw_below_drewN | apply below_drew1) | exact HB.out)⟩
   rw [if_neg c26] at H
   have c26b0 : decide (20 < (wrap64 (t475 + 7))) = false := decide_eq_false c26
   clear c26
   have H' := Aside0.mk H
   clear H
   go_wp2_with (first | (go_at_call 36; (with_reducible refine (impl_MelodyRange.calls kj5 _ _ t460 t474 t475 true _ ?side1 ?side2 A23.out).mono ?_); (case side1 => repeat (first | exact (Kd.R_reads' HO_3.out).2.2 | (with_reducible refine Kd.C_alloc ?_ _) | (with_reducible refine Kd.C_drewN ?_ _) | (with_reducible refine Kd.C_drew ?_))); (case side2 => exact (Kd.R_reads' HO_3.out).2.1); rintro e w29 ⟨rfl, hb⟩; have n0_ := Aside0.mk (Kd.R_below (by (with_reducible repeat (first | apply Kd.R_alloc | apply Kd.R_drewN | apply Kd.R_drew)); exact HO_3.out) hb); have n1_ := Aside0.mk (Kd.R_below (by (with_reducible repeat (first | apply Kd.R_alloc | apply Kd.R_drewN | apply Kd.R_drew)); exact HO_5.out) hb); have n2_ := Aside0.mk (Kd.R_below (by (with_reducible repeat (first | apply Kd.R_alloc | apply Kd.R_drewN | apply Kd.R_drew)); exact HO_7.out) hb); have n3_ := Aside0.mk (below_step (by repeat (first | (with_reducible first | exact HB.out | apply below_alloc | apply pw_below_drewN | apply below_drew1) | exact HB.out)) hb); clear HO_3; clear HO_5; clear HO_7; clear HB; have HO_3 := n0_; have HO_5 := n1_; have HO_7 := n2_; have HB := n3_; clear n0_ n1_ n2_ n3_; (try clear hb); (try clear hb2); (try clear hk); (try clear hi)) | (go_at_call 33; (with_reducible refine (impl_MelodyMove.calls kj5 _ _ t460 7 t477 t478 _ ?side1 ?side2 ?side3 A25.out).mono ?_); (case side1 => repeat (first | exact (Kd.R_reads' HO_3.out).2.2 | (with_reducible refine Kd.C_alloc ?_ _) | (with_reducible refine Kd.C_drewN ?_ _) | (with_reducible refine Kd.C_drew ?_))); (case side2 => exact (Kd.R_reads' HO_3.out).2.1); (case side3 => exact GOk.sub (GOk.below HG.out (by repeat (first | (with_reducible first | exact HB.out | apply below_alloc | apply pw_below_drewN | apply below_drew1) | exact HB.out))) (by decide)); rintro e w30 ⟨v479, rfl, ho0, hb⟩; have n0_ := Aside0.mk (Kd.R_elder' (by (with_reducible repeat (first | apply Kd.R_alloc | apply Kd.R_drewN | apply Kd.R_drew)); exact HO_3.out) (Kd.R_base ho0) hb); have n1_ := Aside0.mk (Kd.R_elder' (by (with_reducible repeat (first | apply Kd.R_alloc | apply Kd.R_drewN | apply Kd.R_drew)); exact HO_5.out) (Kd.R_base ho0) hb); have n2_ := Aside0.mk (Kd.R_elder' (by (with_reducible repeat (first | apply Kd.R_alloc | apply Kd.R_drewN | apply Kd.R_drew)); exact HO_7.out) (Kd.R_base ho0) hb); have n3_ := Aside0.mk (Kd.R_lower (Kd.R_new' (Kd.R_new' (Kd.R_new' ho0 (Kd.R_lt (by (with_reducible repeat (first | apply Kd.R_alloc | apply Kd.R_drewN | apply Kd.R_drew)); exact HO_3.out))) (Kd.R_lt (by (with_reducible repeat (first | apply Kd.R_alloc | apply Kd.R_drewN | apply Kd.R_drew)); exact HO_5.out))) (Kd.R_lt (by (with_reducible repeat (first | apply Kd.R_alloc | apply Kd.R_drewN | apply Kd.R_drew)); exact HO_7.out))) (below_size (by repeat (first | (with_reducible first | exact HB.out | apply below_alloc | apply pw_below_drewN | apply below_drew1) | exact HB.out)))); have n4_ := Aside0.mk (below_step (by repeat (first | (with_reducible first | exact HB.out | apply below_alloc | apply pw_below_drewN | apply below_drew1) | exact HB.out)) hb); clear HO_3; clear HO_5; clear HO_7; clear HB; have HO_3 := n0_; have HO_5 := n1_; have HO_7 := n2_; have HO480 := n3_; have HB := n4_; clear n0_ n1_ n2_ n3_ n4_; (try clear hb); (try clear hb2); (try clear hk); (try clear hi); (try clear ho0)))
   repeat (go_quiet (first | (go_at_call 36; (with_reducible refine (impl_MelodyRange.calls kj5 _ _ t460 t474 t475 true _ ?side1 ?side2 A23.out).mono ?_); (case side1 => repeat (first | exact (Kd.R_reads' HO_3.out).2.2 | (with_reducible refine Kd.C_alloc ?_ _) | (with_reducible refine Kd.C_drewN ?_ _) | (with_reducible refine Kd.C_drew ?_))); (case side2 => exact (Kd.R_reads' HO_3.out).2.1); rintro e w29 ⟨rfl, hb⟩; have n0_ := Aside0.mk (Kd.R_below (by (with_reducible repeat (first | apply Kd.R_alloc | apply Kd.R_drewN | apply Kd.R_drew)); exact HO_3.out) hb); have n1_ := Aside0.mk (Kd.R_below (by (with_reducible repeat (first | apply Kd.R_alloc | apply Kd.R_drewN | apply Kd.R_drew)); exact HO_5.out) hb); have n2_ := Aside0.mk (Kd.R_below (by (with_reducible repeat (first | apply Kd.R_alloc | apply Kd.R_drewN | apply Kd.R_drew)); exact HO_7.out) hb); have n3_ := Aside0.mk (below_step (by repeat (first | (with_reducible first | exact HB.out | apply below_alloc | apply pw_below_drewN | apply below_drew1) | exact HB.out)) hb); clear HO_3; clear HO_5; clear HO_7; clear HB; have HO_3 := n0_; have HO_5 := n1_; have HO_7 := n2_; have HB := n3_; clear n0_ n1_ n2_ n3_; (try clear hb); (try clear hb2); (try clear hk); (try clear hi)) | (go_at_call 33; (with_reducible refine (impl_MelodyMove.calls kj5 _ _ t460 7 t477 t478 _ ?side1 ?side2 ?side3 A25.out).mono ?_); (case side1 => repeat (first | exact (Kd.R_reads' HO_3.out).2.2 | (with_reducible refine Kd.C_alloc ?_ _) | (with_reducible refine Kd.C_drewN ?_ _) | (with_reducible refine Kd.C_drew ?_))); (case side2 => exact (Kd.R_reads' HO_3.out).2.1); (case side3 => exact GOk.sub (GOk.below HG.out (by repeat (first | (with_reducible first | exact HB.out | apply below_alloc | apply pw_below_drewN | apply below_drew1) | exact HB.out))) (by decide)); rintro e w30 ⟨v479, rfl, ho0, hb⟩; have n0_ := Aside0.mk (Kd.R_elder' (by (with_reducible repeat (first | apply Kd.R_alloc | apply Kd.R_drewN | apply Kd.R_drew)); exact HO_3.out) (Kd.R_base ho0) hb); have n1_ := Aside0.mk (Kd.R_elder' (by (with_reducible repeat (first | apply Kd.R_alloc | apply Kd.R_drewN | apply Kd.R_drew)); exact HO_5.out) (Kd.R_base ho0) hb); have n2_ := Aside0.mk (Kd.R_elder' (by (with_reducible repeat (first | apply Kd.R_alloc | apply Kd.R_drewN | apply Kd.R_drew)); exact HO_7.out) (Kd.R_base ho0) hb); have n3_ := Aside0.mk (Kd.R_lower (Kd.R_new' (Kd.R_new' (Kd.R_new' ho0 (Kd.R_lt (by (with_reducible repeat (first | apply Kd.R_alloc | apply Kd.R_drewN | apply Kd.R_drew)); exact HO_3.out))) (Kd.R_lt (by (with_reducible repeat (first | apply Kd.R_alloc | apply Kd.R_drewN | apply Kd.R_drew)); exact HO_5.out))) (Kd.R_lt (by (with_reducible repeat (first | apply Kd.R_alloc | apply Kd.R_drewN | apply Kd.R_drew)); exact HO_7.out))) (below_size (by repeat (first | (with_reducible first | exact HB.out | apply below_alloc | apply pw_below_drewN | apply below_drew1) | exact HB.out)))); have n4_ := Aside0.mk (below_step (by repeat (first | (with_reducible first | exact HB.out | apply below_alloc | apply pw_below_drewN | apply below_drew1) | exact HB.out)) hb); clear HO_3; clear HO_5; clear HO_7; clear HB; have HO_3 := n0_; have HO_5 := n1_; have HO_7 := n2_; have HO480 := n3_; have HB := n4_; clear n0_ n1_ n2_ n3_ n4_; (try clear hb); (try clear hb2); (try clear hk); (try clear hi); (try clear ho0))); try go_wp2_with (first | (go_at_call 36; (with_reducible refine (impl_MelodyRange.calls kj5 _ _ t460 t474 t475 true _ ?side1 ?side2 A23.out).mono ?_); (case side1 => repeat (first | exact (Kd.R_reads' HO_3.out).2.2 | (with_reducible refine Kd.C_alloc ?_ _) | (with_reducible refine Kd.C_drewN ?_ _) | (with_reducible refine Kd.C_drew ?_))); (case side2 => exact (Kd.R_reads' HO_3.out).2.1); rintro e w29 ⟨rfl, hb⟩; have n0_ := Aside0.mk (Kd.R_below (by (with_reducible repeat (first | apply Kd.R_alloc | apply Kd.R_drewN | apply Kd.R_drew)); exact HO_3.out) hb); have n1_ := Aside0.mk (Kd.R_below (by (with_reducible repeat (first | apply Kd.R_alloc | apply Kd.R_drewN | apply Kd.R_drew)); exact HO_5.out) hb); have n2_ := Aside0.mk (Kd.R_below (by (with_reducible repeat (first | apply Kd.R_alloc | apply Kd.R_drewN | apply Kd.R_drew)); exact HO_7.out) hb); have n3_ := Aside0.mk (below_step (by repeat (first | (with_reducible first | exact HB.out | apply below_alloc | apply pw_below_drewN | apply below_drew1) | exact HB.out)) hb); clear HO_3; clear HO_5; clear HO_7; clear HB; have HO_3 := n0_; have HO_5 := n1_; have HO_7 := n2_; have HB := n3_; clear n0_ n1_ n2_ n3_; (try clear hb); (try clear hb2); (try clear hk); (try clear hi)) | (go_at_call 33; (with_reducible refine (impl_MelodyMove.calls kj5 _ _ t460 7 t477 t478 _ ?side1 ?side2 ?side3 A25.out).mono ?_); (case side1 => repeat (first | exact (Kd.R_reads' HO_3.out).2.2 | (with_reducible refine Kd.C_alloc ?_ _) | (with_reducible refine Kd.C_drewN ?_ _) | (with_reducible refine Kd.C_drew ?_))); (case side2 => exact (Kd.R_reads' HO_3.out).2.1); (case side3 => exact GOk.sub (GOk.below HG.out (by repeat (first | (with_reducible first | exact HB.out | apply below_alloc | apply pw_below_drewN | apply below_drew1) | exact HB.out))) (by decide)); rintro e w30 ⟨v479, rfl, ho0, hb⟩; have n0_ := Aside0.mk (Kd.R_elder' (by (with_reducible repeat (first | apply Kd.R_alloc | apply Kd.R_drewN | apply Kd.R_drew)); exact HO_3.out) (Kd.R_base ho0) hb); have n1_ := Aside0.mk (Kd.R_elder' (by (with_reducible repeat (first | apply Kd.R_alloc | apply Kd.R_drewN | apply Kd.R_drew)); exact HO_5.out) (Kd.R_base ho0) hb); have n2_ := Aside0.mk (Kd.R_elder' (by (with_reducible repeat (first | apply Kd.R_alloc | apply Kd.R_drewN | apply Kd.R_drew)); exact HO_7.out) (Kd.R_base ho0) hb); have n3_ := Aside0.mk (Kd.R_lower (Kd.R_new' (Kd.R_new' (Kd.R_new' ho0 (Kd.R_lt (by (with_reducible repeat (first | apply Kd.R_alloc | apply Kd.R_drewN | apply Kd.R_drew)); exact HO_3.out))) (Kd.R_lt (by (with_reducible repeat (first | apply Kd.R_alloc | apply Kd.R_drewN | apply Kd.R_drew)); exact HO_5.out))) (Kd.R_lt (by (with_reducible repeat (first | apply Kd.R_alloc | apply Kd.R_drewN | apply Kd.R_drew)); exact HO_7.out))) (below_size (by repeat (first | (with_reducible first | exact HB.out | apply below_alloc | apply pw_below_drewN | apply below_drew1) | exact HB.out)))); have n4_ := Aside0.mk (below_step (by repeat (first | (with_reducible first | exact HB.out | apply below_alloc | apply pw_below_drewN | apply below_drew1) | exact HB.out)) hb); clear HO_3; clear HO_5; clear HO_7; clear HB; have HO_3 := n0_; have HO_5 := n1_; have HO_7 := n2_; have HO480 := n3_; have HB := n4_; clear n0_ n1_ n2_ n3_ n4_; (try clear hb); (try clear hb2); (try clear hk); (try clear hi); (try clear ho0))))
   go_loopg [14, 15] kj5 (fun kq v14 v15 w' => ∃ (x14_2 : Bool) (x15_2 : Int), v14 = .bool x14_2 ∧ v15 = .int .i64 x15_2 ∧ Aside0 (laws_FnMelodyMoveOctave.l0 kq t460 t477 t478 x14_2 x15_2 = some r) ∧ Aside0 (kq ≤ kj5) ∧ Aside0 (Kd.R k25 25 w' w.heap.size (fun k_ => some k_ ≠ (v479 : Value).ownBlock) (.slice Ao8 t460.length co8) t460) ∧ Aside0 (Kd.R k25 25 w' w.heap.size (fun k_ => some k_ ≠ ((.slice Ao8 t460.length co8) : Value).ownBlock) v479 t477) ∧ Aside0 (Below w.heap.size w w'))
   case atStart => exact ⟨(false), (0), (by first | rfl | (simp; done) | (simp [*]; done)), (by first | rfl | (simp; done) | (simp [*]; done)), H', ⟨Nat.le_refl _⟩, ⟨by (with_reducible repeat (first | apply Kd.R_alloc | apply Kd.R_drewN | apply Kd.R_drew)); exact Kd.R_mono HO_3.out (fun _ hk => hk.2)⟩, ⟨by (with_reducible repeat (first | apply Kd.R_alloc | apply Kd.R_drewN | apply Kd.R_drew)); exact Kd.R_mono HO480.out (fun _ hk => hk.1.1.2)⟩, ⟨by repeat (first | (with_reducible first | exact HB.out | apply below_alloc | apply pw_below_drewN | apply below_drew1) | exact HB.out)⟩⟩
   case round =>
    clear H'
    try clear c1
    try clear c2
    try clear c2b0
    try clear c2b1
    try clear p2
    try clear p6
    try clear c10
    try clear c11
    try clear c11b0
    try clear c11b1
    try clear c11b2
    try clear c13
    try clear c18
    try clear c19
    try clear c19b0
    try clear c19b1
    try clear c19b2
    try clear c24
    try clear c26
    try clear c26b0
    try clear p2
    obtain ⟨x14_2, x15_2, rfl, rfl, HA, HK2, HO_3, HO_12, HB⟩ := hrel
    cases gk with
    | zero => exact absurd HA.out (by simp [laws_FnMelodyMoveOctave.l0])
    | succ k2 =>
     have H := HA.out
     clear HA
     simp only [laws_FnMelodyMoveOctave.l0] at H
     by_cases c31 : x15_2 < (t460.length : Int)
     ·rw [if_pos c31] at H
      have c31b0 : decide (x15_2 < (t460.length : Int)) = true := decide_eq_true c31
      clear c31
      by_cases c32 : x14_2 = true
      ·subst c32
       have H1 : (laws_FnMelodyMoveOctave.l0 k2 t460 t477 t478 true (wrap64 (x15_2 + 1))) = some r := by rw [if_pos rfl] at H; exact H
       clear H
       have H := H1
       clear H1
       have H' := Aside0.mk H
       clear H
       go_wp2
       repeat (go_quiet (fail); try go_wp2)
       go_roundg k2
       case measure => have := HJ5.out; have := HK2.out; omega
       case rel => exact ⟨(true), (wrap64 (x15_2 + 1)), (by first | rfl | (simp; done) | (simp [*]; done)), (by first | rfl | (simp; done) | (simp [*]; done)), H', ⟨by have := HJ5.out; have := HK2.out; omega⟩, ⟨by (with_reducible repeat (first | apply Kd.R_alloc | apply Kd.R_drewN | apply Kd.R_drew)); exact HO_3.out⟩, ⟨by (with_reducible repeat (first | apply Kd.R_alloc | apply Kd.R_drewN | apply Kd.R_drew)); exact HO_12.out⟩, ⟨by repeat (first | (with_reducible first | exact HB.out | apply below_alloc | apply pw_below_drewN | apply below_drew1) | exact HB.out)⟩⟩
      replace c32 := Bool.eq_false_iff.mpr c32
      subst c32
      have H1 : (if 0 ≤ x15_2 then ((impl_ToneLetter.f ((rd_T25 t460 x15_2).f0) ((rd_T25 t460 x15_2).f1)).bind fun t482 => (laws_FnMelodyMoveOctave.l0 k2 t460 t477 t478 (t482.toList != ([66] : List UInt8)) (wrap64 (x15_2 + 1)))) else (none)) = some r := by rw [if_neg (show ¬ (false = true) by decide)] at H; exact H
      clear H
      have H := H1
      clear H1
      by_cases c33 : 0 ≤ x15_2
      rotate_left
      ·rw [if_neg c33] at H
       exact absurd H (by simp)
      rw [if_pos c33] at H
      have c33b0 : decide (0 ≤ x15_2) = true := decide_eq_true c33
      clear c33
      replace H := Option.bind_eq_some_iff.mp H
      obtain ⟨t482, A340, H⟩ := H
      replace H : (laws_FnMelodyMoveOctave.l0 k2 t460 t477 t478 (t482.toList != ([66] : List UInt8)) (wrap64 (x15_2 + 1))) = some r := H
      have A34 := Aside0.mk A340
      clear A340
      have H' := Aside0.mk H
      clear H
      have p481 : 0 ≤ (x15_2 : Int) := of_decide_eq_true (by first | (with_reducible assumption) | assumption)
      have q481 : x15_2 < (t460.length : Int) := of_decide_eq_true (by first | (with_reducible assumption) | assumption)
      obtain ⟨ad481, e481, hx481_0, hx481_1⟩ := at_T25 (Kd.R_reads' HO_3.out).2.2 x15_2 p481 q481
      cases e481
      replace p481 := eq_true p481
      replace q481 := eq_true q481
      go_wp2_with (first | (go_at_call 13; (with_reducible refine (impl_ToneLetter.calls ((rd_T25 t460 x15_2).f0) ((rd_T25 t460 x15_2).f1) t482 _ ?side1 A34.out).mono ?_); (case side1 => exact GOk.sub (GOk.below HG.out (by repeat (first | (with_reducible first | exact HB.out | apply below_alloc | apply pw_below_drewN | apply below_drew1) | exact HB.out))) (by decide)); rintro e w35 ⟨rfl, hb⟩; have n0_ := Aside0.mk (Kd.R_below (by (with_reducible repeat (first | apply Kd.R_alloc | apply Kd.R_drewN | apply Kd.R_drew)); exact HO_3.out) hb); have n1_ := Aside0.mk (Kd.R_below (by (with_reducible repeat (first | apply Kd.R_alloc | apply Kd.R_drewN | apply Kd.R_drew)); exact HO_12.out) hb); have n2_ := Aside0.mk (below_step (by repeat (first | (with_reducible first | exact HB.out | apply below_alloc | apply pw_below_drewN | apply below_drew1) | exact HB.out)) hb); clear HO_3; clear HO_12; clear HB; have HO_3 := n0_; have HO_12 := n1_; have HB := n2_; clear n0_ n1_ n2_; (try clear hb); (try clear hb2); (try clear hk); (try clear hi)))
      repeat (go_quiet (first | (go_at_call 13; (with_reducible refine (impl_ToneLetter.calls ((rd_T25 t460 x15_2).f0) ((rd_T25 t460 x15_2).f1) t482 _ ?side1 A34.out).mono ?_); (case side1 => exact GOk.sub (GOk.below HG.out (by repeat (first | (with_reducible first | exact HB.out | apply below_alloc | apply pw_below_drewN | apply below_drew1) | exact HB.out))) (by decide)); rintro e w35 ⟨rfl, hb⟩; have n0_ := Aside0.mk (Kd.R_below (by (with_reducible repeat (first | apply Kd.R_alloc | apply Kd.R_drewN | apply Kd.R_drew)); exact HO_3.out) hb); have n1_ := Aside0.mk (Kd.R_below (by (with_reducible repeat (first | apply Kd.R_alloc | apply Kd.R_drewN | apply Kd.R_drew)); exact HO_12.out) hb); have n2_ := Aside0.mk (below_step (by repeat (first | (with_reducible first | exact HB.out | apply below_alloc | apply pw_below_drewN | apply below_drew1) | exact HB.out)) hb); clear HO_3; clear HO_12; clear HB; have HO_3 := n0_; have HO_12 := n1_; have HB := n2_; clear n0_ n1_ n2_; (try clear hb); (try clear hb2); (try clear hk); (try clear hi))); try go_wp2_with (first | (go_at_call 13; (with_reducible refine (impl_ToneLetter.calls ((rd_T25 t460 x15_2).f0) ((rd_T25 t460 x15_2).f1) t482 _ ?side1 A34.out).mono ?_); (case side1 => exact GOk.sub (GOk.below HG.out (by repeat (first | (with_reducible first | exact HB.out | apply below_alloc | apply pw_below_drewN | apply below_drew1) | exact HB.out))) (by decide)); rintro e w35 ⟨rfl, hb⟩; have n0_ := Aside0.mk (Kd.R_below (by (with_reducible repeat (first | apply Kd.R_alloc | apply Kd.R_drewN | apply Kd.R_drew)); exact HO_3.out) hb); have n1_ := Aside0.mk (Kd.R_below (by (with_reducible repeat (first | apply Kd.R_alloc | apply Kd.R_drewN | apply Kd.R_drew)); exact HO_12.out) hb); have n2_ := Aside0.mk (below_step (by repeat (first | (with_reducible first | exact HB.out | apply below_alloc | apply pw_below_drewN | apply below_drew1) | exact HB.out)) hb); clear HO_3; clear HO_12; clear HB; have HO_3 := n0_; have HO_12 := n1_; have HB := n2_; clear n0_ n1_ n2_; (try clear hb); (try clear hb2); (try clear hk); (try clear hi))))
      go_roundg k2
      case measure => have := HJ5.out; have := HK2.out; omega
      case rel => exact ⟨((t482.toList != ([66] : List UInt8))), (wrap64 (x15_2 + 1)), (by first | rfl | (simp; done) | (simp [*]; done)), (by first | rfl | (simp; done) | (simp [*]; done)), H', ⟨by have := HJ5.out; have := HK2.out; omega⟩, ⟨by (with_reducible repeat (first | apply Kd.R_alloc | apply Kd.R_drewN | apply Kd.R_drew)); exact HO_3.out⟩, ⟨by (with_reducible repeat (first | apply Kd.R_alloc | apply Kd.R_drewN | apply Kd.R_drew)); exact HO_12.out⟩, ⟨by repeat (first | (with_reducible first | exact HB.out | apply below_alloc | apply pw_below_drewN | apply below_drew1) | exact HB.out)⟩⟩
     rw [if_neg c31] at H
     have c31b0 : decide (x15_2 < (t460.length : Int)) = false := decide_eq_false c31
     clear c31
     have H' := Aside0.mk H
     clear H
     go_wp2
     repeat (go_quiet (fail); try go_wp2)
     go_loopg [16] k2 (fun kq v16 w' => ∃ (x16_3 : Int), v16 = .int .i64 x16_3 ∧ Aside0 (laws_FnMelodyMoveOctave.l1 kq t460 t477 t478 x14_2 x16_3 = some r) ∧ Aside0 (kq ≤ k2) ∧ Aside0 (Kd.R k25 25 w' w.heap.size (fun k_ => some k_ ≠ (v479 : Value).ownBlock) (.slice Ao8 t460.length co8) t460) ∧ Aside0 (Kd.R k25 25 w' w.heap.size (fun k_ => some k_ ≠ ((.slice Ao8 t460.length co8) : Value).ownBlock) v479 t477) ∧ Aside0 (Below w.heap.size w w'))
     case atStart => exact ⟨(0), (by first | rfl | (simp; done) | (simp [*]; done)), H', ⟨Nat.le_refl _⟩, ⟨by (with_reducible repeat (first | apply Kd.R_alloc | apply Kd.R_drewN | apply Kd.R_drew)); exact HO_3.out⟩, ⟨by (with_reducible repeat (first | apply Kd.R_alloc | apply Kd.R_drewN | apply Kd.R_drew)); exact HO_12.out⟩, ⟨by repeat (first | (with_reducible first | exact HB.out | apply below_alloc | apply pw_below_drewN | apply below_drew1) | exact HB.out)⟩⟩
     case round =>
      clear H'
      try clear c1
      try clear c2
      try clear c2b0
      try clear c2b1
      try clear p2
      try clear c3
      try clear p4
      try clear q4
      try clear hx4
      try clear p6
      try clear c10
      try clear c11
      try clear c11b0
      try clear c11b1
      try clear c11b2
      try clear c13
      try clear c18
      try clear c19
      try clear c19b0
      try clear c19b1
      try clear c19b2
      try clear c24
      try clear c26
      try clear c26b0
      try clear c31
      try clear c31b0
      try clear c32
      try clear c33
      try clear c33b0
      try clear hx481_0
      try clear hx481_1
      try clear p2
      try clear p481
      try clear p6
      try clear q481
      obtain ⟨x16_3, rfl, HA, HK3, HO_3, HO_12, HB⟩ := hrel
      cases gk with
      | zero => exact absurd HA.out (by simp [laws_FnMelodyMoveOctave.l1])
      | succ k3 =>
       have H := HA.out
       clear HA
       simp only [laws_FnMelodyMoveOctave.l1] at H
       have HC36 := Aside0.mk H
       clear H
       go_upto_region 20 with (fail)
       repeat (go_quiet (fail); go_upto_region 20 with (fail))
       go_cut [105] (fun v105 wc => ∃ (kq : Nat) (x105_35 : Bool), v105 = .bool x105_35 ∧ Aside0 (laws_FnMelodyMoveOctave.j3 kq t460 t477 t478 x14_2 x16_3 x105_35 = some r) ∧ Aside0 (kq ≤ k3) ∧ Aside0 (Kd.R k25 25 wc w.heap.size (fun k_ => some k_ ≠ (v479 : Value).ownBlock) (.slice Ao8 t460.length co8) t460) ∧ Aside0 (Kd.R k25 25 wc w.heap.size (fun k_ => some k_ ≠ ((.slice Ao8 t460.length co8) : Value).ownBlock) v479 t477) ∧ Aside0 (Below w.heap.size w wc))
       case first =>
        have H := HC36.out
        clear HC36
        by_cases c37 : x16_3 < (t460.length : Int)
        rotate_left
        ·rw [if_neg c37] at H
         have c37b0 : decide (x16_3 < (t460.length : Int)) = false := decide_eq_false c37
         clear c37
         (first | rw [c37b0] | (simp only [i64_w, i32_w]; rw [c37b0]) | skip)
         have H' := Aside0.mk H
         clear H
         go_wp2
         repeat (go_quiet (fail); try go_wp2)
         go_meet
         case rel => exact ⟨_, (false), (by first | rfl | (simp; done) | (simp [*]; done)), H', ⟨by have := HJ5.out; have := HK2.out; have := HK3.out; first | omega | exact Nat.le_refl _⟩, ⟨by (with_reducible repeat (first | apply Kd.R_alloc | apply Kd.R_drewN | apply Kd.R_drew)); exact HO_3.out⟩, ⟨by (with_reducible repeat (first | apply Kd.R_alloc | apply Kd.R_drewN | apply Kd.R_drew)); exact HO_12.out⟩, ⟨by repeat (first | (with_reducible first | exact HB.out | apply below_alloc | apply pw_below_drewN | apply below_drew1) | exact HB.out)⟩⟩
        rw [if_pos c37] at H
        have c37b0 : decide (x16_3 < (t460.length : Int)) = true := decide_eq_true c37
        clear c37
        (first | rw [c37b0] | (simp only [i64_w, i32_w]; rw [c37b0]) | skip)
        have H' := Aside0.mk H
        clear H
        go_wp2
        repeat (go_quiet (fail); try go_wp2)
        go_meet
        case rel => exact ⟨_, (x14_2), (by first | rfl | (simp; done) | (simp [*]; done)), H', ⟨by have := HJ5.out; have := HK2.out; have := HK3.out; first | omega | exact Nat.le_refl _⟩, ⟨by (with_reducible repeat (first | apply Kd.R_alloc | apply Kd.R_drewN | apply Kd.R_drew)); exact HO_3.out⟩, ⟨by (with_reducible repeat (first | apply Kd.R_alloc | apply Kd.R_drewN | apply Kd.R_drew)); exact HO_12.out⟩, ⟨by repeat (first | (with_reducible first | exact HB.out | apply below_alloc | apply pw_below_drewN | apply below_drew1) | exact HB.out)⟩⟩
       case rest =>
        clear HC36
        try clear c1
        try clear c2
        try clear c2b0
        try clear c2b1
        try clear p2
        try clear c3
        try clear p4
        try clear q4
        try clear hx4
        try clear p6
        try clear c10
        try clear c11
        try clear c11b0
        try clear c11b1
        try clear c11b2
        try clear c13
        try clear c18
        try clear c19
        try clear c19b0
        try clear c19b1
        try clear c19b2
        try clear c24
        try clear c26
        try clear c26b0
        try clear c31
        try clear c31b0
        try clear c32
        try clear c33
        try clear c33b0
        try clear c37
        try clear c37b0
        try clear hx481_0
        try clear hx481_1
        try clear p2
        try clear p4
        try clear p481
        try clear p6
        try clear q4
        try clear q481
        obtain ⟨kq, x105_35, rfl, HA, HJ35, HO_3, HO_12, HB⟩ := hcut
        cases kq with
        | zero => exact absurd HA.out (by simp [laws_FnMelodyMoveOctave.j3])
        | succ kj35 =>
         have H := HA.out
         clear HA
         simp only [laws_FnMelodyMoveOctave.j3] at H
         by_cases c38 : x105_35 = true
         rotate_left
         ·replace c38 := Bool.eq_false_iff.mpr c38
          subst c38
          have H1 : (some t478) = some r := by rw [if_neg (show ¬ (false = true) by decide)] at H; exact H
          clear H
          have H := H1
          clear H1
          obtain rfl := Option.some.inj H
          go_wp2
          repeat (go_quiet (fail); try go_wp2)
          go_ret
          exact ⟨by first | rfl | (simp [errW_none, errW_some] <;> rfl) | (simp [*, errW_none, errW_some] <;> rfl), by repeat (first | (with_reducible first | exact HB.out | apply below_alloc | apply pw_below_drewN | apply below_drew1) | exact HB.out)⟩
         subst c38
         have H1 : (if (t477.length : Int) = (t460.length : Int) then (if 0 ≤ x16_3 then (if x16_3 < (t477.length : Int) then (if x16_3 < (t460.length : Int) then (if (((rd_T25 t477 x16_3).f1) != ((rd_T25 t460 x16_3).f1)) = true then (none) else (laws_FnMelodyMoveOctave.l1 kj35 t460 t477 t478 x14_2 (wrap64 (x16_3 + 1)))) else (none)) else (none)) else (none)) else (none)) = some r := by rw [if_pos rfl] at H; exact H
         clear H
         have H := H1
         clear H1
         by_cases c39 : (t477.length : Int) = (t460.length : Int)
         rotate_left
         ·rw [if_neg c39] at H
          exact absurd H (by simp)
         rw [if_pos c39] at H
         have c39b0 : ((t477.length : Int) == (t460.length : Int)) = true := beq_iff_eq.mpr c39
         have c39b1 : ((t477.length : Int) != (t460.length : Int)) = false := bne_eq_false_iff_eq.mpr c39
         have c39b2 : (t477.length == t460.length) = true := by first | simpa using c39 | (simp at c39 ⊢; omega)
         clear c39
         by_cases c40 : 0 ≤ x16_3
         rotate_left
         ·rw [if_neg c40] at H
          exact absurd H (by simp)
         rw [if_pos c40] at H
         have c40b0 : decide (0 ≤ x16_3) = true := decide_eq_true c40
         clear c40
         by_cases c41 : x16_3 < (t477.length : Int)
         rotate_left
         ·rw [if_neg c41] at H
          exact absurd H (by simp)
         rw [if_pos c41] at H
         have c41b0 : decide (x16_3 < (t477.length : Int)) = true := decide_eq_true c41
         clear c41
         by_cases c42 : x16_3 < (t460.length : Int)
         rotate_left
         ·rw [if_neg c42] at H
          exact absurd H (by simp)
         rw [if_pos c42] at H
         have c42b0 : decide (x16_3 < (t460.length : Int)) = true := decide_eq_true c42
         clear c42
         by_cases c43 : (((rd_T25 t477 x16_3).f1) != ((rd_T25 t460 x16_3).f1)) = true
         ·rw [if_pos c43] at H
          exact absurd H (by simp)
         rw [if_neg c43] at H
         have c43b0 : (((rd_T25 t477 x16_3).f1) != ((rd_T25 t460 x16_3).f1)) = false := by simpa using c43
         (try (have c43b1 : decide (((rd_T25 t477 x16_3).f1) = ((rd_T25 t460 x16_3).f1)) = true := by simpa using c43))
         (try (have c43b2 : (((rd_T25 t477 x16_3).f1) == ((rd_T25 t460 x16_3).f1)) = true := by simpa using c43))
         clear c43
         have H' := Aside0.mk H
         clear H
         obtain ⟨Ao44, co44, eo44⟩ := Kd.R_slice HO_12.out
         subst eo44
         have p483 : 0 ≤ (x16_3 : Int) := of_decide_eq_true (by first | (with_reducible assumption) | assumption)
         have q483 : x16_3 < (t477.length : Int) := of_decide_eq_true (by first | (with_reducible assumption) | assumption)
         obtain ⟨ad483, e483, hx483_0, hx483_1⟩ := at_T25 (Kd.R_reads' HO_12.out).2.2 x16_3 p483 q483
         cases e483
         replace p483 := eq_true p483
         replace q483 := eq_true q483
         have p484 : 0 ≤ (x16_3 : Int) := of_decide_eq_true (by first | (with_reducible assumption) | assumption)
         have q484 : x16_3 < (t460.length : Int) := of_decide_eq_true (by first | (with_reducible assumption) | assumption)
         obtain ⟨ad484, e484, hx484_0, hx484_1⟩ := at_T25 (Kd.R_reads' HO_3.out).2.2 x16_3 p484 q484
         cases e484
         replace p484 := eq_true p484
         replace q484 := eq_true q484
         go_wp2
         repeat (go_quiet (fail); try go_wp2)
         go_roundg kj35
         case measure => have := HJ5.out; have := HK2.out; have := HK3.out; have := HJ35.out; omega
         case rel => exact ⟨(wrap64 (x16_3 + 1)), (by first | rfl | (simp; done) | (simp [*]; done)), H', ⟨by have := HJ5.out; have := HK2.out; have := HK3.out; have := HJ35.out; omega⟩, ⟨by (with_reducible repeat (first | apply Kd.R_alloc | apply Kd.R_drewN | apply Kd.R_drew)); exact HO_3.out⟩, ⟨by (with_reducible repeat (first | apply Kd.R_alloc | apply Kd.R_drewN | apply Kd.R_drew)); exact HO_12.out⟩, ⟨by repeat (first | (with_reducible first | exact HB.out | apply below_alloc | apply pw_below_drewN | apply below_drew1) | exact HB.out)⟩⟩
def laws_FnMelodyMoveOctave.Pure : Prop := ∀ (l0 : List Int), l0.length ≤ maxLen → l0.length * 1 ≤ 140737488351232 → (∀ x ∈ l0, (Lit.int .u8 x).wf = true) → ∃ k, laws_FnMelodyMoveOctave.f k l0 = some true
end Go.Proofs.YtlinjleahnccgaaDoor.E
end
section
namespace Go.Proofs.YtlinjleahnccgaaDoor.Pur
open Go.RowKit Go.Proofs.YtlinjleahnccgaaDoorW.PrintWords
def EvP {α : Type} (g : Nat → Option α) (P : α → Prop) : Prop := ∃ r, Ev g r ∧ P r
section
variable {α β : Type}
theorem EvP.bind {g : Nat → Option α} {f : Nat → α → Option β} {P : α → Prop} {Q : β → Prop} (h : EvP g P) (k : ∀ a, P a → EvP (fun n => f n a) Q) : EvP (fun n => (g n).bind (f n)) Q := by
  obtain ⟨a, ha, hp⟩ := h
  obtain ⟨b, hb, hq⟩ := k a hp
  exact ⟨b, Ev.bind ha hb, hq⟩
theorem EvP.ret {P : α → Prop} {r : α} (h : P r) : EvP (fun _ => some r) P := ⟨r, Ev.now r, h⟩
theorem EvP.con {o : Option α} {P : α → Prop} {r : α} (h : o = some r) (hp : P r) : EvP (fun _ => o) P := by subst h; exact .ret hp
theorem EvP.ite {c : Prop} [Decidable c] {f g : Nat → Option α} {P : α → Prop} (h : c → EvP f P) (k : ¬ c → EvP g P) : EvP (fun n => if c then f n else g n) P := by
  by_cases hc : c
  · obtain ⟨r, hr, hp⟩ := h hc
    exact ⟨r, Ev.congr (fun n => if_pos hc) hr, hp⟩
  · obtain ⟨r, hr, hp⟩ := k hc
    exact ⟨r, Ev.congr (fun n => if_neg hc) hr, hp⟩
theorem EvP.yes {c : Prop} [Decidable c] {f g : Nat → Option α} {P : α → Prop} (hc : c) (h : EvP f P) : EvP (fun n => if c then f n else g n) P := .ite (fun _ => h) (fun k => absurd hc k)
theorem EvP.no {c : Prop} [Decidable c] {f g : Nat → Option α} {P : α → Prop} (hc : ¬ c) (h : EvP g P) : EvP (fun n => if c then f n else g n) P := .ite (fun k => absurd k hc) (fun _ => h)
theorem EvP.step {g f : Nat → Option α} {P : α → Prop} (h : ∀ k, g (k + 1) = f k) (k : EvP f P) : EvP g P := by
  obtain ⟨r, hr, hp⟩ := k
  exact ⟨r, Ev.step h hr, hp⟩
theorem EvP.succ {g : Nat → Option α} {P : α → Prop} (k : EvP (fun n => g (n + 1)) P) : EvP g P := EvP.step (fun _ => rfl) k
theorem EvP.mono {g : Nat → Option α} {P Q : α → Prop} (h : EvP g P) (k : ∀ r, P r → Q r) : EvP g Q := by
  obtain ⟨r, hr, hp⟩ := h
  exact ⟨r, hr, k r hp⟩
theorem EvP.rounds {g : Nat → Option α} {r : α} (h : EvP g (· = r)) : ∃ k, g k = some r := by
  obtain ⟨_, hr, rfl⟩ := h
  exact hr.rounds
end
structure Hd (p : Prop) : Prop where mk :: (out : p)
theorem w64 {i : Int} (h0 : -9223372036854775808 ≤ i) (h1 : i ≤ 9223372036854775807) : wrap64 i = i := by unfold wrap64; omega
theorem tmod_pos {a : Int} (b : Int) (h : 0 ≤ a) : Int.tmod a b = a % b := Int.tmod_eq_emod_of_nonneg h
theorem tdiv_pos {a : Int} (b : Int) (h : 0 ≤ a) : Int.tdiv a b = a / b := Int.tdiv_eq_ediv_of_nonneg h
theorem toNat_nat (n : Nat) : ((n : Int)).toNat = n := rfl
end Go.Proofs.YtlinjleahnccgaaDoor.Pur
end
section
namespace Go.Proofs.YtlinjleahnccgaaDoor.Pur
open Go.RowKit Go.Proofs.YtlinjleahnccgaaDoorW.PrintWords Go.Proofs.YtlinjleahnccgaaDoor.E
def okT (t : S25) : Bool := decide (0 ≤ t.f0) && decide (t.f0 ≤ 20) && (!t.f1 || decide (t.f0 % 7 = 2))
def okM (l : List S25) : Bool := l.all okT && decide (l.length ≤ 24)
theorem spec_valid (t : S25) : spec_ToneValid.f t.f0 t.f1 = some (okT t) := by
  obtain ⟨s, b⟩ := t
  unfold spec_ToneValid.f spec_l6In.f spec_l1Letter.f okT
  by_cases h0 : s ≥ 0
  · rw [if_pos h0]
    by_cases h1 : s ≤ 20
    · cases b <;> simp [h0, h1, tmod_pos, Bool.beq_eq_decide_eq]
    · simp [h0, h1]
  · simp [h0]
theorem impl_valid (t : S25) : impl_Tone_valid.f t.f0 t.f1 = some (okT t) := by
  obtain ⟨s, b⟩ := t
  unfold impl_Tone_valid.f okT
  by_cases h0 : s ≥ 0
  · rw [if_pos h0]
    by_cases h1 : s ≤ 20
    · cases b <;> simp [h0, h1, tmod_pos, Bool.beq_eq_decide_eq]
    · simp [h0, h1]
  · simp [h0]
theorem rdT_lt {l : List S25} {i : Nat} (h : i < l.length) : rd_T25 l (i : Int) = l[i] := by
  unfold rd_T25
  rw [toNat_nat, List.getD_eq_getElem?_getD, List.getElem?_eq_getElem h]
  rfl
theorem all_drop {l : List S25} {i : Nat} (h : i < l.length) : (l.drop i).all okT = (okT l[i] && (l.drop (i + 1)).all okT) := by
  rw [List.drop_eq_getElem_cons h, List.all_cons]
theorem spec_melody_loop (l : List S25) (hl : l.length < 9223372036854775807) : ∀ d i : Nat, i + d = l.length → EvP (fun k => spec_MelodyValid.l0 k l (i : Int)) (· = ((l.drop i).all okT && decide (l.length ≤ 24))) := by
  intro d
  induction d with
  | zero =>
    intro i hi
    refine EvP.succ ?_
    simp only [spec_MelodyValid.l0]
    refine (EvP.no (by omega) (EvP.ret ?_))
    rw [List.drop_of_length_le (by omega)]
    simp only [List.all_nil, Bool.true_and]
    by_cases h : l.length ≤ 24
    · have : (l.length : Int) ≤ 24 := by omega
      simp [h, this]
    · have : ¬ (l.length : Int) ≤ 24 := by omega
      simp [h, this]
  | succ d ih =>
    intro i hi
    have hlt : i < l.length := by omega
    refine EvP.step (fun k => rfl) (EvP.yes (by omega) (EvP.yes (by omega) ?_))
    rw [rdT_lt hlt, all_drop hlt]
    refine EvP.bind (P := (· = okT l[i])) (EvP.con (spec_valid _) rfl) (fun _ e => ?_)
    subst e
    refine EvP.ite (fun h => ?_) (fun h => EvP.ret ?_)
    · rw [w64 (by omega) (by omega), h, Bool.true_and]
      exact ih (i + 1) (by omega)
    · simp [h]
theorem spec_melody (l : List S25) (hl : l.length < 9223372036854775807) : EvP (fun k => spec_MelodyValid.f k l) (· = okM l) := spec_melody_loop l hl l.length 0 (by omega)
theorem impl_melody_loop (l : List S25) (hl : l.length ≤ 24) : ∀ d i : Nat, i + d = l.length → EvP (fun k => impl_MelodyValid.l0 k l (l.length : Int) (i : Int)) (· = (l.drop i).all okT) := by
  intro d
  induction d with
  | zero =>
    intro i hi
    refine EvP.step (fun k => rfl) (EvP.no (by omega) (EvP.ret ?_))
    rw [List.drop_of_length_le (by omega)]
    rfl
  | succ d ih =>
    intro i hi
    have hlt : i < l.length := by omega
    refine EvP.step (fun k => rfl) (EvP.yes (by omega) (EvP.yes (by omega) ?_))
    try refine EvP.yes (by omega) ?_
    rw [rdT_lt hlt, all_drop hlt]
    refine EvP.bind (P := (· = okT l[i])) (EvP.con (impl_valid _) rfl) (fun _ e => ?_)
    subst e
    refine EvP.ite (fun h => ?_) (fun h => EvP.ret ?_)
    · rw [w64 (by omega) (by omega), h, Bool.true_and]
      exact ih (i + 1) (by omega)
    · simp [h]
theorem impl_melody (l : List S25) : EvP (fun k => impl_MelodyValid.f k l) (· = okM l) := by
  unfold impl_MelodyValid.f
  refine EvP.ite (fun h => EvP.ret ?_) (fun h => ?_)
  · simp [okM]; intro; omega
  · have hl : l.length ≤ 24 := by omega
    refine (impl_melody_loop l hl l.length 0 (by omega)).mono (fun r e => ?_)
    rw [e]
    simp [okM, hl]
end Go.Proofs.YtlinjleahnccgaaDoor.Pur
end
section
namespace Go.Proofs.YtlinjleahnccgaaDoor.Pur
open Go.RowKit Go.Proofs.YtlinjleahnccgaaDoorW.PrintWords Go.Proofs.YtlinjleahnccgaaDoor.E
def above (s k : Int) (b : Bool) : Int × Bool × Bool := if -20 ≤ k ∧ k ≤ 20 ∧ okT ⟨s + k, b⟩ = true then (s + k, b, true) else (0, false, false)
theorem impl_above {s : Int} {c : Bool} (h : okT ⟨s, c⟩ = true) (k : Int) (b : Bool) : EvP (fun n => impl_ToneAbove.f n s c k b) (· = above s k b) := by
  simp only [impl_ToneAbove.f]
  refine EvP.bind (P := (· = true)) (EvP.con (impl_valid ⟨s, c⟩) h) (fun _ e => ?_)
  subst e
  have hs : 0 ≤ s ∧ s ≤ 20 := by
    unfold okT at h
    simp only [Bool.and_eq_true, decide_eq_true_eq] at h
    exact h.1
  refine EvP.yes rfl ?_
  refine EvP.ite (fun h1 => ?_) (fun h1 => ?_)
  · refine EvP.succ ?_
    simp only [impl_ToneAbove.j0]
    refine EvP.con (if_pos trivial) ?_
    unfold above
    rw [if_neg (by omega)]
  · refine EvP.succ ?_
    simp only [impl_ToneAbove.j0]
    refine EvP.ite (fun h2 => EvP.ret ?_) (fun h2 => ?_)
    · have h3 := of_decide_eq_true h2
      unfold above
      rw [if_neg (by omega)]
    · have h3 : ¬ k > 20 := fun e => h2 (decide_eq_true e)
      have e1 : Hd (wrap64 (s + k) = s + k) := ⟨w64 (by omega) (by omega)⟩
      rw [e1.out]
      refine EvP.bind (P := (· = okT ⟨s + k, b⟩)) (EvP.con (impl_valid ⟨s + k, b⟩) rfl) (fun _ e => ?_)
      subst e
      refine EvP.ite (fun h4 => EvP.ret ?_) (fun h4 => EvP.ret ?_)
      · unfold above
        rw [if_pos ⟨by omega, by omega, h4⟩]
      · unfold above
        rw [if_neg (fun e => h4 e.2.2)]
end Go.Proofs.YtlinjleahnccgaaDoor.Pur
end
section
namespace Go.Proofs.YtlinjleahnccgaaDoor.Pur
open Go.RowKit Go.Proofs.YtlinjleahnccgaaDoorW.PrintWords Go.Proofs.YtlinjleahnccgaaDoor.E
abbrev TnM := S25
def hgt (t : TnM) : Int := heights.getD (t.f0 % 7).toNat 0 + 12 * (t.f0 / 7) - (if t.f1 = true then 1 else 0)
theorem ok_range {t : TnM} (h : okT t = true) : 0 ≤ t.f0 ∧ t.f0 ≤ 20 := by
  unfold okT at h
  simp only [Bool.and_eq_true, decide_eq_true_eq] at h
  exact h.1
theorem hgt_range {t : TnM} (h : okT t = true) : -1 ≤ hgt t ∧ hgt t ≤ 100 := by
  obtain ⟨h0, h1⟩ := ok_range h
  have hh := heights_le (t.f0 % 7).toNat
  unfold hgt
  split <;> omega
theorem impl_h {t : TnM} (h : okT t = true) : impl_Tone_height.f t.f0 t.f1 = some (hgt t) := by
  obtain ⟨h0, h1⟩ := ok_range h
  unfold impl_Tone_height.f
  rw [if_pos h0, if_pos (by omega)]
  rfl
theorem spec_h {t : TnM} (h : okT t = true) : spec_l1Height.f t.f0 t.f1 = some (hgt t) := by
  obtain ⟨h0, h1⟩ := ok_range h
  have hh := heights_le (t.f0 % 7).toNat
  unfold spec_l1Height.f spec_l1Letter.f hgt
  simp only [Option.bind_some]
  rw [tmod_pos 7 h0, tdiv_pos 7 h0, w64 (i := t.f0 / 7) (by omega) (by omega), w64 (i := 12 * (t.f0 / 7)) (by omega) (by omega)]
  have e : rd ([0, 2, 4, 5, 7, 9, 10] : List Int) (t.f0 % 7) = heights.getD (t.f0 % 7).toNat 0 := rfl
  rw [e, if_pos (by omega), if_pos (by simp; omega), w64 (i := 12 * (t.f0 / 7) + _) (by omega) (by omega)]
  by_cases hb : t.f1 = true
  · rw [if_pos hb, if_pos hb, w64 (by omega) (by omega), Int.add_comm (12 * (t.f0 / 7))]
  · rw [if_neg hb, if_neg hb, Int.add_comm (12 * (t.f0 / 7)), Int.sub_zero]
def mv1 (k m : Int) (t : TnM) : Option TnM := if okT ⟨t.f0 + k, false⟩ = true ∧ hgt ⟨t.f0 + k, false⟩ - hgt t = m then some ⟨t.f0 + k, false⟩ else if okT ⟨t.f0 + k, true⟩ = true ∧ hgt ⟨t.f0 + k, true⟩ - hgt t = m then some ⟨t.f0 + k, true⟩ else none
def mvAll (k m : Int) : List TnM → Option (List TnM)
  | [] => some []
  | t :: ts => match mv1 k m t with
    | none => none
    | some x => (mvAll k m ts).map (x :: ·)
def resM (acc : List TnM) : Option (List TnM) → List TnM × Bool
  | some r => (acc ++ r, true)
  | none => ([], false)
theorem EvP.congr_ {α : Type} {f g : Nat → Option α} {P : α → Prop} (h : ∀ n, g n = f n) (k : EvP f P) : EvP g P := by
  obtain ⟨r, hr, hp⟩ := k
  exact ⟨r, Ev.congr h hr, hp⟩
theorem resM_cons (acc : List TnM) (k m : Int) (t : TnM) (ts : List TnM) : resM acc (mvAll k m (t :: ts)) = (match mv1 k m t with | none => ([], false) | some x => resM (acc ++ [x]) (mvAll k m ts)) := by
  simp only [mvAll]
  cases mv1 k m t with
  | none => rfl
  | some x =>
    cases mvAll k m ts with
    | none => rfl
    | some r => simp [resM]
theorem try_mv {t : TnM} (ht : okT t = true) {k : Int} (hk : -20 ≤ k ∧ k ≤ 20) (m : Int) (b : Bool) {good : Nat → TnM → Option (List TnM × Bool)} {bad : Nat → Option (List TnM × Bool)} {P : List TnM × Bool → Prop}
    (hg : (okT ⟨t.f0 + k, b⟩ = true ∧ hgt ⟨t.f0 + k, b⟩ - hgt t = m) → EvP (fun n => good n ⟨t.f0 + k, b⟩) P) (hb : ¬ (okT ⟨t.f0 + k, b⟩ = true ∧ hgt ⟨t.f0 + k, b⟩ - hgt t = m) → EvP bad P) :
    EvP (fun n => mmTry n k m t b (good n) (bad n)) P := by
  simp only [mmTry]
  refine EvP.bind (impl_above ht k b) (fun _ e => ?_)
  subst e
  unfold above
  by_cases h : okT ⟨t.f0 + k, b⟩ = true
  · rw [if_pos ⟨hk.1, hk.2, h⟩]
    have r1 := hgt_range h
    have r2 := hgt_range ht
    refine EvP.yes rfl ?_
    refine EvP.bind (P := (· = hgt ⟨t.f0 + k, b⟩)) (EvP.con (impl_h h) rfl) (fun _ e => ?_)
    subst e
    refine EvP.bind (P := (· = hgt t)) (EvP.con (impl_h ht) rfl) (fun _ e => ?_)
    subst e
    rw [w64 (by omega) (by omega)]
    exact EvP.ite (fun e => hg ⟨h, e⟩) (fun e => hb (fun q => e q.2))
  · rw [if_neg (fun q => h q.2.2)]
    exact EvP.no (by simp) (hb (fun q => h q.1))
theorem go_mv {k : Int} (hk : -20 ≤ k ∧ k ≤ 20) (m : Int) : ∀ (l acc : List TnM), l.all okT = true → EvP (fun n => mmGo n k m l acc) (· = resM acc (mvAll k m l))
  | [], acc, _ => EvP.ret (by simp [mvAll, resM])
  | t :: ts, acc, h => by
    rw [List.all_cons, Bool.and_eq_true] at h
    simp only [mmGo]
    rw [resM_cons]
    unfold mv1
    refine try_mv h.1 hk m false (fun q => ?_) (fun q => ?_)
    · rw [if_pos q]
      exact go_mv hk m ts _ h.2
    · rw [if_neg q]
      refine try_mv h.1 hk m true (fun q => ?_) (fun q => ?_)
      · rw [if_pos q]
        exact go_mv hk m ts _ h.2
      · rw [if_neg q]
        exact EvP.ret rfl
theorem impl_moved {k : Int} (hk : -20 ≤ k ∧ k ≤ 20) (m : Int) (l : List TnM) (hl : l.length ≤ 1000000) (h : l.all okT = true) : EvP (fun n => impl_movedMelody.f n l k m) (· = resM [] (mvAll k m l)) := by
  simp only [impl_movedMelody.f]
  exact EvP.yes hl (go_mv hk m l [] h)
def mvTryP (l : List TnM) (k : Int) (t : TnM) (b : Bool) (bad : List TnM × Bool) : List TnM × Bool := if okT ⟨t.f0 + k, b⟩ = true then (match mvAll k (hgt ⟨t.f0 + k, b⟩ - hgt t) l with | some r => (r, true) | none => bad) else bad
def mvM (l : List TnM) (k : Int) : List TnM × Bool := match l with
  | [] => ([], true)
  | t :: ts => if okM (t :: ts) = true ∧ -20 ≤ k ∧ k ≤ 20 then mvTryP (t :: ts) k t false (mvTryP (t :: ts) k t true ([], false)) else ([], false)
theorem impl_mvtry {l : List TnM} {t : TnM} {ts : List TnM} (e : l = t :: ts) (hl : l.length ≤ 24) (h : l.all okT = true) {k : Int} (b : Bool) {bad : Nat → Option (List TnM × Bool)} {d : List TnM × Bool} (hb : EvP bad (· = d)) :
    EvP (fun n => mvTry n l k b (bad n)) (· = (if -20 ≤ k ∧ k ≤ 20 then mvTryP l k t b d else d)) := by
  have hr : rd_T25 l 0 = t := by
    subst e
    exact rdT_lt (l := t :: ts) (i := 0) (by simp)
  have ht : okT t = true := by
    subst e
    rw [List.all_cons, Bool.and_eq_true] at h
    exact h.1
  simp only [mvTry]
  rw [hr]
  refine EvP.bind (impl_above ht k b) (fun _ e => ?_)
  subst e
  unfold above mvTryP
  by_cases hk : -20 ≤ k ∧ k ≤ 20
  · rw [if_pos hk]
    by_cases h2 : okT ⟨t.f0 + k, b⟩ = true
    · rw [if_pos ⟨hk.1, hk.2, h2⟩, if_pos h2]
      have r1 := hgt_range h2
      have r2 := hgt_range ht
      refine EvP.yes rfl ?_
      refine EvP.bind (P := (· = hgt ⟨t.f0 + k, b⟩)) (EvP.con (impl_h h2) rfl) (fun _ e => ?_)
      subst e
      refine EvP.bind (P := (· = hgt t)) (EvP.con (impl_h ht) rfl) (fun _ e => ?_)
      subst e
      rw [w64 (by omega) (by omega)]
      refine EvP.bind (impl_moved hk _ l (by omega) h) (fun _ e => ?_)
      subst e
      cases mvAll k (hgt ⟨t.f0 + k, b⟩ - hgt t) l with
      | none => exact EvP.no (by simp [resM]) hb
      | some r => exact EvP.yes rfl (EvP.ret (by simp [resM]))
    · rw [if_neg (fun q => h2 q.2.2), if_neg h2]
      exact EvP.no (by simp) hb
  · rw [if_neg (fun q => hk ⟨q.1, q.2.1⟩), if_neg hk]
    exact EvP.no (by simp) hb
theorem impl_mv (l : List TnM) (k : Int) (hl : l.length ≤ 1000000) : EvP (fun n => impl_MelodyMove.f n l k) (· = mvM l k) := by
  simp only [impl_MelodyMove.f]
  refine EvP.yes hl ?_
  refine EvP.bind (impl_melody l) (fun _ e => ?_)
  subst e
  cases l with
  | nil => exact EvP.yes (by rfl) (EvP.yes rfl (EvP.ret rfl))
  | cons t ts =>
    unfold mvM
    refine EvP.ite (fun h => ?_) (fun h => EvP.ret (by simp only; rw [if_neg (fun q => h q.1)]))
    simp only
    have hm : (t :: ts).all okT = true ∧ (t :: ts).length ≤ 24 := by
      unfold okM at h
      rw [Bool.and_eq_true, decide_eq_true_eq] at h
      exact h
    refine EvP.no (by simp) ?_
    simp only [mvIn]
    refine (impl_mvtry rfl hm.2 hm.1 false (impl_mvtry rfl hm.2 hm.1 true (EvP.ret rfl))).mono (fun r hr => ?_)
    rw [hr]
    by_cases hk : -20 ≤ k ∧ k ≤ 20
    · rw [if_pos hk, if_pos hk, if_pos ⟨h, hk⟩]
    · rw [if_neg hk, if_neg hk, if_neg (fun q => hk q.2)]
theorem spec_try {t : TnM} (ht : okT t = true) {k : Int} (hk : -20 ≤ k ∧ k ≤ 20) (m : Int) (b : Bool) {good bad : Nat → Option (List TnM × Bool)} {P : List TnM × Bool → Prop}
    (hg : (okT ⟨t.f0 + k, b⟩ = true ∧ hgt ⟨t.f0 + k, b⟩ - hgt t = m) → EvP good P) (hb : ¬ (okT ⟨t.f0 + k, b⟩ = true ∧ hgt ⟨t.f0 + k, b⟩ - hgt t = m) → EvP bad P) :
    EvP (fun n => (spec_ToneValid.f (t.f0 + k) b).bind fun v => if v = true then ((spec_l1Height.f (t.f0 + k) b).bind fun x => (spec_l1Height.f t.f0 t.f1).bind fun y => if wrap64 (x - y) = m then good n else bad n) else bad n) P := by
  refine EvP.bind (P := (· = okT ⟨t.f0 + k, b⟩)) (EvP.con (spec_valid ⟨t.f0 + k, b⟩) rfl) (fun _ e => ?_)
  subst e
  refine EvP.ite (fun h => ?_) (fun h => hb (fun q => h q.1))
  have r1 := hgt_range h
  have r2 := hgt_range ht
  refine EvP.bind (P := (· = hgt ⟨t.f0 + k, b⟩)) (EvP.con (spec_h h) rfl) (fun _ e => ?_)
  subst e
  refine EvP.bind (P := (· = hgt t)) (EvP.con (spec_h ht) rfl) (fun _ e => ?_)
  subst e
  rw [w64 (by omega) (by omega)]
  exact EvP.ite (fun e => hg ⟨h, e⟩) (fun e => hb (fun q => e q.2))
theorem spec_moved_loop {k : Int} (hk : -20 ≤ k ∧ k ≤ 20) (m : Int) (l : List TnM) (hl : l.length ≤ 24) (h : l.all okT = true) : ∀ (d i : Nat) (acc : List TnM), i + d = l.length → acc.length = i → EvP (fun n => spec_l2Moved.l0 n l k m acc (i : Int)) (· = resM acc (mvAll k m (l.drop i))) := by
  intro d
  induction d with
  | zero =>
    intro i acc hi ha
    refine EvP.succ ?_
    simp only [spec_l2Moved.l0]
    refine EvP.no (by omega) (EvP.ret ?_)
    rw [List.drop_of_length_le (by omega)]
    simp [mvAll, resM]
  | succ d ih =>
    intro i acc hi ha
    have hlt : i < l.length := by omega
    have hok : okT l[i] = true := List.all_eq_true.mp h _ (List.getElem_mem hlt)
    have hr := ok_range hok
    have e1 : Hd (wrap64 ((i : Int) + 1) = ((i + 1 : Nat) : Int)) := ⟨w64 (by omega) (by omega)⟩
    have e2 : Hd (wrap64 (l[i].f0 + k) = l[i].f0 + k) := ⟨w64 (by omega) (by omega)⟩
    have w1 : wrap64 ((0 : Int) + 1) = 1 := by decide +kernel
    have w2 : wrap64 ((1 : Int) + 1) = 2 := by decide +kernel
    have hend : ∀ acc' : List TnM, acc'.length = i + 1 → EvP (fun n => spec_l2Moved.l0 n l k m acc' ((i + 1 : Nat) : Int)) (· = resM acc' (mvAll k m (l.drop (i + 1)))) := fun acc' ha' => ih (i + 1) acc' (by omega) ha'
    have found : ∀ (acc' : List TnM) (j : Int), acc'.length = i + 1 → EvP (fun n => spec_l2Moved.l1 n l k m acc' (i : Int) true j) (· = resM acc' (mvAll k m (l.drop (i + 1)))) := by
      intro acc' j ha'
      refine EvP.succ ?_
      simp only [spec_l2Moved.l1]
      refine EvP.ite (fun _ => ?_) (fun _ => ?_)
      all_goals
        refine EvP.succ ?_
        simp only [spec_l2Moved.j2]
        refine EvP.no (by simp) ?_
        refine EvP.congr_ (fun _ => if_pos trivial) ?_
        rw [e1.out]
        exact hend acc' ha'
    rw [List.drop_eq_getElem_cons hlt, resM_cons]
    unfold mv1
    refine EvP.succ ?_
    simp only [spec_l2Moved.l0]
    refine EvP.yes (by omega) (EvP.succ ?_)
    simp only [spec_l2Moved.l1]
    refine EvP.yes (by decide) (EvP.succ ?_)
    simp only [spec_l2Moved.j2]
    refine EvP.yes (by trivial) (EvP.yes (by omega) (EvP.yes (by omega) ?_))
    rw [rdT_lt hlt, e2.out, w1, show ((0 : Int) == 1) = false from rfl]
    refine spec_try hok hk m false (fun q => ?_) (fun q => ?_)
    · rw [if_pos q]
      exact EvP.yes (by omega) (found _ 1 (by simp; omega))
    · rw [if_neg q]
      refine EvP.succ ?_
      simp only [spec_l2Moved.l1]
      refine EvP.yes (by decide) (EvP.succ ?_)
      simp only [spec_l2Moved.j2]
      refine EvP.yes (by trivial) (EvP.yes (by omega) (EvP.yes (by omega) ?_))
      rw [rdT_lt hlt, e2.out, w2, show ((1 : Int) == 1) = true from rfl]
      refine spec_try hok hk m true (fun q => ?_) (fun q => ?_)
      · rw [if_pos q]
        exact EvP.yes (by omega) (found _ 2 (by simp; omega))
      · rw [if_neg q]
        refine EvP.succ ?_
        simp only [spec_l2Moved.l1]
        refine EvP.no (by decide) (EvP.succ ?_)
        simp only [spec_l2Moved.j2]
        exact EvP.no (by simp) (EvP.no (by simp) (EvP.ret rfl))
theorem spec_moved {k : Int} (hk : -20 ≤ k ∧ k ≤ 20) (m : Int) (l : List TnM) (hl : l.length ≤ 24) (h : l.all okT = true) : EvP (fun n => spec_l2Moved.f n l k m) (· = resM [] (mvAll k m l)) := by
  simp only [spec_l2Moved.f]
  exact spec_moved_loop hk m l hl h l.length 0 [] (by omega) rfl
theorem spec_mvtry {l : List TnM} {t : TnM} {ts : List TnM} (e : l = t :: ts) (hl : l.length ≤ 24) (h : l.all okT = true) {k : Int} (hk : -20 ≤ k ∧ k ≤ 20) (b : Bool) {bad : Nat → Option (List TnM × Bool)} {d : List TnM × Bool} (hb : EvP bad (· = d)) :
    EvP (fun n => (spec_ToneValid.f (t.f0 + k) b).bind fun v => if v = true then ((spec_l1Height.f (t.f0 + k) b).bind fun x => (spec_l1Height.f t.f0 t.f1).bind fun y => (spec_l2Moved.f n l k (wrap64 (x - y))).bind fun q => if q.2 = true then some (q.1, true) else bad n) else bad n) (· = mvTryP l k t b d) := by
  have ht : okT t = true := by
    subst e
    rw [List.all_cons, Bool.and_eq_true] at h
    exact h.1
  unfold mvTryP
  refine EvP.bind (P := (· = okT ⟨t.f0 + k, b⟩)) (EvP.con (spec_valid ⟨t.f0 + k, b⟩) rfl) (fun _ e => ?_)
  subst e
  refine EvP.ite (fun h2 => ?_) (fun h2 => by rw [if_neg h2]; exact hb)
  rw [if_pos h2]
  have r1 := hgt_range h2
  have r2 := hgt_range ht
  refine EvP.bind (P := (· = hgt ⟨t.f0 + k, b⟩)) (EvP.con (spec_h h2) rfl) (fun _ e => ?_)
  subst e
  refine EvP.bind (P := (· = hgt t)) (EvP.con (spec_h ht) rfl) (fun _ e => ?_)
  subst e
  rw [w64 (by omega) (by omega)]
  refine EvP.bind (spec_moved hk _ l hl h) (fun _ e => ?_)
  subst e
  cases mvAll k (hgt ⟨t.f0 + k, b⟩ - hgt t) l with
  | none => exact EvP.no (by simp [resM]) hb
  | some r => exact EvP.yes rfl (EvP.ret (by simp [resM]))
theorem spec_mv (l : List TnM) (k : Int) (hl : l.length ≤ 1000000) : EvP (fun n => spec_MelodyMove.f n l k) (· = mvM l k) := by
  simp only [spec_MelodyMove.f]
  cases l with
  | nil => exact EvP.yes (by rfl) (EvP.ret rfl)
  | cons t ts =>
    unfold mvM
    refine EvP.no (by simp; omega) ?_
    refine EvP.bind (spec_melody (t :: ts) (by omega)) (fun _ e => ?_)
    subst e
    refine EvP.ite (fun h => ?_) (fun h => ?_)
    · have hm : (t :: ts).all okT = true ∧ (t :: ts).length ≤ 24 := by
        unfold okM at h
        rw [Bool.and_eq_true, decide_eq_true_eq] at h
        exact h
      have ht : okT t = true := by
        have := hm.1
        rw [List.all_cons, Bool.and_eq_true] at this
        exact this.1
      have hr := ok_range ht
      refine EvP.bind (P := (· = (decide (-20 ≤ k) && decide (k ≤ 20)))) (EvP.con ?_ rfl) (fun _ e => ?_)
      · unfold spec_l6In.f
        by_cases h1 : k ≥ -20
        · by_cases h2 : k ≤ 20 <;> simp [h1, h2]
        · simp [h1]
      subst e
      refine EvP.succ ?_
      simp only [spec_MelodyMove.j0]
      by_cases hk : -20 ≤ k ∧ k ≤ 20
      · rw [if_pos ⟨h, hk⟩]
        refine EvP.no (by simp [hk.1, hk.2]) ?_
        have e2 : Hd (wrap64 (t.f0 + k) = t.f0 + k) := ⟨w64 (by omega) (by omega)⟩
        have h0 : rd_T25 (t :: ts) 0 = t := rdT_lt (l := t :: ts) (i := 0) (by simp)
        have w1 : wrap64 ((0 : Int) + 1) = 1 := by decide +kernel
        have w2 : wrap64 ((1 : Int) + 1) = 2 := by decide +kernel
        refine EvP.succ ?_
        simp only [spec_MelodyMove.l0]
        refine EvP.yes (by decide) (EvP.yes (by simp) ?_)
        rw [h0, e2.out, w1, show ((0 : Int) == 1) = false from rfl]
        refine spec_mvtry rfl hm.2 hm.1 hk false ?_
        refine EvP.succ ?_
        simp only [spec_MelodyMove.l0]
        refine EvP.yes (by decide) (EvP.yes (by simp) ?_)
        rw [h0, e2.out, w2, show ((1 : Int) == 1) = true from rfl]
        refine spec_mvtry rfl hm.2 hm.1 hk true ?_
        refine EvP.succ ?_
        simp only [spec_MelodyMove.l0]
        exact EvP.no (by decide) (EvP.ret rfl)
      · rw [if_neg (fun q => hk q.2)]
        refine EvP.yes ?_ (EvP.ret rfl)
        rw [Bool.not_eq_true', Bool.eq_false_iff]
        intro q
        rw [Bool.and_eq_true, decide_eq_true_eq, decide_eq_true_eq] at q
        exact hk q
    · simp only
      rw [if_neg (fun q => h q.1)]
      refine EvP.succ ?_
      simp only [spec_MelodyMove.j0]
      exact EvP.congr_ (fun _ => if_pos trivial) (EvP.ret rfl)
end Go.Proofs.YtlinjleahnccgaaDoor.Pur
end
